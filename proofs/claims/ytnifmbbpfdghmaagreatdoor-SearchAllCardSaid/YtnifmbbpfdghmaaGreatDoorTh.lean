/-
  Walks of search: All, the program's and the reference's; Refs, Up; the law's small, asked, light.
-/
import Derived.Test.YtnifmbbpfdghmaaGreatDoorTf
import Derived.Test.YtnifmbbpfdghmaaGreatDoorYn
import Derived.Test.YtnifmbbpfdghmaaGreatDoorYg
import Derived.Test.YtnifmbbpfdghmaaGreatDoorY1
set_option linter.all false
namespace Go.Proofs.YtnifmbbpfdghmaaGreatDoor
open Go.RowKit Go.En
theorem RQ_valW {P:Program} {n:Nat} {ops:List Oper} {Q:Post} {o:Oper} {rest tl:List Oper} {G:List (Nat × Ent)} {w0:World} {d:Nat} {v:Value} (hg:ggst ops G o=some true) (hd:odst n o.dst=some d)
    (h:∀ w δ,Ext w0 w→SatO o δ G w→Val P (mat δ G) w o v) (k:RQ P n ops w0 Q rest tl ((d,.v v)::G)):RQ P n ops w0 Q (o::rest) tl G:=
  RW_op (T:=.v v) hg (odst_eq hd).2 (fun _ _ _ _ _ h=>h) (fun w δ hw hs ρ ha=>.inl ⟨v,w,h w δ hw hs ρ ha,rfl,Ext.refl w⟩) (by rw [(odst_eq hd).1];exact k)
theorem ref_two:TwoInts Tryz.prog 106 3:=⟨by kernel_rfl,by kernel_rfl,by kernel_rfl,by kernel_rfl,Tryz.underlying3⟩
attribute [local irreducible] E EL K Val Enters Rt Calls bodyPost Code.wp RQ
theorem refs50_any (xs ys : List Rf) (u v : Value) (w : World) (hu : Sl w u xs) (hv : Sl w v ys) : Calls Tryz.prog 50 #[u, v] w (Rt fun r w' => r = .bool (decide (xs = ys)) ∧ Ext w w') := by
  refine calls_E (n:=26) (args:=[u,v]) Tryz.func50 rfl Tryz.ntmps50 (by simp) ?_
  have hu0:=hu
  have hv0:=hv
  obtain⟨a,cap,rfl,hc,hm,hp⟩:=hu.sl
  obtain⟨a',cap',rfl,hc',hm',hp'⟩:=hv.sl
  by_cases hl:xs.length=ys.length
  · (repeat' (first|(refine at_EL ?_;first|refine eN ?_|refine eV Z Z (zA Z Z) ?_|refine eV Z Z (zB Z Z) ?_|(refine at_bin ?_;first|refine eD Z Z (zQ Z Z Z) (fun hh=>?_) (fun hh=>?_))|(refine at_call ?_;first|refine eV Z Z (zK Z Z) ?_))|(refine at_K ?_;first|refine K_then ?_|refine K_then_ret ?_)|(refine at_E ?_;first|refine E_seq ?_|refine E_region ?_|refine E_cond_t Z ?_|refine E_cond_f Z ?_|refine E_block ?_|refine E_skip ?_|refine E_ret ?_)))
    all_goals (first|(exfalso;omega)|skip)
    refine E_loop (ι:=Nat) (fun i=>[(0,.slice a xs.length cap),(1,.slice a' ys.length cap'),(12,int xs.length),(13,int i)])
      (fun i wr=>i≤xs.length∧Ext w wr∧∀ j,j<i→xs[j]?=ys[j]?) (fun i=>xs.length-i) 0
      ⟨rfl,rfl,rfl,rfl,trivial⟩ ⟨Nat.zero_le _,Ext.refl _,fun j hj=>by omega⟩ ?_
    rintro i wr ⟨hi,hx,hall⟩
    by_cases hlt:i<xs.length
    · obtain⟨b,off,rfl⟩:=hp (by omega)
      obtain⟨b',off',rfl⟩:=hp' (by omega)
      obtain⟨x,hxx⟩:∃ x,xs[i]?=some x:=⟨_,List.getElem?_eq_getElem hlt⟩
      obtain⟨y,hyy⟩:∃ y,ys[i]?=some y:=⟨_,List.getElem?_eq_getElem (by omega)⟩
      have hcx:=rf_elem (hu0.ext hx) hxx
      have hcy:=rf_elem (hv0.ext hx) hyy
      by_cases hxy:x=y
      · have hr:false=!(decide (x.rcd=y.rcd)&&decide (x.note=y.note)):=by rw [hxy];simp
        (repeat' (first|refine yV Z Z (fun _ _ _=>val_indexAddr (m:=i) Z Z Z Z (by omega)) ?_|refine yV Z Z (fun wq _ xq=>val_loadA Z Z Z (hcx.ext xq) Z) ?_|refine yV Z Z (fun wq _ xq=>val_loadA Z Z Z (hcy.ext xq) Z) ?_|refine yV Z Z (fun _ _ _=>val_ne_two_b ref_two rfl rfl rfl hr) ?_|(refine at_EL ?_;first|refine eN ?_|refine eV Z Z (zA Z Z) ?_|refine eV Z Z (zB Z Z) ?_|(refine at_bin ?_;first|refine eD Z Z (zL Z Z Z) (fun hh=>?_) (fun hh=>?_)|refine eV Z Z (zU Z Z Z (by omega) (by omega)) ?_))|(refine at_K ?_;first|refine K_then ?_|refine K_in ?_|refine K_then_exit ?_|refine K_in_exit ?_)|(refine at_E ?_;first|refine E_seq ?_|refine E_region ?_|refine E_cond_t Z ?_|refine E_cond_f Z ?_|refine E_block ?_|refine E_skip ?_|refine E_ret ?_|refine E_exit ?_|refine E_dq mixedOk (by kernel_rfl) Z ?_)|(refine at_RQ ?_;first|refine yN Z (fun wq xq=>?_)|refine yV Z Z (fun _ _ _=>zA Z Z) ?_)))
        all_goals (first|(exfalso;omega)|skip)
        all_goals exact K_rnd (i+1) ⟨rfl,rfl,rfl,rfl,trivial⟩ ⟨by omega,hx.trans xq,fun j hj=>by
          by_cases e:j=i
          · subst e;rw [hxx,hyy,hxy]
          · exact hall j (by omega)⟩ (by omega)
      · have hr:true=!(decide (x.rcd=y.rcd)&&decide (x.note=y.note)):=by
          by_cases h1:x.rcd=y.rcd
          · by_cases h2:x.note=y.note
            · exact absurd (by cases x;cases y;simp_all) hxy
            · simp [h2]
          · simp [h1]
        (repeat' (first|refine yV Z Z (fun _ _ _=>val_indexAddr (m:=i) Z Z Z Z (by omega)) ?_|refine yV Z Z (fun wq _ xq=>val_loadA Z Z Z (hcx.ext xq) Z) ?_|refine yV Z Z (fun wq _ xq=>val_loadA Z Z Z (hcy.ext xq) Z) ?_|refine yV Z Z (fun _ _ _=>val_ne_two_b ref_two rfl rfl rfl hr) ?_|(refine at_EL ?_;first|refine eN ?_|refine eV Z Z (zA Z Z) ?_|refine eV Z Z (zB Z Z) ?_|(refine at_bin ?_;first|refine eD Z Z (zL Z Z Z) (fun hh=>?_) (fun hh=>?_)))|(refine at_K ?_;first|refine K_then ?_|refine K_then_ret ?_|refine K_then_exit ?_|refine K_in_ret ?_|refine K_in_exit ?_)|(refine at_E ?_;first|refine E_seq ?_|refine E_region ?_|refine E_cond_t Z ?_|refine E_cond_f Z ?_|refine E_block ?_|refine E_skip ?_|refine E_ret ?_|refine E_exit ?_|refine E_dq mixedOk (by kernel_rfl) Z ?_)|(refine at_RQ ?_;first|refine yN Z (fun wq xq=>?_)|refine yV Z Z (fun _ _ _=>zA Z Z) ?_)))
        all_goals (first|(exfalso;omega)|skip)
        all_goals exact ret_1 Z Z ⟨by rw [decide_eq_false (fun e=>hxy (by rw [e,hyy] at hxx;exact(Option.some.inj hxx).symm))],hx.trans xq⟩
    · (repeat' (first|(refine at_EL ?_;first|refine eN ?_|refine eV Z Z (zA Z Z) ?_|refine eV Z Z (zB Z Z) ?_|(refine at_bin ?_;first|refine eD Z Z (zL Z Z Z) (fun hh=>?_) (fun hh=>?_)))|(refine at_K ?_;first|refine K_then ?_|refine K_then_exit ?_|refine K_in_exit ?_)|(refine at_E ?_;first|refine E_seq ?_|refine E_region ?_|refine E_cond_t Z ?_|refine E_cond_f Z ?_|refine E_block ?_|refine E_skip ?_|refine E_ret ?_|refine E_exit ?_)))
      all_goals (first|(exfalso;omega)|skip)
      exact ret_1 Z Z ⟨by rw [decide_eq_true (List.ext_getElem? fun j=>by
        by_cases hj:j<xs.length
        · exact hall j (by omega)
        · rw [List.getElem?_eq_none (by omega),List.getElem?_eq_none (by omega)])],hx⟩
  · (repeat' (first|(refine at_EL ?_;first|refine eN ?_|refine eV Z Z (zA Z Z) ?_|refine eV Z Z (zB Z Z) ?_|(refine at_bin ?_;first|refine eD Z Z (zQ Z Z Z) (fun hh=>?_) (fun hh=>?_))|(refine at_call ?_;first|refine eV Z Z (zK Z Z) ?_))|(refine at_K ?_;first|refine K_then ?_|refine K_then_ret ?_)|(refine at_E ?_;first|refine E_seq ?_|refine E_region ?_|refine E_cond_t Z ?_|refine E_cond_f Z ?_|refine E_block ?_|refine E_skip ?_|refine E_ret ?_)))
    all_goals (first|(exfalso;omega)|skip)
    exact ret_1 Z Z ⟨by rw [decide_eq_false (fun e=>hl (by rw [e]))],Ext.refl _⟩
set_option maxHeartbeats 8000000 in
set_option maxRecDepth 8000 in
theorem sall51_any (docs:List Dc) (ixs:List XsL) (q:Qy) (hok:okQ q) (xv dv qv:Value) (w:World) (hx:Sl w xv ixs) (hd:Sl w dv docs) (hq:QAt w qv q) (hT:Tabs w) (hlen:docs.length≤4) (hL:∀ d∈docs,LightD d)
    (hK:∀(i:Nat) (x:XsL) (d:Dc),ixs.length=docs.length→ixs[i]?=some x→docs[i]?=some d→Fits x.xs∧Linked x.xs d) :
    Calls Tryz.prog 51 #[xv,dv,qv] w (Rt fun u w'=>Ext w w'∧Sl w' u (if ixs.length=docs.length then allF docs q else [])):=by
  have hx0:=hx
  have hd0:=hd
  have hq0:=hq
  obtain⟨xa,xc,rfl,_,_,hxp⟩:=hx.sl
  obtain⟨da,dc,rfl,_,_,hdp⟩:=hd.sl
  obtain⟨kv,rfl,hkv⟩:=hq
  refine calls_E (n:=47) (args:=[.slice xa ixs.length xc,.slice da docs.length dc,.agg #[int q.op,int q.role,str q.text,kv] ]) Tryz.func51 rfl Tryz.ntmps51 (by simp) ?_
  refine E_seq ?_
  refine E_region ?_
  refine EL_box Z Z Z Z (fun bQ wQ xQ hbQ rQ0=>?_)
  have rQ:Row wQ bQ 36 [int q.op,int q.role,str q.text,kv]:=rQ0
  clear rQ0
  by_cases hle:ixs.length=docs.length
  · rw [if_pos hle]
    have htot:∀ i,(allF (docs.take i) q).length≤56:=fun i=>by
      have:=allF_len (docs:=docs.take i) (fun e he=>hL e (List.mem_of_mem_take he)) q
      rw [List.length_take] at this
      omega
    (repeat' (first|(refine at_EL ?_;first|refine eN ?_|refine eV Z Z (zA Z Z) ?_|refine eV Z Z (zB Z Z) ?_|(refine at_bin ?_;first|refine eD Z Z (zQ Z Z Z) (fun hh=>?_) (fun hh=>?_))|(refine at_call ?_;first|refine eV Z Z (zK Z Z) ?_))|(refine at_K ?_;first|refine K_then ?_|refine K_then_ret ?_)|(refine at_E ?_;first|refine E_seq ?_|refine E_region ?_|refine E_cond_t Z ?_|refine E_cond_f Z ?_|refine E_block ?_|refine E_skip ?_|refine E_ret ?_)))
    all_goals (first|(exfalso;omega)|skip)
    refine E_loop (ι:=Nat × Value) (fun z=>[(0,.slice xa ixs.length xc),(5,.pointer (some ⟨bQ,0,none⟩)),(7,z.2),(17,.slice da docs.length dc),(18,int docs.length),(19,int z.1)])
      (fun z wr=>z.1≤docs.length∧Ext wQ wr∧wr.ownsRow wQ.heap.size 106 2 z.2 (allF (docs.take z.1) q).length ((allF (docs.take z.1) q).map rfC).flatten) (fun z=>docs.length-z.1) (0,.slice none 0 0)
      ⟨rfl,rfl,rfl,rfl,rfl,rfl,trivial⟩ ⟨Nat.zero_le _,Ext.refl _,World.ownsRow_nil _ _ _ _⟩ ?_
    rintro⟨i,vO⟩ wr ⟨hi,hxr,hown⟩
    dsimp only at hi hxr hown ⊢
    have hX:=xQ.trans hxr
    by_cases hlt:i<docs.length
    · obtain⟨b,off,rfl⟩:=hdp (by omega)
      obtain⟨b',off',rfl⟩:=hxp (by omega)
      obtain⟨d,hdi⟩:∃ d,docs[i]?=some d:=⟨_,List.getElem?_eq_getElem hlt⟩
      obtain⟨x,hxi⟩:∃ x,ixs[i]?=some x:=⟨_,List.getElem?_eq_getElem (by omega)⟩
      have h:=hL d (List.mem_of_getElem? hdi)
      obtain⟨a1,c1,a2,c2,a3,c3,hat,hdat⟩:=dc_elem (hd0.ext hX) hdi
      obtain⟨sa,sc,hatx,hsx⟩:=xs_elem (hx0.ext hX) hxi
      obtain⟨hf,hl⟩:=hK i x d hle hxi hdi
      (repeat' (first|refine eV Z Z (val_indexAddr (m:=i) Z Z Z Z (by omega)) ?_|refine eV Z Z (val_loadA Z Z Z hat rfl) ?_|refine EL_alloc Z Z Z (fun b9 w8 x8 hb9 r9=>?_)|refine EL_storeP (cs:=[int d.rid,str d.rname,int d.len,int d.day,.slice a1 d.sp.length c1,.slice a2 d.tiers.length c2,.slice a3 d.notes.length c3]) r9 x8 (by omega) Z Z Z Z Z Z Z Z (Nat.le_refl _) (fun w9 r9' x9 k9=>?_)|(refine at_EL ?_;first|refine eN ?_|refine eV Z Z (zA Z Z) ?_|refine eV Z Z (zB Z Z) ?_|(refine at_bin ?_;first|refine eD Z Z (zL Z Z Z) (fun hh=>?_) (fun hh=>?_)))|(refine at_K ?_;first|refine K_then ?_|refine K_then_exit ?_|refine K_in_exit ?_)|(refine at_E ?_;first|refine E_seq ?_|refine E_region ?_|refine E_cond_t Z ?_|refine E_cond_f Z ?_|refine E_block ?_|refine E_skip ?_|refine E_ret ?_|refine E_exit ?_)))
      all_goals (first|(exfalso;omega)|skip)
      have rD:Row w9 b9 28 [int d.rid,str d.rname,int d.len,int d.day,.slice a1 d.sp.length c1,.slice a2 d.tiers.length c2,.slice a3 d.notes.length c3]:=r9'
      clear r9 r9' k9
      have rQ9:=(rQ.ext hxr).ext x9
      have hatx9:=hatx.ext x9
      have hX9:=hX.trans x9
      have cr:∀ wq,Ext w9 wq→Calls Tryz.prog 47 #[.agg #[.slice sa x.xs.length sc],.agg #[int d.rid,str d.rname,int d.len,int d.day,.slice a1 d.sp.length c1,.slice a2 d.tiers.length c2,.slice a3 d.notes.length c3],.agg #[int q.op,int q.role,str q.text,kv] ] wq (Rt fun u w'=>Ext wq w'∧SlG (Nw wq) w' u (evF matchF d q)):=
        fun wq xq=>run47_any h hf hl q hok _ _ _ wq ((hsx.ext x9).ext xq) ((hdat.ext x9).ext xq) (hq0.ext (hX9.trans xq)) (Tabs.ext hT (hX9.trans xq))
      obtain⟨R,hRe⟩:∃ R,R=evF matchF d q:=⟨_,rfl⟩
      have hR14:=evF_len h matchF q
      rw [← hRe] at cr hR14
      have ho:=oneF_len h q
      (repeat' ((fail_if_success (refine E_seq (x:=(Code.block 2 _)) ?_));first|refine yV Z Z (fun _ _ _=>val_indexAddr (m:=i) Z Z Z Z (by omega)) ?_|refine yV Z Z (fun wq _ xq=>val_loadA (cs:=[.slice sa x.xs.length sc]) Z Z Z (hatx9.ext xq) Z) ?_|refine yV Z Z (fun wq _ xq=>val_loadA Z Z Z (rD.ext xq).at rfl) ?_|refine yV Z Z (fun wq _ xq=>val_loadA Z Z Z (rQ9.ext xq).at rfl) ?_|(refine RQ_callR (f:=47) (fun u w'=>SlG (Nw w9) w' u R) (fun _=>#[.agg #[.slice sa x.xs.length sc],.agg #[int d.rid,str d.rname,int d.len,int d.day,.slice a1 d.sp.length c1,.slice a2 d.tiers.length c2,.slice a3 d.notes.length c3],.agg #[int q.op,int q.role,str q.text,kv] ]) Z Z (fun _ _ _ _ xe h=>SlG.ext h xe) (fun _ _ _=>entersF Z Z en47) (fun wq _ xq _=>?_) ?_;exact calls_mono (cr wq xq) (fun _ _ hh=>⟨SlG.wk hh.2 (fun b hb=>Nat.le_trans xq.size hb),hh.1⟩))|(refine RQ_valW (v:=int (R.length:Nat)) Z Z (fun wq δ xq hd=>?_) ?_;(obtain⟨la,lc,e,_⟩:=(hd 30 rfl _ rfl).sl;exact val_len_sl (m:=R.length) Z (show some (δ 30)=_ by rw [e])))|refine RQ_end (fun wZ δ xZ hR=>?_)|(refine at_EL ?_;first|refine eN ?_)|(refine at_K ?_;first|refine K_then ?_)|(refine at_E ?_;first|refine E_block ?_|refine E_dq mixedOk (by kernel_rfl) Z ?_)|(refine at_RQ ?_;first|refine yV Z Z (fun _ _ _=>zA Z Z) ?_)))
      all_goals (first|(exfalso;omega)|skip)
      obtain⟨vR,hvR⟩:∃ vR,vR=δ 30:=⟨_,rfl⟩
      have sR:SlG (Nw w9) wZ vR R:=by rw [hvR];exact hR 30 _ rfl
      obtain⟨ra,rc,eR,_,_,hrp⟩:=sR.sl
      rw [eR] at hvR sR
      have hnO:∀ k,wr.heap.size≤k→Nb vO k:=fun k hk e=>by have:=hown.lt k e.symm;omega
      have h9:=x9.size
      refine E_loop (ι:=Nat × Value) (fun z=>[(0,.slice (some ⟨b',off',none⟩) ixs.length xc),(5,.pointer (some ⟨bQ,0,none⟩)),(7,z.2),(9,.pointer (some ⟨b9,0,none⟩)),(17,.slice (some ⟨b,off,none⟩) docs.length dc),(18,int docs.length),(19,int i),(30,.slice ra R.length rc),(31,int R.length),(32,int z.1)])
        (fun z wr=>z.1≤R.length∧Ext wQ wr∧SlG (Nb z.2) wr (.slice ra R.length rc) R∧Row wr b9 28 [int d.rid,str d.rname,int d.len,int d.day,.slice a1 d.sp.length c1,.slice a2 d.tiers.length c2,.slice a3 d.notes.length c3]∧Nb z.2 b9∧wr.ownsRow wQ.heap.size 106 2 z.2 (allF (docs.take i) q++(oneF d q).take z.1).length ((allF (docs.take i) q++(oneF d q).take z.1).map rfC).flatten) (fun z=>R.length-z.1) (0,vO)
        ⟨rfl,rfl,rfl,rfl,rfl,rfl,rfl,by rw [hvR];rfl,rfl,rfl,trivial⟩ ⟨Nat.zero_le _,hxr.trans (x9.trans xZ),SlG.wk sR (fun k hk=>hnO k (Nat.le_trans h9 hk)),rD.ext xZ,hnO b9 (by omega),by rw [List.take_zero,List.append_nil];exact own_ext hown (x9.trans xZ)⟩ ?_
      rintro⟨k,vP⟩ wk ⟨hk,hxk,sRk,rDk,hnb,hownk⟩
      dsimp only at hk hxk sRk rDk hnb hownk ⊢
      have hli:=htot i
      have hlk:((oneF d q).take k).length≤14:=Nat.le_trans (List.length_take_le _ _) (by omega)
      rw [List.length_append] at hownk
      by_cases hltk:k<R.length
      · obtain⟨rb,ro,rfl⟩:=hrp (by omega)
        obtain⟨id,hid⟩:∃ id,R[k]?=some id:=⟨_,List.getElem?_eq_getElem hltk⟩
        have hcid:=int_elem sRk.any hid
        rw [hRe] at hid
        have hsn:=one_snoc hid
        (repeat' (first|refine eV Z Z (val_indexAddr (m:=k) Z Z Z Z hltk) ?_|refine eV Z Z (val_load Z Z Z hcid) ?_|refine eV Z Z (val_load Z Z Z (rDk.cellAt (j:=0) Z)) ?_|refine eV Z Z (val_build (vs:=[(0,int d.rid),(1,int id)]) [int d.rid,int id] rfl rfl rfl) ?_|(refine EL_appO (news:=[int d.rid,int id]) (own_ext hownk xS) (hxk.trans xS) (fun _=>⟨_,_,rfl,rS.at⟩) Z Z Z Z Z Z Z Z Z (by omega) (by omega) (fun vJ wJ oJ xJ kJ hJ=>?_))|(refine at_EL ?_;first|refine eN ?_|refine eV Z Z (zA Z Z) ?_|refine eV Z Z (zB Z Z) ?_|(refine at_bin ?_;first|refine eD Z Z (zL Z Z Z) (fun hh=>?_) (fun hh=>?_)|refine eV Z Z (zU Z Z Z (by omega) (by omega)) ?_)|refine eV Z Z (zH Z Z) ?_|refine eL Z Z Z Z Z Z Z Z (fun bS wS xS hbS rS=>?_))|(refine at_K ?_;first|refine K_then ?_|refine K_in ?_|refine K_then_exit ?_|refine K_in_exit ?_)|(refine at_E ?_;first|refine E_seq ?_|refine E_region ?_|refine E_cond_t Z ?_|refine E_cond_f Z ?_|refine E_block ?_|refine E_skip ?_|refine E_exit ?_)))
        all_goals (first|(exfalso;omega)|skip)
        have hmv:=Nb.mv kJ hJ
        obtain⟨hn2,hb2⟩:=hmv b9 hnb (rDk.ext xS).lt
        refine K_rnd (k+1,vJ) ⟨rfl,rfl,rfl,rfl,rfl,rfl,rfl,rfl,rfl,rfl,trivial⟩ ⟨by dsimp only;omega,xJ,(sRk.ext xS).move hmv,hb2.trans (rDk.ext xS),hn2,?_⟩ (by dsimp only;omega)
        dsimp only
        rw [hsn,← List.append_assoc,List.map_append,List.flatten_append,List.length_append,List.length_append]
        exact oJ
      · obtain rfl:k=R.length:=by omega
        have hfull:(oneF d q).take R.length=oneF d q:=by
          rw [hRe];unfold oneF;rw [List.take_of_length_le (by rw [List.length_map];exact Nat.le_refl _)]
        rw [hfull] at hownk
        (repeat' (first|(refine at_EL ?_;first|refine eN ?_|refine eV Z Z (zA Z Z) ?_|(refine at_bin ?_;first|refine eD Z Z (zL Z Z Z) (fun hh=>?_) (fun hh=>?_)|refine eV Z Z (zU Z Z Z (by omega) (by omega)) ?_))|(refine at_K ?_;first|refine K_then ?_|refine K_in ?_|refine K_then_exit ?_|refine K_in_exit ?_)|(refine at_E ?_;first|refine E_seq ?_|refine E_region ?_|refine E_cond_t Z ?_|refine E_cond_f Z ?_|refine E_block ?_|refine E_skip ?_|refine E_exit ?_)))
        all_goals (first|(exfalso;omega)|skip)
        refine K_rnd (i+1,vP) ⟨rfl,rfl,rfl,rfl,rfl,rfl,trivial⟩ ⟨by dsimp only;omega,hxk,?_⟩ (by dsimp only;omega)
        dsimp only
        rw [allF_snoc hdi,List.length_append]
        exact hownk
    · obtain rfl:i=docs.length:=by omega
      rw [List.take_length] at hown
      have hli:=htot docs.length
      rw [List.take_length] at hli
      (repeat' (first|(refine at_EL ?_;first|refine eN ?_|refine eV Z Z (zA Z Z) ?_|refine eV Z Z (zB Z Z) ?_|(refine at_bin ?_;first|refine eD Z Z (zL Z Z Z) (fun hh=>?_) (fun hh=>?_)))|(refine at_K ?_;first|refine K_then ?_|refine K_then_exit ?_|refine K_in_exit ?_)|(refine at_E ?_;first|refine E_seq ?_|refine E_region ?_|refine E_cond_t Z ?_|refine E_cond_f Z ?_|refine E_block ?_|refine E_skip ?_|refine E_ret ?_|refine E_exit ?_)))
      all_goals (first|(exfalso;omega)|skip)
      exact ret_1 Z Z ⟨hX,own_Sl (css:=(allF docs q).map rfC) hown (rfs_ats _ _) Z (by omega)⟩
  · rw [if_neg hle]
    (repeat' (first|(refine at_EL ?_;first|refine eN ?_|refine eV Z Z (zA Z Z) ?_|refine eV Z Z (zB Z Z) ?_|(refine at_bin ?_;first|refine eD Z Z (zQ Z Z Z) (fun hh=>?_) (fun hh=>?_))|(refine at_call ?_;first|refine eV Z Z (zK Z Z) ?_))|(refine at_K ?_;first|refine K_then ?_|refine K_then_ret ?_)|(refine at_E ?_;first|refine E_seq ?_|refine E_region ?_|refine E_cond_t Z ?_|refine E_cond_f Z ?_|refine E_block ?_|refine E_skip ?_|refine E_ret ?_)))
    all_goals (first|(exfalso;omega)|skip)
    exact ret_1 Z Z ⟨xQ,SlG.nil⟩
set_option maxHeartbeats 8000000 in
set_option maxRecDepth 8000 in
theorem rall52_any (docs : List Dc) (ixs : List XsL) (q : Qy) (hok : okQ q) (xv dv qv : Value) (w : World) (hx : Sl w xv ixs) (hd : Sl w dv docs) (hq : QAt w qv q) (hlen : docs.length ≤ 4) (hL : ∀ d ∈ docs, LightD d) :
    Calls Tryz.prog 52 #[xv,dv,qv] w (Rt fun u w'=>Ext w w'∧Sl w' u (if ixs.length=docs.length then allF docs q else [])):=by
  have hx0:=hx
  have hd0:=hd
  have hq0:=hq
  obtain⟨xa,xc,rfl,_,_,hxp⟩:=hx.sl
  obtain⟨da,dc,rfl,_,_,hdp⟩:=hd.sl
  obtain⟨kv,rfl,hkv⟩:=hq
  refine calls_E (n:=53) (args:=[.slice xa ixs.length xc,.slice da docs.length dc,.agg #[int q.op,int q.role,str q.text,kv] ]) Tryz.func52 rfl Tryz.ntmps52 (by simp) ?_
  refine E_seq ?_
  refine E_region ?_
  refine EL_box Z Z Z Z (fun bQ wQ xQ hbQ rQ0=>?_)
  have rQ:Row wQ bQ 36 [int q.op,int q.role,str q.text,kv]:=rQ0
  clear rQ0
  by_cases hle:ixs.length=docs.length
  · rw [if_pos hle]
    have htot:∀ i,(allF (docs.take i) q).length≤56:=fun i=>by
      have:=allF_len (docs:=docs.take i) (fun e he=>hL e (List.mem_of_mem_take he)) q
      rw [List.length_take] at this
      omega
    (repeat' (first|(refine at_EL ?_;first|refine eN ?_|refine eV Z Z (zA Z Z) ?_|refine eV Z Z (zB Z Z) ?_|(refine at_bin ?_;first|refine eD Z Z (zQ Z Z Z) (fun hh=>?_) (fun hh=>?_))|(refine at_call ?_;first|refine eV Z Z (zK Z Z) ?_))|(refine at_K ?_;first|refine K_then ?_|refine K_then_ret ?_)|(refine at_E ?_;first|refine E_seq ?_|refine E_region ?_|refine E_cond_t Z ?_|refine E_cond_f Z ?_|refine E_block ?_|refine E_skip ?_|refine E_ret ?_)))
    all_goals (first|(exfalso;omega)|skip)
    refine E_loop (ι:=Nat × Value) (fun z=>[(0,.slice xa ixs.length xc),(1,.slice da docs.length dc),(5,.pointer (some ⟨bQ,0,none⟩)),(7,z.2),(17,int docs.length),(18,int z.1)])
      (fun z wr=>z.1≤docs.length∧Ext wQ wr∧wr.ownsRow wQ.heap.size 106 2 z.2 (allF (docs.take z.1) q).length ((allF (docs.take z.1) q).map rfC).flatten) (fun z=>docs.length-z.1) (0,.slice none 0 0)
      ⟨rfl,rfl,rfl,rfl,rfl,rfl,trivial⟩ ⟨Nat.zero_le _,Ext.refl _,World.ownsRow_nil _ _ _ _⟩ ?_
    rintro⟨i,vO⟩ wr ⟨hi,hxr,hown⟩
    dsimp only at hi hxr hown ⊢
    have hX:=xQ.trans hxr
    by_cases hlt:i<docs.length
    · obtain⟨b,off,rfl⟩:=hdp (by omega)
      obtain⟨b',off',rfl⟩:=hxp (by omega)
      obtain⟨d,hdi⟩:∃ d,docs[i]?=some d:=⟨_,List.getElem?_eq_getElem hlt⟩
      obtain⟨x,hxi⟩:∃ x,ixs[i]?=some x:=⟨_,List.getElem?_eq_getElem (by omega)⟩
      have h:=hL d (List.mem_of_getElem? hdi)
      obtain⟨a1,c1,a2,c2,a3,c3,hat,hdat⟩:=dc_elem (hd0.ext hX) hdi
      obtain⟨sa,sc,hatx,hsx⟩:=xs_elem (hx0.ext hX) hxi
      have rQ9:=rQ.ext hxr
      have cr:∀ wq,Ext wr wq→Calls Tryz.prog 99 #[.agg #[.slice sa x.xs.length sc],.agg #[int d.rid,str d.rname,int d.len,int d.day,.slice a1 d.sp.length c1,.slice a2 d.tiers.length c2,.slice a3 d.notes.length c3],.agg #[int q.op,int q.role,str q.text,kv] ] wq (Rt fun u w'=>Ext wq w'∧SlG (Nw wq) w' u (evF matchF d q)):=
        fun wq xq=>rrun99_any h q hok _ _ _ wq (hdat.ext xq) (hq0.ext (hX.trans xq))
      obtain⟨R,hRe⟩:∃ R,R=evF matchF d q:=⟨_,rfl⟩
      have hR14:=evF_len h matchF q
      rw [← hRe] at cr hR14
      have ho:=oneF_len h q
      (repeat' ((fail_if_success (refine E_seq (x:=(Code.region 8 _ _)) ?_));first|refine yV Z Z (fun _ _ _=>val_indexAddr (m:=i) Z Z Z Z (by omega)) ?_|refine yV Z Z (fun wq _ xq=>val_loadA (cs:=[.slice sa x.xs.length sc]) Z Z Z (hatx.ext xq) Z) ?_|refine yV Z Z (fun wq _ xq=>val_loadA Z Z Z (hat.ext xq) Z) ?_|refine yV Z Z (fun wq _ xq=>val_loadA Z Z Z (rQ9.ext xq).at rfl) ?_|(refine RQ_callR (f:=99) (fun u w'=>SlG (Nw wr) w' u R) (fun _=>#[.agg #[.slice sa x.xs.length sc],.agg #[int d.rid,str d.rname,int d.len,int d.day,.slice a1 d.sp.length c1,.slice a2 d.tiers.length c2,.slice a3 d.notes.length c3],.agg #[int q.op,int q.role,str q.text,kv] ]) Z Z (fun _ _ _ _ xe h=>SlG.ext h xe) (fun _ _ _=>entersF Z Z en99) (fun wq _ xq _=>?_) ?_;exact calls_mono (cr wq xq) (fun _ _ hh=>⟨SlG.wk hh.2 (fun b hb=>Nat.le_trans xq.size hb),hh.1⟩))|refine RQ_asgS Z Z Z Z (fun _=>rfl) ?_|refine RQ_end (fun wZ δ xZ hR=>?_)|(refine at_EL ?_;first|refine eN ?_|refine eV Z Z (zA Z Z) ?_|refine eV Z Z (zB Z Z) ?_|(refine at_bin ?_;first|refine eD Z Z (zL Z Z Z) (fun hh=>?_) (fun hh=>?_)))|(refine at_K ?_;first|refine K_then ?_|refine K_then_exit ?_|refine K_in_exit ?_)|(refine at_E ?_;first|refine E_seq ?_|refine E_region ?_|refine E_cond_t Z ?_|refine E_cond_f Z ?_|refine E_block ?_|refine E_skip ?_|refine E_ret ?_|refine E_exit ?_|refine E_dq mixedOk (by kernel_rfl) Z ?_)|(refine at_RQ ?_;first|refine yV Z Z (fun _ _ _=>zA Z Z) ?_)))
      all_goals (first|(exfalso;omega)|skip)
      obtain⟨vR,hvR⟩:∃ vR,vR=δ 9:=⟨_,rfl⟩
      have sR:SlG (Nw wr) wZ vR R:=by rw [hvR];exact hR 9 _ rfl
      obtain⟨ra,rc,eR,_,_,hrp⟩:=sR.sl
      rw [eR] at hvR sR
      have hnO:∀ k,wr.heap.size≤k→Nb vO k:=fun k hk e=>by have:=hown.lt k e.symm;omega
      refine E.sub (M:=[(0,.slice (some ⟨b',off',none⟩) ixs.length xc),(1,.slice (some ⟨b,off,none⟩) docs.length dc),(5,.pointer (some ⟨bQ,0,none⟩)),(7,vO),(8,int i),(9,.slice ra R.length rc),(17,int docs.length),(18,int i)]) ⟨rfl,rfl,rfl,rfl,rfl,by rw [hvR];rfl,rfl,rfl,trivial⟩ ?_
      (repeat' (first|(refine at_EL ?_;first|refine eN ?_|refine eV Z Z (zA Z Z) ?_|(refine at_call ?_;first|refine eV Z Z (zK Z Z) ?_))|(refine at_K ?_;first|refine K_then ?_)|(refine at_E ?_;first|refine E_seq ?_|refine E_region ?_|refine E_block ?_)))
      refine E_loop (ι:=Nat × Value) (fun z=>[(0,.slice (some ⟨b',off',none⟩) ixs.length xc),(1,.slice (some ⟨b,off,none⟩) docs.length dc),(5,.pointer (some ⟨bQ,0,none⟩)),(7,z.2),(8,int i),(9,.slice ra R.length rc),(17,int docs.length),(18,int i),(32,int R.length),(33,int z.1)])
        (fun z wr=>z.1≤R.length∧Ext wQ wr∧SlG (Nb z.2) wr (.slice ra R.length rc) R∧wr.ownsRow wQ.heap.size 106 2 z.2 (allF (docs.take i) q++(oneF d q).take z.1).length ((allF (docs.take i) q++(oneF d q).take z.1).map rfC).flatten) (fun z=>R.length-z.1) (0,vO)
        ⟨rfl,rfl,rfl,rfl,rfl,rfl,rfl,rfl,rfl,rfl,trivial⟩ ⟨Nat.zero_le _,hxr.trans xZ,SlG.wk sR hnO,by rw [List.take_zero,List.append_nil];exact own_ext hown xZ⟩ ?_
      rintro⟨k,vP⟩ wk ⟨hk,hxk,sRk,hownk⟩
      dsimp only at hk hxk sRk hownk ⊢
      have hli:=htot i
      have hlk:((oneF d q).take k).length≤14:=Nat.le_trans (List.length_take_le _ _) (by omega)
      rw [List.length_append] at hownk
      by_cases hltk:k<R.length
      · obtain⟨rb,ro,rfl⟩:=hrp (by omega)
        obtain⟨id,hid⟩:∃ id,R[k]?=some id:=⟨_,List.getElem?_eq_getElem hltk⟩
        have hcid:=int_elem sRk.any hid
        rw [hRe] at hid
        have hsn:=one_snoc hid
        obtain⟨e1,f1,e2,f2,e3,f3,hatk,_⟩:=dc_elem (hd0.ext (xQ.trans hxk)) hdi
        (repeat' (first|(refine at_EL ?_;first|refine eN ?_|refine eV Z Z (zA Z Z) ?_|refine eV Z Z (zB Z Z) ?_|(refine at_bin ?_;first|refine eD Z Z (zL Z Z Z) (fun hh=>?_) (fun hh=>?_)|refine eV Z Z (zU Z Z Z (by omega) (by omega)) ?_))|(refine at_K ?_;first|refine K_then ?_|refine K_in ?_|refine K_then_exit ?_|refine K_in_exit ?_)|(refine at_E ?_;first|refine E_seq ?_|refine E_region ?_|refine E_cond_t Z ?_|refine E_cond_f Z ?_|refine E_block ?_|refine E_skip ?_|refine E_exit ?_)))
        all_goals (first|(exfalso;omega)|skip)
        refine E_dm 13 mixedOk (by kernel_rfl) Z ?_
        (repeat' (first|refine yV Z Z (fun _ _ _=>val_indexAddr (m:=i) Z Z Z Z hlt) ?_|refine yV Z Z (fun _ _ _=>val_indexAddr (m:=k) Z Z Z Z hltk) ?_|refine yV Z Z (fun wq _ xq=>val_load Z Z Z (xq.cell hcid)) ?_|refine yV Z Z (fun wq _ xq=>val_load Z Z Z ((hatk.ext xq).cellAt (j:=0) Z)) ?_|refine yV Z Z (fun _ _ _=>val_build (vs:=[(0,int d.rid),(1,int id)]) [int d.rid,int id] rfl rfl rfl) ?_|refine RQ_lit Z Z Z (fun _=>rfl) Z Z Z Z ?_|refine RQ_end (fun wq δ xq hR=>?_)|(refine at_RQ ?_;first|refine yV Z Z (fun _ _ _=>zA Z Z) ?_|refine yV Z Z (fun _ _ _=>zH Z Z) ?_)))
        obtain⟨b5,e5,hb5,r5⟩:=hR 48 _ rfl
        refine EL_appO (news:=[int d.rid,int id]) (own_ext hownk xq) (hxk.trans xq) (fun _=>⟨b5,0,rfl,r5.at⟩) Z Z Z Z (show some (δ 48)=_ by rw [e5]) Z Z Z Z (by omega) (by omega) (fun vJ wJ oJ xJ kJ hJ=>?_)
        (repeat' (first|(refine at_EL ?_;first|refine eN ?_|refine eV Z Z (zA Z Z) ?_|refine eV Z Z (zB Z Z) ?_|(refine at_bin ?_;first|refine eV Z Z (zU Z Z Z (by omega) (by omega)) ?_))|(refine at_K ?_;first|refine K_then ?_|refine K_in ?_)|(refine at_E ?_;first|refine E_region ?_)))
        have hmv:=Nb.mv kJ hJ
        refine K_rnd (k+1,vJ) ⟨rfl,rfl,rfl,rfl,rfl,rfl,rfl,rfl,rfl,rfl,trivial⟩ ⟨by dsimp only;omega,xJ,(sRk.ext xq).move hmv,?_⟩ (by dsimp only;omega)
        dsimp only
        rw [hsn,← List.append_assoc,List.map_append,List.flatten_append,List.length_append,List.length_append]
        exact oJ
      · obtain rfl:k=R.length:=by omega
        have hfull:(oneF d q).take R.length=oneF d q:=by
          rw [hRe];unfold oneF;rw [List.take_of_length_le (by rw [List.length_map];exact Nat.le_refl _)]
        rw [hfull] at hownk
        (repeat' (first|(refine at_EL ?_;first|refine eN ?_|refine eV Z Z (zA Z Z) ?_|refine eV Z Z (zB Z Z) ?_|(refine at_bin ?_;first|refine eD Z Z (zL Z Z Z) (fun hh=>?_) (fun hh=>?_)|refine eV Z Z (zU Z Z Z (by omega) (by omega)) ?_))|(refine at_K ?_;first|refine K_then ?_|refine K_in ?_|refine K_then_exit ?_|refine K_in_exit ?_)|(refine at_E ?_;first|refine E_seq ?_|refine E_region ?_|refine E_cond_t Z ?_|refine E_cond_f Z ?_|refine E_block ?_|refine E_skip ?_|refine E_exit ?_)))
        all_goals (first|(exfalso;omega)|skip)
        refine K_rnd (i+1,vP) ⟨rfl,rfl,rfl,rfl,rfl,rfl,trivial⟩ ⟨by dsimp only;omega,hxk,?_⟩ (by dsimp only;omega)
        dsimp only
        rw [allF_snoc hdi,List.length_append]
        exact hownk
    · obtain rfl:i=docs.length:=by omega
      rw [List.take_length] at hown
      have hli:=htot docs.length
      rw [List.take_length] at hli
      (repeat' (first|(refine at_EL ?_;first|refine eN ?_|refine eV Z Z (zA Z Z) ?_|refine eV Z Z (zB Z Z) ?_|(refine at_bin ?_;first|refine eD Z Z (zL Z Z Z) (fun hh=>?_) (fun hh=>?_)))|(refine at_K ?_;first|refine K_then ?_|refine K_then_exit ?_|refine K_in_exit ?_)|(refine at_E ?_;first|refine E_seq ?_|refine E_region ?_|refine E_cond_t Z ?_|refine E_cond_f Z ?_|refine E_block ?_|refine E_skip ?_|refine E_ret ?_|refine E_exit ?_)))
      all_goals (first|(exfalso;omega)|skip)
      exact ret_1 Z Z ⟨hX,own_Sl (css:=(allF docs q).map rfC) hown (rfs_ats _ _) Z (by omega)⟩
  · rw [if_neg hle]
    (repeat' (first|(refine at_EL ?_;first|refine eN ?_|refine eV Z Z (zA Z Z) ?_|refine eV Z Z (zB Z Z) ?_|(refine at_bin ?_;first|refine eD Z Z (zQ Z Z Z) (fun hh=>?_) (fun hh=>?_))|(refine at_call ?_;first|refine eV Z Z (zK Z Z) ?_))|(refine at_K ?_;first|refine K_then ?_|refine K_then_ret ?_)|(refine at_E ?_;first|refine E_seq ?_|refine E_region ?_|refine E_cond_t Z ?_|refine E_cond_f Z ?_|refine E_block ?_|refine E_skip ?_|refine E_ret ?_)))
    all_goals (first|(exfalso;omega)|skip)
    exact ret_1 Z Z ⟨xQ,SlG.nil⟩
end Go.Proofs.YtnifmbbpfdghmaaGreatDoor
