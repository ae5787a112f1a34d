/-
  Walks of the reference's match: Role, text; of the tier of a role. Walks of match: Holds; of the reference's Eval and Holds.
-/
import Derived.Test.YtnifmbbpfdghmaaGreatDoorNi
import Derived.Test.YtnifmbbpfdghmaaGreatDoorQe
import Derived.Test.YtnifmbbpfdghmaaGreatDoorY3
set_option linter.all false
namespace Go.Proofs.YtnifmbbpfdghmaaGreatDoor
open Go.RowKit Go.En
theorem sl_cast {w:World} {v:Value} {l l':List Int} (h:Sl w v l) (e:l=l'):Sl w v l':=e▸h
attribute [local irreducible] E EL K Val Enters Rt Calls bodyPost Code.wp RQ
set_option maxHeartbeats 4000000 in
set_option maxRecDepth 8000 in
theorem role123_any (d : Dc) (tv : Value) (role : Int) (w : World) (ht : Sl w tv d.tiers) : Calls Tryz.prog 123 #[tv, int role] w (Rt fun u w' => u = int (roleF d role) ∧ Ext w w') := by
  have ht0:=ht
  obtain⟨a,cap,rfl,hc,hm,hp⟩:=ht.sl
  refine calls_E (n:=24) (args:=[.slice a d.tiers.length cap,int role]) Tryz.func123 rfl Tryz.ntmps123 (by simp) ?_
  (repeat' (first|(refine at_EL ?_;first|refine eN ?_|refine eV Z Z (zB Z Z) ?_)|(refine at_K ?_;first|refine K_then ?_)|(refine at_E ?_;first|refine E_seq ?_|refine E_region ?_|refine E_block ?_)))
  refine E_loop (ι:=Nat) (fun i=>[(0,.slice a d.tiers.length cap),(1,int role),(5,int i)])
    (fun i wr=>i≤d.tiers.length∧wr=w∧(role=0∨∀ j,j<i→∀ t,d.tiers[j]?=some t→t.role≠role)) (fun i=>d.tiers.length-i) 0
    ⟨rfl,rfl,rfl,trivial⟩ ⟨Nat.zero_le _,rfl,.inr (fun j hj=>absurd hj (by omega))⟩ ?_
  rintro i wr ⟨hi,rfl,hall⟩
  by_cases hlt:i<d.tiers.length
  · obtain⟨b,off,rfl⟩:=hp (by omega)
    obtain⟨t,hti⟩:∃ t,d.tiers[i]?=some t:=⟨_,List.getElem?_eq_getElem hlt⟩
    have hat:=tier_elem ht0 hti
    by_cases h0:role=0
    · subst h0
      (repeat' (first|(refine at_EL ?_;first|refine eN ?_|refine eO Z Z ?_|refine eV Z Z (zA Z Z) ?_|refine eV Z Z (zB Z Z) ?_|(refine at_bin ?_;first|refine eD Z Z (zL Z Z Z) (fun hh=>?_) (fun hh=>?_)|refine eD Z Z (zQ Z Z Z) (fun hh=>?_) (fun hh=>?_)|refine eV Z Z (zU Z Z Z (by omega) (by omega)) ?_)|(refine at_call ?_;first|refine eV Z Z (zK Z Z) ?_)|refine eV Z Z (zD Z Z Z) ?_)|(refine at_K ?_;first|refine K_then ?_|refine K_in ?_|refine K_then_exit ?_|refine K_in_exit ?_)|(refine at_E ?_;first|refine E_seq ?_|refine E_region ?_|refine E_cond_t Z ?_|refine E_cond_f Z ?_|refine E_block ?_|refine E_skip ?_|refine E_ret ?_|refine E_exit ?_)))
      all_goals (first|(exfalso;omega)|skip)
      exact K_rnd (i+1) ⟨rfl,rfl,rfl,trivial⟩ ⟨by omega,rfl,.inl rfl⟩ (by omega)
    · have hall':=hall.resolve_left h0
      by_cases hr:t.role=role
      · (repeat' (first|refine eV Z Z (val_indexAddr (m:=i) Z Z Z Z hlt) ?_|refine eV Z Z (val_load Z Z Z (hat.cellAt (j:=2) Z)) ?_|(refine at_EL ?_;first|refine eN ?_|refine eO Z Z ?_|refine eV Z Z (zA Z Z) ?_|refine eV Z Z (zB Z Z) ?_|(refine at_bin ?_;first|refine eD Z Z (zL Z Z Z) (fun hh=>?_) (fun hh=>?_)|refine eD Z Z (zM Z Z Z) (fun hh=>?_) (fun hh=>?_)|refine eD Z Z (zQ Z Z Z) (fun hh=>?_) (fun hh=>?_)|refine eV Z Z (zU Z Z Z (by omega) (by omega)) ?_)|(refine at_call ?_;first|refine eV Z Z (zK Z Z) ?_)|refine eV Z Z (zC Z Z Z) ?_|refine eV Z Z (zD Z Z Z) ?_|refine eV Z Z (zH Z Z) ?_)|(refine at_K ?_;first|refine K_then ?_|refine K_in ?_|refine K_then_ret ?_|refine K_then_exit ?_|refine K_in_ret ?_|refine K_in_exit ?_)|(refine at_E ?_;first|refine E_seq ?_|refine E_region ?_|refine E_cond_t Z ?_|refine E_cond_f Z ?_|refine E_block ?_|refine E_skip ?_|refine E_ret ?_|refine E_exit ?_)))
        all_goals (first|(exfalso;omega)|skip)
        exact ret_1 Z Z ⟨by rw [roleF_at h0 hti hr hall'],Ext.refl _⟩
      · (repeat' (first|refine eV Z Z (val_indexAddr (m:=i) Z Z Z Z hlt) ?_|refine eV Z Z (val_load Z Z Z (hat.cellAt (j:=2) Z)) ?_|(refine at_EL ?_;first|refine eN ?_|refine eO Z Z ?_|refine eV Z Z (zA Z Z) ?_|refine eV Z Z (zB Z Z) ?_|(refine at_bin ?_;first|refine eD Z Z (zL Z Z Z) (fun hh=>?_) (fun hh=>?_)|refine eD Z Z (zM Z Z Z) (fun hh=>?_) (fun hh=>?_)|refine eD Z Z (zQ Z Z Z) (fun hh=>?_) (fun hh=>?_)|refine eV Z Z (zU Z Z Z (by omega) (by omega)) ?_)|(refine at_call ?_;first|refine eV Z Z (zK Z Z) ?_)|refine eV Z Z (zC Z Z Z) ?_|refine eV Z Z (zD Z Z Z) ?_|refine eV Z Z (zH Z Z) ?_)|(refine at_K ?_;first|refine K_then ?_|refine K_in ?_|refine K_then_ret ?_|refine K_then_exit ?_|refine K_in_ret ?_|refine K_in_exit ?_)|(refine at_E ?_;first|refine E_seq ?_|refine E_region ?_|refine E_cond_t Z ?_|refine E_cond_f Z ?_|refine E_block ?_|refine E_skip ?_|refine E_ret ?_|refine E_exit ?_)))
        all_goals (first|(exfalso;omega)|skip)
        refine K_rnd (i+1) ⟨rfl,rfl,rfl,trivial⟩ ⟨by omega,rfl,.inr (fun j hj t' ht'=>?_)⟩ (by omega)
        by_cases e:j=i
        · subst e
          rw [hti] at ht'
          cases ht'
          exact hr
        · exact hall' j (by omega) t' ht'
  · obtain rfl:i=d.tiers.length:=by omega
    (repeat' (first|(refine at_EL ?_;first|refine eN ?_|refine eO Z Z ?_|refine eV Z Z (zA Z Z) ?_|refine eV Z Z (zB Z Z) ?_|(refine at_bin ?_;first|refine eD Z Z (zL Z Z Z) (fun hh=>?_) (fun hh=>?_)|refine eD Z Z (zQ Z Z Z) (fun hh=>?_) (fun hh=>?_)|refine eV Z Z (zU Z Z Z (by omega) (by omega)) ?_)|(refine at_call ?_;first|refine eV Z Z (zK Z Z) ?_)|refine eV Z Z (zD Z Z Z) ?_)|(refine at_K ?_;first|refine K_then ?_|refine K_in ?_|refine K_then_exit ?_|refine K_in_exit ?_)|(refine at_E ?_;first|refine E_seq ?_|refine E_region ?_|refine E_cond_t Z ?_|refine E_cond_f Z ?_|refine E_block ?_|refine E_skip ?_|refine E_ret ?_|refine E_exit ?_)))
    all_goals (first|(exfalso;omega)|skip)
    exact ret_1 Z Z ⟨by rw [roleF_none (hall.imp id fun h j t ht=>h j (List.getElem?_eq_some_iff.1 ht).1 t ht)],Ext.refl _⟩
set_option maxHeartbeats 4000000 in
set_option maxRecDepth 8000 in
theorem rrole_any {d:Dc} (h:LightD d) (v:Value) (role:Int) (w:World) (hv:DcAt w v d):Calls Tryz.prog 88 #[v,int role] w (Rt fun u w'=>Ext w w'∧Sl w' u (idsOf d (ofRoleP d role))):=by
  have hd0:=hv
  have hrl:=roleL_len h role
  obtain⟨sv,tv,nv,rfl,_,ht,_⟩:=hv
  refine calls_E (n:=12) (args:=[.agg #[int d.rid,str d.rname,int d.len,int d.day,sv,tv,nv],int role]) Tryz.func88 rfl Tryz.ntmps88 (by simp) ?_
  refine E_seq ?_
  refine E_region ?_
  refine EL_box Z Z Z Z (fun bD wD xD hbD rD0=>?_)
  have rD:Row wD bD 28 [int d.rid,str d.rname,int d.len,int d.day,sv,tv,nv]:=rD0
  clear rD0
  (repeat' (first|refine yV Z Z (fun wq _ xq=>val_loadA Z Z Z (rD.ext xq).at rfl) ?_|refine yV Z Z (fun wq _ xq=>val_load Z Z Z ((rD.ext xq).cellAt (j:=5) Z)) ?_|refine RQ_call Z Z (fun _ _ _=>entersF Z Z en123) (fun wq xq=>role123_any d tv role wq (ht.ext (xD.trans xq))) ?_|(refine RQ_callR (f:=113) (fun u w'=>Sl w' u (roleL d role)) (fun _=>#[.agg #[int d.rid,str d.rname,int d.len,int d.day,sv,tv,nv],int (roleF d role)]) Z Z (fun _ _ _ _ xe h=>SlG.ext h xe) (fun _ _ _=>entersF Z Z en113) (fun wq _ xq _=>?_) ?_;exact calls_mono (refof_any h _ (roleF d role) wq (hd0.ext (xD.trans xq))) (fun _ _ hh=>⟨hh.2,hh.1⟩))|(refine RQ_callR (f:=102) (fun u w'=>Sl w' u (idsOf d (ofRoleP d role))) (fun δ=>#[δ 10]) Z Z (fun _ _ _ _ xe h=>SlG.ext h xe) (fun _ _ _=>entersF Z Z en102) (fun wq δ xq hd=>?_) ?_;exact calls_mono (sorted_any (roleL d role) _ wq (hd 10 rfl _ rfl) (by omega)) (fun _ _ hh=>⟨sl_cast hh.2 (role_ids h role),hh.1⟩))|refine RQ_asgS Z Z Z Z (fun _=>rfl) ?_|refine RQ_end (fun wq δ xq hR=>?_)|(refine at_EL ?_;first|refine eN ?_|refine eV Z Z (zB Z Z) ?_)|(refine at_K ?_;first|refine K_then ?_)|(refine at_E ?_;first|refine E_seq ?_|refine E_ret ?_|refine E_dq mixedOk (by kernel_rfl) Z ?_)|(refine at_RQ ?_;first|refine yV Z Z (fun _ _ _=>zA Z Z) ?_|refine yV Z Z (fun _ _ _=>zH Z Z) ?_)))
  exact ret_1 Z Z ⟨xD.trans xq,hR 4 _ rfl⟩
set_option maxHeartbeats 4000000 in
set_option maxRecDepth 8000 in
theorem rtextW_any {d:Dc} (h:LightD d) (v:Value) (role:Int) (txt:List UInt8) (w:World) (hv:DcAt w v d):Calls Tryz.prog 87 #[v,int role,str txt] w (Rt fun u w'=>Ext w w'∧SlG (Nw w) w' u (idsOf d (textP matchF d role txt))):=by
  have hN:=h.nnotes
  have hd0:=hv
  obtain⟨sv,tv,nv,rfl,_,ht,_⟩:=hv
  refine calls_E (n:=42) (args:=[.agg #[int d.rid,str d.rname,int d.len,int d.day,sv,tv,nv],int role,str txt]) Tryz.func87 rfl Tryz.ntmps87 (by simp) ?_
  refine E_seq ?_
  refine E_region ?_
  refine EL_box Z Z Z Z (fun bD wD xD hbD rD0=>?_)
  have rD:Row wD bD 28 [int d.rid,str d.rname,int d.len,int d.day,sv,tv,nv]:=rD0
  clear rD0
  have c1:=rrole_any h _ role wD (hd0.ext xD)
  (repeat' (first|refine eV Z Z (val_loadA Z Z Z rD.at rfl) ?_|(refine EL_call Z Z (entersF Z Z en88) c1 (fun vX wX hC=>?_);obtain⟨xX,sX⟩:=hC)|(refine at_EL ?_;first|refine eN ?_|refine eV Z Z (zA Z Z) ?_|refine eV Z Z (zB Z Z) ?_)|(refine at_K ?_;first|refine K_then ?_)|(refine at_E ?_;first|refine E_seq ?_|refine E_region ?_|refine E_block ?_)))
  have rDX:=rD.ext xX
  have XX:=xD.trans xX
  have hdX:=hd0.ext XX
  obtain⟨X,hXe⟩:∃ X,X=idsOf d (ofRoleP d role):=⟨_,rfl⟩
  rw [← hXe] at sX
  have hXl:X.length≤14:=by rw [hXe];exact Nat.le_trans (idsOf_len _) hN
  have sX0:=sX
  obtain⟨xa,xc,rfl,hxc,_,hxp⟩:=sX.sl
  obtain⟨p,hp⟩:∃ p:Int→Bool,p=fun x=>matchF txt (curN d.notes x).text:=⟨_,rfl⟩
  refine E_loop (ι:=Nat × Value) (fun s=>[(2,str txt),(3,.pointer (some ⟨bD,0,none⟩)),(7,s.2),(8,.slice xa X.length xc),(9,int s.1)])
    (fun s wr=>s.1≤X.length∧Ext wX wr∧wr.ownsRow wX.heap.size 3 1 s.2 ((X.take s.1).filter p).length (((X.take s.1).filter p).map int)) (fun s=>X.length-s.1) (0,.slice none 0 0)
    ⟨rfl,rfl,rfl,rfl,rfl,trivial⟩ ⟨Nat.zero_le _,Ext.refl _,World.ownsRow_nil _ _ _ _⟩ ?_
  rintro⟨i,vO⟩ wr ⟨hi,hx,hown⟩
  dsimp only at hi hx hown ⊢
  have rDr:=rDX.ext hx
  have hfl:((X.take i).filter p).length≤14:=Nat.le_trans (List.length_filter_le _ _) (Nat.le_trans (List.length_take_le _ _) (by omega))
  by_cases hlt:i<X.length
  · obtain⟨bb,off,rfl⟩:=hxp (by omega)
    obtain⟨x,hx1⟩:∃ x,X[i]?=some x:=⟨_,List.getElem?_eq_getElem hlt⟩
    have hcx:=int_elem (sX0.ext hx) hx1
    have hfs:=filter_snoc (p:=p) hx1
    have hct:=cur_text h x
    obtain⟨n,hn⟩:∃ n,n=curN d.notes x:=⟨_,rfl⟩
    have hpx0:p x=matchF txt n.text:=by rw [hp,hn]
    rw [← hn] at hct
    have cget:∀ wq,Ext wr wq→Calls Tryz.prog 59 #[.agg #[int d.rid,str d.rname,int d.len,int d.day,sv,tv,nv],int x] wq (Rt fun u w'=>u=.tuple #[.agg (noteC n).toArray,.bool (getF d.notes x).isSome]∧Ext wq w'):=fun wq xq=>by
      have:=get_any d _ x wq (hdX.ext (hx.trans xq))
      rw [getR_cur,← hn] at this
      exact this
    (repeat' ((fail_if_success (refine E_seq (x:=(Code.region 6 _ _)) ?_));first|(refine at_EL ?_;first|refine eN ?_|refine eV Z Z (zA Z Z) ?_|refine eV Z Z (zB Z Z) ?_|(refine at_bin ?_;first|refine eD Z Z (zL Z Z Z) (fun hh=>?_) (fun hh=>?_))|(refine at_call ?_;first|refine eV Z Z (zK Z Z) ?_))|(refine at_K ?_;first|refine K_then ?_|refine K_then_exit ?_|refine K_in_exit ?_)|(refine at_E ?_;first|refine E_seq ?_|refine E_region ?_|refine E_cond_t Z ?_|refine E_cond_f Z ?_|refine E_block ?_|refine E_skip ?_|refine E_ret ?_|refine E_exit ?_)))
    all_goals (first|(exfalso;omega)|skip)
    refine E_seq ?_
    refine E.sub (M:=[(2,str txt),(3,.pointer (some ⟨bD,0,none⟩)),(7,vO),(8,.slice (some ⟨bb,off,none⟩) X.length xc),(9,int i)]) ⟨rfl,rfl,rfl,rfl,rfl,trivial⟩ ?_
    refine E_one 9 10 10 28 (noteC n) [some (22,.agg #[int d.rid,str d.rname,int d.len,int d.day,sv,tv,nv]),some (23,.slice (some ⟨bb,off,none⟩) X.length xc),some (24,int i),some (25,.pointer (some ⟨bb,off+i*1,none⟩)),some (26,int x),
      some (27,.tuple #[.agg (noteC n).toArray,.bool (getF d.notes x).isSome]),some (21,.tuple #[.agg (noteC n).toArray,.bool (getF d.notes x).isSome]),some (28,.agg (noteC n).toArray),some (29,.bool (getF d.notes x).isSome),none,none,some (11,.bool (getF d.notes x).isSome)] mixedOk (by kernel_rfl) rfl rfl rfl rfl rfl rfl rfl rfl (by decide) rfl rfl rfl rfl rfl
      ⟨vcV fun wq xq=>(val_loadA Z Z Z (rDr.ext xq).at rfl),vcV fun _ _=>zA Z Z,vcV fun _ _=>zA Z Z,vcV fun _ _=>val_indexAddr (m:=i) Z Z Z Z (by omega),vcV fun wq xq=>val_load Z Z Z (xq.cell hcx),
        vcC (fun _ _=>entersF Z Z en59) (fun wq xq=>cget wq xq),vcV fun _ _=>zA Z Z,vcV fun _ _=>zF Z Z Z,vcV fun _ _=>zF Z Z Z,vcV fun _ _=>zB Z Z,trivial⟩ (fun b5 w1 x1 hge5 r1=>?_)
    refine K.sub (M:=[(2,str txt),(3,.pointer (some ⟨bD,0,none⟩)),(7,vO),(8,.slice (some ⟨bb,off,none⟩) X.length xc),(9,int i),(10,.pointer (some ⟨b5,0,none⟩))]) ⟨rfl,rfl,rfl,rfl,rfl,rfl,trivial⟩ ?_
    have rX:Row w1 b5 74 (noteC n):=r1
    clear r1
    have hcx1:=x1.cell hcx
    have hx1':=hx.trans x1
    have own1:=own_ext hown x1
    have cm:=rMatch_any txt n.text (by omega) w1
    cases hpx:p x with
    | true=>
      rw [← hpx0,hpx] at cm
      rw [if_pos hpx] at hfs
      (repeat' (first|refine eV Z Z (val_load Z Z Z (rX.cellAt (j:=6) Z)) ?_|(refine EL_call Z Z (entersF Z Z en55) cm (fun vC wC hC=>?_);obtain⟨rfl,xC⟩:=hC;have own2:=own_ext own1 xC;replace hcx1:=xC.cell hcx1)|refine eV Z Z (val_indexAddr (m:=i) Z Z Z Z hlt) ?_|refine eV Z Z (val_load Z Z Z hcx1) ?_|(refine EL_appO (news:=[int x]) (own_ext own2 xS) ((hx1'.trans xC).trans xS) (fun _=>⟨_,_,rfl,rS.at⟩) Z Z Z Z Z Z Z Z Z (by omega) (by omega) (fun vJ wJ oJ xJ kJ hJ=>?_))|(refine at_EL ?_;first|refine eN ?_|refine eV Z Z (zA Z Z) ?_|refine eV Z Z (zB Z Z) ?_|(refine at_bin ?_;first|refine eV Z Z (zU Z Z Z (by omega) (by omega)) ?_)|refine eV Z Z (zH Z Z) ?_|refine eL Z Z Z Z Z Z Z Z (fun bS wS xS hbS rS=>?_))|(refine at_K ?_;first|refine K_then ?_|refine K_in ?_)|(refine at_E ?_;first|refine E_seq ?_|refine E_region ?_|refine E_cond_t Z ?_)))
      all_goals (first|(exfalso;omega)|skip)
      refine K_rnd (i+1,vJ) ⟨rfl,rfl,rfl,rfl,rfl,trivial⟩ ⟨by dsimp only;omega,xJ,?_⟩ (by dsimp only;omega)
      dsimp only
      rw [hfs,List.length_append,List.map_append]
      exact oJ
    | false=>
      rw [← hpx0,hpx] at cm
      rw [if_neg (by simp [hpx]),List.append_nil] at hfs
      (repeat' (first|refine eV Z Z (val_load Z Z Z (rX.cellAt (j:=6) Z)) ?_|(refine EL_call Z Z (entersF Z Z en55) cm (fun vC wC hC=>?_);obtain⟨rfl,xC⟩:=hC;have own2:=own_ext own1 xC)|(refine at_EL ?_;first|refine eN ?_|refine eV Z Z (zA Z Z) ?_|refine eV Z Z (zB Z Z) ?_|(refine at_bin ?_;first|refine eV Z Z (zU Z Z Z (by omega) (by omega)) ?_)|refine eV Z Z (zH Z Z) ?_)|(refine at_K ?_;first|refine K_then ?_|refine K_in ?_)|(refine at_E ?_;first|refine E_seq ?_|refine E_region ?_|refine E_cond_f Z ?_|refine E_skip ?_)))
      all_goals (first|(exfalso;omega)|skip)
      refine K_rnd (i+1,vO) ⟨rfl,rfl,rfl,rfl,rfl,trivial⟩ ⟨by dsimp only;omega,hx1'.trans xC,?_⟩ (by dsimp only;omega)
      dsimp only
      rw [hfs]
      exact own2
  · obtain rfl:i=X.length:=by omega
    rw [List.take_length] at hown hfl
    (repeat' (first|(refine at_EL ?_;first|refine eN ?_|refine eV Z Z (zA Z Z) ?_|refine eV Z Z (zB Z Z) ?_|(refine at_bin ?_;first|refine eD Z Z (zL Z Z Z) (fun hh=>?_) (fun hh=>?_))|(refine at_call ?_;first|refine eV Z Z (zK Z Z) ?_))|(refine at_K ?_;first|refine K_then ?_|refine K_then_exit ?_|refine K_in_exit ?_)|(refine at_E ?_;first|refine E_seq ?_|refine E_region ?_|refine E_cond_t Z ?_|refine E_cond_f Z ?_|refine E_block ?_|refine E_skip ?_|refine E_ret ?_|refine E_exit ?_)))
    all_goals (first|(exfalso;omega)|skip)
    refine ret_1 Z Z ⟨XX.trans hx,?_⟩
    have hres:X.filter p=idsOf d (textP matchF d role txt):=by rw [hXe,hp];exact text_filter h matchF role txt
    rw [← hres]
    exact SlG.wk (own_Nw hown (by omega)) (fun b hb=>Nat.le_trans XX.size hb)
end Go.Proofs.YtnifmbbpfdghmaaGreatDoor
namespace Go.Proofs.YtnifmbbpfdghmaaGreatDoor
open Go.RowKit Go.En
attribute [local irreducible] E EL K Val Enters Rt Calls bodyPost Code.wp RQ
theorem kid_at {w:World} {b off n cap i:Nat} {kids:List Qy} {k:Qy} (h:Sl w (.slice (some ⟨b,off,none⟩) n cap) kids) (hk:kids[i]?=some k):∃ kv,At w b (off+i*4) [int k.op,int k.role,str k.text,kv]∧Sl w kv k.kids:=by
  obtain⟨kcs,hkr,hkat⟩:=h.elem hk
  obtain⟨kkv,rfl,hkk⟩:=qy_cells hkr
  exact⟨kkv,hkat,hkk⟩
set_option maxHeartbeats 8000000 in
set_option maxRecDepth 8000 in
theorem reval_sz {d:Dc} (h:LightD d):∀(z:Nat) (q:Qy),SizeOf.sizeOf q<z→okQ q→∀(v qv:Value) (w:World),DcAt w v d→QAt w qv q→
    Calls Tryz.prog 29 #[v,qv] w (Rt fun u w'=>Ext w w'∧SlG (Nw w) w' u (evF matchF d q)):=by
  intro z
  induction z with
  | zero=>intro q hq;omega
  | succ z ih=>
  intro q hqz hok v qv w hv hqv
  obtain⟨op,role,txt,kids⟩:=q
  obtain⟨kv,rfl,hkv⟩:=hqv
  change Sl w kv kids at hkv
  show Calls Tryz.prog 29 #[v,.agg #[int op,int role,str txt,kv]] w _
  unfold okQ at hok
  obtain⟨ho0,ho6,hkl,hka⟩:=hok
  have hd0:=hv
  obtain⟨sv,tv,nv,rfl,_,_,_⟩:=hv
  have hkv0:=hkv
  obtain⟨a,cap,rfl,hc,hm,hp⟩:=hkv.sl
  refine calls_E (n:=104) (args:=[.agg #[int d.rid,str d.rname,int d.len,int d.day,sv,tv,nv],.agg #[int op,int role,str txt,.slice a kids.length cap]]) Tryz.func29 rfl Tryz.ntmps29 (by simp) ?_
  refine E_seq ?_
  refine E_region ?_
  refine EL_box Z Z Z Z (fun bD wD xD hbD rD0=>?_)
  have rD1:Row wD bD 28 [int d.rid,str d.rname,int d.len,int d.day,sv,tv,nv]:=rD0
  refine EL_box Z Z Z Z (fun bQ wQ xQ hbQ rQ0=>?_)
  have rQ:Row wQ bQ 36 [int op,int role,str txt,.slice a kids.length cap]:=rQ0
  have rD:=rD1.ext xQ
  clear rD0 rQ0 rD1
  have X0:=xD.trans xQ
  have hd2:=hd0.ext X0
  have hk2:=hkv0.ext X0
  have hop:op=0∨op=1∨op=2∨op=3∨op=4∨op=5∨op=6:=by omega
  rcases hop with rfl|rfl|rfl|rfl|rfl|rfl|rfl
  · have ct:=rtextW_any h _ role txt wQ hd2
    (repeat' (first|refine eV Z Z (val_load Z Z Z (rQ.cellAt (j:=0) Z)) ?_|refine eV (v:=.bool true) Z Z (eql_is Z Z Z Z) ?_|refine eV Z Z (val_loadA Z Z Z rD.at rfl) ?_|refine eV Z Z (val_load Z Z Z (rQ.cellAt (j:=1) Z)) ?_|refine eV Z Z (val_load Z Z Z (rQ.cellAt (j:=2) Z)) ?_|(refine EL_call Z Z (entersF Z Z en87) ct (fun vC wC hC=>?_);obtain⟨xC,sC⟩:=hC)|(refine at_EL ?_;first|refine eN ?_|refine eV Z Z (zB Z Z) ?_|refine eV Z Z (zH Z Z) ?_)|(refine at_K ?_;first|refine K_then ?_|refine K_then_ret ?_|refine K_in_ret ?_)|(refine at_E ?_;first|refine E_seq ?_|refine E_region ?_|refine E_cond_t Z ?_|refine E_block ?_|refine E_ret ?_)))
    all_goals (first|(exfalso;omega)|skip)
    exact ret_1 Z Z ⟨X0.trans xC,by rw [ev_0];exact SlG.wk sC (fun b hb=>Nat.le_trans X0.size hb)⟩
  · obtain⟨ka,kb,rfl⟩:=len_two (show kids.length=2 from hkl)
    obtain⟨g,go,rfl⟩:=hp (by simp)
    obtain⟨wa,hk0,hwa⟩:=kid_at (i:=0) hk2 rfl
    obtain⟨wb,hk1,hwb⟩:=kid_at (i:=1) hk2 rfl
    have oka:=okAll_get hka (i:=0) rfl
    have okb:=okAll_get hka (i:=1) rfl
    have sza:=kid_small (op:=1) (role:=role) (t:=txt) (ks:=[ka,kb]) (i:=0) rfl
    have szb:=kid_small (op:=1) (role:=role) (t:=txt) (ks:=[ka,kb]) (i:=1) rfl
    have l0:=evF_len h matchF ka
    have l1:=evF_len h matchF kb
    (repeat' (first|refine eV Z Z (val_load Z Z Z (rQ.cellAt (j:=0) Z)) ?_|refine eV (v:=.bool true) Z Z (eql_is Z Z Z Z) ?_|refine eV (v:=.bool false) Z Z (eql_is Z Z Z Z) ?_|refine yV Z Z (fun wq _ xq=>val_loadA Z Z Z (rD.ext xq).at rfl) ?_|refine yV Z Z (fun wq _ xq=>val_load Z Z Z ((rQ.ext xq).cellAt (j:=3) Z)) ?_|refine yV Z Z (fun _ _ _=>val_indexAddr (m:=0) Z Z Z Z (by show 0<_;simp)) ?_|refine yV Z Z (fun wq _ xq=>val_loadA Z Z Z (hk0.ext xq) Z) ?_|refine yV Z Z (fun _ _ _=>val_indexAddr (m:=1) Z Z Z Z (by show 1<_;simp)) ?_|refine yV Z Z (fun wq _ xq=>val_loadA Z Z Z (hk1.ext xq) Z) ?_|(refine RQ_callR (f:=29) (fun u w'=>Sl w' u (evF matchF d ka)) (fun δ=>#[.agg #[int d.rid,str d.rname,int d.len,int d.day,sv,tv,nv],.agg #[int ka.op,int ka.role,str ka.text,wa] ]) Z Z (fun _ _ _ _ xe h=>SlG.ext h xe) (fun _ _ _=>entersF Z Z en29) (fun wq δ xq hd=>?_) ?_;exact calls_mono (ih ka (by omega) oka _ (.agg #[int ka.op,int ka.role,str ka.text,wa]) wq (hd2.ext xq) ⟨wa,rfl,hwa.ext xq⟩) (fun _ _ hh=>⟨hh.2.any,hh.1⟩))|(refine RQ_callR (f:=29) (fun u w'=>Sl w' u (evF matchF d kb)) (fun δ=>#[.agg #[int d.rid,str d.rname,int d.len,int d.day,sv,tv,nv],.agg #[int kb.op,int kb.role,str kb.text,wb] ]) Z Z (fun _ _ _ _ xe h=>SlG.ext h xe) (fun _ _ _=>entersF Z Z en29) (fun wq δ xq hd=>?_) ?_;exact calls_mono (ih kb (by omega) okb _ (.agg #[int kb.op,int kb.role,str kb.text,wb]) wq (hd2.ext xq) ⟨wb,rfl,hwb.ext xq⟩) (fun _ _ hh=>⟨hh.2.any,hh.1⟩))|(refine RQ_callR (f:=37) (fun u w'=>SlG (Nw wQ) w' u (bothF (evF matchF d ka) (evF matchF d kb))) (fun δ=>#[δ 22,δ 28]) Z Z (fun _ _ _ _ xe h=>SlG.ext h xe) (fun _ _ _=>entersF Z Z en37) (fun wq δ xq hd=>?_) ?_;exact calls_mono (rbothW_any _ _ _ _ wq (hd 22 rfl _ rfl) (hd 28 rfl _ rfl) (by omega)) (fun _ _ hh=>⟨SlG.wk hh.2 (fun b hb=>Nat.le_trans xq.size hb),hh.1⟩))|refine RQ_asgS Z Z Z Z (fun _=>rfl) ?_|refine RQ_end (fun wq δ xq hR=>?_)|(refine at_EL ?_;first|refine eN ?_|refine eV Z Z (zB Z Z) ?_|refine eV Z Z (zH Z Z) ?_)|(refine at_K ?_;first|refine K_then ?_|refine K_then_ret ?_|refine K_in_ret ?_)|(refine at_E ?_;first|refine E_seq ?_|refine E_region ?_|refine E_cond_t Z ?_|refine E_cond_f Z ?_|refine E_block ?_|refine E_ret ?_|refine E_dq mixedOk (by kernel_rfl) Z ?_)|(refine at_RQ ?_;first|refine yV Z Z (fun _ _ _=>zH Z Z) ?_)))
    all_goals (first|(exfalso;omega)|skip)
    refine ret_1 Z Z ⟨X0.trans xq,?_⟩
    rw [ev_1 h]
    exact SlG.wk (hR 4 _ rfl) (fun b hb=>Nat.le_trans X0.size hb)
  · obtain⟨ka,kb,rfl⟩:=len_two (show kids.length=2 from hkl)
    obtain⟨g,go,rfl⟩:=hp (by simp)
    obtain⟨wa,hk0,hwa⟩:=kid_at (i:=0) hk2 rfl
    obtain⟨wb,hk1,hwb⟩:=kid_at (i:=1) hk2 rfl
    have oka:=okAll_get hka (i:=0) rfl
    have okb:=okAll_get hka (i:=1) rfl
    have sza:=kid_small (op:=2) (role:=role) (t:=txt) (ks:=[ka,kb]) (i:=0) rfl
    have szb:=kid_small (op:=2) (role:=role) (t:=txt) (ks:=[ka,kb]) (i:=1) rfl
    have l0:=evF_len h matchF ka
    have l1:=evF_len h matchF kb
    (repeat' (first|refine eV Z Z (val_load Z Z Z (rQ.cellAt (j:=0) Z)) ?_|refine eV (v:=.bool true) Z Z (eql_is Z Z Z Z) ?_|refine eV (v:=.bool false) Z Z (eql_is Z Z Z Z) ?_|refine yV Z Z (fun wq _ xq=>val_loadA Z Z Z (rD.ext xq).at rfl) ?_|refine yV Z Z (fun wq _ xq=>val_load Z Z Z ((rQ.ext xq).cellAt (j:=3) Z)) ?_|refine yV Z Z (fun _ _ _=>val_indexAddr (m:=0) Z Z Z Z (by show 0<_;simp)) ?_|refine yV Z Z (fun wq _ xq=>val_loadA Z Z Z (hk0.ext xq) Z) ?_|refine yV Z Z (fun _ _ _=>val_indexAddr (m:=1) Z Z Z Z (by show 1<_;simp)) ?_|refine yV Z Z (fun wq _ xq=>val_loadA Z Z Z (hk1.ext xq) Z) ?_|(refine RQ_callR (f:=29) (fun u w'=>Sl w' u (evF matchF d ka)) (fun δ=>#[.agg #[int d.rid,str d.rname,int d.len,int d.day,sv,tv,nv],.agg #[int ka.op,int ka.role,str ka.text,wa] ]) Z Z (fun _ _ _ _ xe h=>SlG.ext h xe) (fun _ _ _=>entersF Z Z en29) (fun wq δ xq hd=>?_) ?_;exact calls_mono (ih ka (by omega) oka _ (.agg #[int ka.op,int ka.role,str ka.text,wa]) wq (hd2.ext xq) ⟨wa,rfl,hwa.ext xq⟩) (fun _ _ hh=>⟨hh.2.any,hh.1⟩))|(refine RQ_callR (f:=29) (fun u w'=>Sl w' u (evF matchF d kb)) (fun δ=>#[.agg #[int d.rid,str d.rname,int d.len,int d.day,sv,tv,nv],.agg #[int kb.op,int kb.role,str kb.text,wb] ]) Z Z (fun _ _ _ _ xe h=>SlG.ext h xe) (fun _ _ _=>entersF Z Z en29) (fun wq δ xq hd=>?_) ?_;exact calls_mono (ih kb (by omega) okb _ (.agg #[int kb.op,int kb.role,str kb.text,wb]) wq (hd2.ext xq) ⟨wb,rfl,hwb.ext xq⟩) (fun _ _ hh=>⟨hh.2.any,hh.1⟩))|(refine RQ_callR (f:=58) (fun u w'=>SlG (Nw wQ) w' u (unionS (evF matchF d ka) (evF matchF d kb))) (fun δ=>#[δ 37,δ 43]) Z Z (fun _ _ _ _ xe h=>SlG.ext h xe) (fun _ _ _=>entersF Z Z en58) (fun wq δ xq hd=>?_) ?_;exact calls_mono (runionW_any _ _ _ _ wq (hd 37 rfl _ rfl) (hd 43 rfl _ rfl) (by omega) (by omega)) (fun _ _ hh=>⟨SlG.wk hh.2 (fun b hb=>Nat.le_trans xq.size hb),hh.1⟩))|refine RQ_asgS Z Z Z Z (fun _=>rfl) ?_|refine RQ_end (fun wq δ xq hR=>?_)|(refine at_EL ?_;first|refine eN ?_|refine eV Z Z (zB Z Z) ?_|refine eV Z Z (zH Z Z) ?_)|(refine at_K ?_;first|refine K_then ?_|refine K_then_ret ?_|refine K_in_ret ?_)|(refine at_E ?_;first|refine E_seq ?_|refine E_region ?_|refine E_cond_t Z ?_|refine E_cond_f Z ?_|refine E_block ?_|refine E_ret ?_|refine E_dq mixedOk (by kernel_rfl) Z ?_)|(refine at_RQ ?_;first|refine yV Z Z (fun _ _ _=>zH Z Z) ?_)))
    all_goals (first|(exfalso;omega)|skip)
    refine ret_1 Z Z ⟨X0.trans xq,?_⟩
    rw [ev_2 h]
    exact SlG.wk (hR 4 _ rfl) (fun b hb=>Nat.le_trans X0.size hb)
  · obtain⟨ka,rfl⟩:=List.length_eq_one_iff.1 (show kids.length=1 from hkl)
    obtain⟨g,go,rfl⟩:=hp (by simp)
    obtain⟨wa,hk0,hwa⟩:=kid_at (i:=0) hk2 rfl
    have oka:=okAll_get hka (i:=0) rfl
    have sza:=kid_small (op:=3) (role:=role) (t:=txt) (ks:=[ka]) (i:=0) rfl
    have l0:=evF_len h matchF ka
    have lr:(idsOf d (ofRoleP d role)).length≤14:=Nat.le_trans (idsOf_len _) h.nnotes
    (repeat' (first|refine eV Z Z (val_load Z Z Z (rQ.cellAt (j:=0) Z)) ?_|refine eV (v:=.bool true) Z Z (eql_is Z Z Z Z) ?_|refine eV (v:=.bool false) Z Z (eql_is Z Z Z Z) ?_|refine yV Z Z (fun wq _ xq=>val_loadA Z Z Z (rD.ext xq).at rfl) ?_|refine yV Z Z (fun wq _ xq=>val_load Z Z Z ((rQ.ext xq).cellAt (j:=1) Z)) ?_|refine yV Z Z (fun wq _ xq=>val_load Z Z Z ((rQ.ext xq).cellAt (j:=3) Z)) ?_|refine yV Z Z (fun _ _ _=>val_indexAddr (m:=0) Z Z Z Z (by show 0<_;simp)) ?_|refine yV Z Z (fun wq _ xq=>val_loadA Z Z Z (hk0.ext xq) Z) ?_|(refine RQ_callR (f:=88) (fun u w'=>Sl w' u (idsOf d (ofRoleP d role))) (fun δ=>#[.agg #[int d.rid,str d.rname,int d.len,int d.day,sv,tv,nv],int role]) Z Z (fun _ _ _ _ xe h=>SlG.ext h xe) (fun _ _ _=>entersF Z Z en88) (fun wq δ xq hd=>?_) ?_;exact calls_mono (rrole_any h _ role wq (hd2.ext xq)) (fun _ _ hh=>⟨hh.2,hh.1⟩))|(refine RQ_callR (f:=29) (fun u w'=>Sl w' u (evF matchF d ka)) (fun δ=>#[.agg #[int d.rid,str d.rname,int d.len,int d.day,sv,tv,nv],.agg #[int ka.op,int ka.role,str ka.text,wa] ]) Z Z (fun _ _ _ _ xe h=>SlG.ext h xe) (fun _ _ _=>entersF Z Z en29) (fun wq δ xq hd=>?_) ?_;exact calls_mono (ih ka (by omega) oka _ (.agg #[int ka.op,int ka.role,str ka.text,wa]) wq (hd2.ext xq) ⟨wa,rfl,hwa.ext xq⟩) (fun _ _ hh=>⟨hh.2.any,hh.1⟩))|(refine RQ_callR (f:=36) (fun u w'=>SlG (Nw wQ) w' u (minusS (idsOf d (ofRoleP d role)) (evF matchF d ka))) (fun δ=>#[δ 50,δ 56]) Z Z (fun _ _ _ _ xe h=>SlG.ext h xe) (fun _ _ _=>entersF Z Z en36) (fun wq δ xq hd=>?_) ?_;exact calls_mono (rminusW_any _ _ _ _ wq (hd 50 rfl _ rfl) (hd 56 rfl _ rfl) (by omega)) (fun _ _ hh=>⟨SlG.wk hh.2 (fun b hb=>Nat.le_trans xq.size hb),hh.1⟩))|refine RQ_asgS Z Z Z Z (fun _=>rfl) ?_|refine RQ_end (fun wq δ xq hR=>?_)|(refine at_EL ?_;first|refine eN ?_|refine eV Z Z (zB Z Z) ?_|refine eV Z Z (zH Z Z) ?_)|(refine at_K ?_;first|refine K_then ?_|refine K_then_ret ?_|refine K_in_ret ?_)|(refine at_E ?_;first|refine E_seq ?_|refine E_region ?_|refine E_cond_t Z ?_|refine E_cond_f Z ?_|refine E_block ?_|refine E_ret ?_|refine E_dq mixedOk (by kernel_rfl) Z ?_)|(refine at_RQ ?_;first|refine yV Z Z (fun _ _ _=>zH Z Z) ?_)))
    all_goals (first|(exfalso;omega)|skip)
    refine ret_1 Z Z ⟨X0.trans xq,?_⟩
    rw [ev_role3 h]
    exact SlG.wk (hR 4 _ rfl) (fun b hb=>Nat.le_trans X0.size hb)
  · obtain⟨ka,kb,rfl⟩:=len_two (show kids.length=2 from hkl)
    obtain⟨g,go,rfl⟩:=hp (by simp)
    obtain⟨wa,hk0,hwa⟩:=kid_at (i:=0) hk2 rfl
    obtain⟨wb,hk1,hwb⟩:=kid_at (i:=1) hk2 rfl
    have oka:=okAll_get hka (i:=0) rfl
    have okb:=okAll_get hka (i:=1) rfl
    have sza:=kid_small (op:=4) (role:=role) (t:=txt) (ks:=[ka,kb]) (i:=0) rfl
    have szb:=kid_small (op:=4) (role:=role) (t:=txt) (ks:=[ka,kb]) (i:=1) rfl
    have l0:=evF_len h matchF ka
    have l1:=evF_len h matchF kb
    (repeat' (first|refine eV Z Z (val_load Z Z Z (rQ.cellAt (j:=0) Z)) ?_|refine eV (v:=.bool true) Z Z (eql_is Z Z Z Z) ?_|refine eV (v:=.bool false) Z Z (eql_is Z Z Z Z) ?_|refine yV Z Z (fun wq _ xq=>val_loadA Z Z Z (rD.ext xq).at rfl) ?_|refine yV Z Z (fun wq _ xq=>val_load Z Z Z ((rQ.ext xq).cellAt (j:=3) Z)) ?_|refine yV Z Z (fun _ _ _=>val_indexAddr (m:=0) Z Z Z Z (by show 0<_;simp)) ?_|refine yV Z Z (fun wq _ xq=>val_loadA Z Z Z (hk0.ext xq) Z) ?_|refine yV Z Z (fun _ _ _=>val_indexAddr (m:=1) Z Z Z Z (by show 1<_;simp)) ?_|refine yV Z Z (fun wq _ xq=>val_loadA Z Z Z (hk1.ext xq) Z) ?_|(refine RQ_callR (f:=29) (fun u w'=>Sl w' u (evF matchF d ka)) (fun δ=>#[.agg #[int d.rid,str d.rname,int d.len,int d.day,sv,tv,nv],.agg #[int ka.op,int ka.role,str ka.text,wa] ]) Z Z (fun _ _ _ _ xe h=>SlG.ext h xe) (fun _ _ _=>entersF Z Z en29) (fun wq δ xq hd=>?_) ?_;exact calls_mono (ih ka (by omega) oka _ (.agg #[int ka.op,int ka.role,str ka.text,wa]) wq (hd2.ext xq) ⟨wa,rfl,hwa.ext xq⟩) (fun _ _ hh=>⟨hh.2.any,hh.1⟩))|(refine RQ_callR (f:=29) (fun u w'=>Sl w' u (evF matchF d kb)) (fun δ=>#[.agg #[int d.rid,str d.rname,int d.len,int d.day,sv,tv,nv],.agg #[int kb.op,int kb.role,str kb.text,wb] ]) Z Z (fun _ _ _ _ xe h=>SlG.ext h xe) (fun _ _ _=>entersF Z Z en29) (fun wq δ xq hd=>?_) ?_;exact calls_mono (ih kb (by omega) okb _ (.agg #[int kb.op,int kb.role,str kb.text,wb]) wq (hd2.ext xq) ⟨wb,rfl,hwb.ext xq⟩) (fun _ _ hh=>⟨hh.2.any,hh.1⟩))|(refine RQ_callR (f:=22) (fun u w'=>SlG (Nw wQ) w' u (idsOf d (thenP d (evF matchF d ka) (evF matchF d kb)))) (fun δ=>#[.agg #[int d.rid,str d.rname,int d.len,int d.day,sv,tv,nv],δ 66,δ 72]) Z Z (fun _ _ _ _ xe h=>SlG.ext h xe) (fun _ _ _=>entersF Z Z en22) (fun wq δ xq hd=>?_) ?_;exact calls_mono (rthenW_any h _ _ _ _ _ wq (hd2.ext xq) (hd 66 rfl _ rfl) (hd 72 rfl _ rfl)) (fun _ _ hh=>⟨SlG.wk hh.2 (fun b hb=>Nat.le_trans xq.size hb),hh.1⟩))|refine RQ_asgS Z Z Z Z (fun _=>rfl) ?_|refine RQ_end (fun wq δ xq hR=>?_)|(refine at_EL ?_;first|refine eN ?_|refine eV Z Z (zB Z Z) ?_|refine eV Z Z (zH Z Z) ?_)|(refine at_K ?_;first|refine K_then ?_|refine K_then_ret ?_|refine K_in_ret ?_)|(refine at_E ?_;first|refine E_seq ?_|refine E_region ?_|refine E_cond_t Z ?_|refine E_cond_f Z ?_|refine E_block ?_|refine E_ret ?_|refine E_dq mixedOk (by kernel_rfl) Z ?_)|(refine at_RQ ?_;first|refine yV Z Z (fun _ _ _=>zH Z Z) ?_)))
    all_goals (first|(exfalso;omega)|skip)
    refine ret_1 Z Z ⟨X0.trans xq,?_⟩
    rw [ev_4]
    exact SlG.wk (hR 4 _ rfl) (fun b hb=>Nat.le_trans X0.size hb)
  · obtain⟨ka,kb,rfl⟩:=len_two (show kids.length=2 from hkl)
    obtain⟨g,go,rfl⟩:=hp (by simp)
    obtain⟨wa,hk0,hwa⟩:=kid_at (i:=0) hk2 rfl
    obtain⟨wb,hk1,hwb⟩:=kid_at (i:=1) hk2 rfl
    have oka:=okAll_get hka (i:=0) rfl
    have okb:=okAll_get hka (i:=1) rfl
    have sza:=kid_small (op:=5) (role:=role) (t:=txt) (ks:=[ka,kb]) (i:=0) rfl
    have szb:=kid_small (op:=5) (role:=role) (t:=txt) (ks:=[ka,kb]) (i:=1) rfl
    have l0:=evF_len h matchF ka
    have l1:=evF_len h matchF kb
    (repeat' (first|refine eV Z Z (val_load Z Z Z (rQ.cellAt (j:=0) Z)) ?_|refine eV (v:=.bool true) Z Z (eql_is Z Z Z Z) ?_|refine eV (v:=.bool false) Z Z (eql_is Z Z Z Z) ?_|refine yV Z Z (fun wq _ xq=>val_loadA Z Z Z (rD.ext xq).at rfl) ?_|refine yV Z Z (fun wq _ xq=>val_load Z Z Z ((rQ.ext xq).cellAt (j:=3) Z)) ?_|refine yV Z Z (fun _ _ _=>val_indexAddr (m:=0) Z Z Z Z (by show 0<_;simp)) ?_|refine yV Z Z (fun wq _ xq=>val_loadA Z Z Z (hk0.ext xq) Z) ?_|refine yV Z Z (fun _ _ _=>val_indexAddr (m:=1) Z Z Z Z (by show 1<_;simp)) ?_|refine yV Z Z (fun wq _ xq=>val_loadA Z Z Z (hk1.ext xq) Z) ?_|(refine RQ_callR (f:=29) (fun u w'=>Sl w' u (evF matchF d ka)) (fun δ=>#[.agg #[int d.rid,str d.rname,int d.len,int d.day,sv,tv,nv],.agg #[int ka.op,int ka.role,str ka.text,wa] ]) Z Z (fun _ _ _ _ xe h=>SlG.ext h xe) (fun _ _ _=>entersF Z Z en29) (fun wq δ xq hd=>?_) ?_;exact calls_mono (ih ka (by omega) oka _ (.agg #[int ka.op,int ka.role,str ka.text,wa]) wq (hd2.ext xq) ⟨wa,rfl,hwa.ext xq⟩) (fun _ _ hh=>⟨hh.2.any,hh.1⟩))|(refine RQ_callR (f:=29) (fun u w'=>Sl w' u (evF matchF d kb)) (fun δ=>#[.agg #[int d.rid,str d.rname,int d.len,int d.day,sv,tv,nv],.agg #[int kb.op,int kb.role,str kb.text,wb] ]) Z Z (fun _ _ _ _ xe h=>SlG.ext h xe) (fun _ _ _=>entersF Z Z en29) (fun wq δ xq hd=>?_) ?_;exact calls_mono (ih kb (by omega) okb _ (.agg #[int kb.op,int kb.role,str kb.text,wb]) wq (hd2.ext xq) ⟨wb,rfl,hwb.ext xq⟩) (fun _ _ hh=>⟨hh.2.any,hh.1⟩))|(refine RQ_callR (f:=24) (fun u w'=>SlG (Nw wQ) w' u (idsOf d (withinP d (evF matchF d ka) (evF matchF d kb)))) (fun δ=>#[.agg #[int d.rid,str d.rname,int d.len,int d.day,sv,tv,nv],δ 82,δ 88]) Z Z (fun _ _ _ _ xe h=>SlG.ext h xe) (fun _ _ _=>entersF Z Z en24) (fun wq δ xq hd=>?_) ?_;exact calls_mono (rwithinW_any h _ _ _ _ _ wq (hd2.ext xq) (hd 82 rfl _ rfl) (hd 88 rfl _ rfl)) (fun _ _ hh=>⟨SlG.wk hh.2 (fun b hb=>Nat.le_trans xq.size hb),hh.1⟩))|refine RQ_asgS Z Z Z Z (fun _=>rfl) ?_|refine RQ_end (fun wq δ xq hR=>?_)|(refine at_EL ?_;first|refine eN ?_|refine eV Z Z (zB Z Z) ?_|refine eV Z Z (zH Z Z) ?_)|(refine at_K ?_;first|refine K_then ?_|refine K_then_ret ?_|refine K_in_ret ?_)|(refine at_E ?_;first|refine E_seq ?_|refine E_region ?_|refine E_cond_t Z ?_|refine E_cond_f Z ?_|refine E_block ?_|refine E_ret ?_|refine E_dq mixedOk (by kernel_rfl) Z ?_)|(refine at_RQ ?_;first|refine yV Z Z (fun _ _ _=>zH Z Z) ?_)))
    all_goals (first|(exfalso;omega)|skip)
    refine ret_1 Z Z ⟨X0.trans xq,?_⟩
    rw [ev_5]
    exact SlG.wk (hR 4 _ rfl) (fun b hb=>Nat.le_trans X0.size hb)
  · obtain⟨ka,kb,rfl⟩:=len_two (show kids.length=2 from hkl)
    obtain⟨g,go,rfl⟩:=hp (by simp)
    obtain⟨wa,hk0,hwa⟩:=kid_at (i:=0) hk2 rfl
    obtain⟨wb,hk1,hwb⟩:=kid_at (i:=1) hk2 rfl
    have oka:=okAll_get hka (i:=0) rfl
    have okb:=okAll_get hka (i:=1) rfl
    have sza:=kid_small (op:=6) (role:=role) (t:=txt) (ks:=[ka,kb]) (i:=0) rfl
    have szb:=kid_small (op:=6) (role:=role) (t:=txt) (ks:=[ka,kb]) (i:=1) rfl
    have l0:=evF_len h matchF ka
    have l1:=evF_len h matchF kb
    (repeat' (first|refine eV Z Z (val_load Z Z Z (rQ.cellAt (j:=0) Z)) ?_|refine eV (v:=.bool false) Z Z (eql_is Z Z Z Z) ?_|refine yV Z Z (fun wq _ xq=>val_loadA Z Z Z (rD.ext xq).at rfl) ?_|refine yV Z Z (fun wq _ xq=>val_load Z Z Z ((rQ.ext xq).cellAt (j:=3) Z)) ?_|refine yV Z Z (fun _ _ _=>val_indexAddr (m:=0) Z Z Z Z (by show 0<_;simp)) ?_|refine yV Z Z (fun wq _ xq=>val_loadA Z Z Z (hk0.ext xq) Z) ?_|refine yV Z Z (fun _ _ _=>val_indexAddr (m:=1) Z Z Z Z (by show 1<_;simp)) ?_|refine yV Z Z (fun wq _ xq=>val_loadA Z Z Z (hk1.ext xq) Z) ?_|(refine RQ_callR (f:=29) (fun u w'=>Sl w' u (evF matchF d ka)) (fun δ=>#[.agg #[int d.rid,str d.rname,int d.len,int d.day,sv,tv,nv],.agg #[int ka.op,int ka.role,str ka.text,wa] ]) Z Z (fun _ _ _ _ xe h=>SlG.ext h xe) (fun _ _ _=>entersF Z Z en29) (fun wq δ xq hd=>?_) ?_;exact calls_mono (ih ka (by omega) oka _ (.agg #[int ka.op,int ka.role,str ka.text,wa]) wq (hd2.ext xq) ⟨wa,rfl,hwa.ext xq⟩) (fun _ _ hh=>⟨hh.2.any,hh.1⟩))|(refine RQ_callR (f:=29) (fun u w'=>Sl w' u (evF matchF d kb)) (fun δ=>#[.agg #[int d.rid,str d.rname,int d.len,int d.day,sv,tv,nv],.agg #[int kb.op,int kb.role,str kb.text,wb] ]) Z Z (fun _ _ _ _ xe h=>SlG.ext h xe) (fun _ _ _=>entersF Z Z en29) (fun wq δ xq hd=>?_) ?_;exact calls_mono (ih kb (by omega) okb _ (.agg #[int kb.op,int kb.role,str kb.text,wb]) wq (hd2.ext xq) ⟨wb,rfl,hwb.ext xq⟩) (fun _ _ hh=>⟨hh.2.any,hh.1⟩))|(refine RQ_callR (f:=26) (fun u w'=>SlG (Nw wQ) w' u (idsOf d (hasP d (evF matchF d ka) (evF matchF d kb)))) (fun δ=>#[.agg #[int d.rid,str d.rname,int d.len,int d.day,sv,tv,nv],δ 96,δ 102]) Z Z (fun _ _ _ _ xe h=>SlG.ext h xe) (fun _ _ _=>entersF Z Z en26) (fun wq δ xq hd=>?_) ?_;exact calls_mono (rhasW_any h _ _ _ _ _ wq (hd2.ext xq) (hd 96 rfl _ rfl) (hd 102 rfl _ rfl)) (fun _ _ hh=>⟨SlG.wk hh.2 (fun b hb=>Nat.le_trans xq.size hb),hh.1⟩))|refine RQ_asgS Z Z Z Z (fun _=>rfl) ?_|refine RQ_end (fun wq δ xq hR=>?_)|(refine at_EL ?_;first|refine eN ?_|refine eV Z Z (zB Z Z) ?_|refine eV Z Z (zH Z Z) ?_)|(refine at_K ?_;first|refine K_then ?_|refine K_in ?_)|(refine at_E ?_;first|refine E_seq ?_|refine E_region ?_|refine E_cond_f Z ?_|refine E_block ?_|refine E_skip ?_|refine E_ret ?_|refine E_dq mixedOk (by kernel_rfl) Z ?_)|(refine at_RQ ?_;first|refine yV Z Z (fun _ _ _=>zH Z Z) ?_)))
    all_goals (first|(exfalso;omega)|skip)
    refine ret_1 Z Z ⟨X0.trans xq,?_⟩
    rw [ev_6]
    exact SlG.wk (hR 4 _ rfl) (fun b hb=>Nat.le_trans X0.size hb)
theorem revalW_any {d:Dc} (h:LightD d) (q:Qy) (hok:okQ q) (v qv:Value) (w:World) (hv:DcAt w v d) (hqv:QAt w qv q) :
    Calls Tryz.prog 29 #[v,qv] w (Rt fun u w'=>Ext w w'∧SlG (Nw w) w' u (evF matchF d q)):=reval_sz h _ q (Nat.lt_succ_self _) hok v qv w hv hqv
end Go.Proofs.YtnifmbbpfdghmaaGreatDoor
