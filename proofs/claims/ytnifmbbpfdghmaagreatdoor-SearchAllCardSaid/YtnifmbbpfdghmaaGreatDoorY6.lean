/-
  Walks: the reference's lists of spans (insert, without, Union, Minus, Covers): they come to an end. Walks: the reference's tier, Check of tiers. Walks: the reference's placed, noteError.
-/
import Derived.Test.YtnifmbbpfdghmaaGreatDoorY5
import Derived.Test.YtnifmbbpfdghmaaGreatDoorY1
set_option linter.all false
namespace Go.Proofs.YtnifmbbpfdghmaaGreatDoor
open Go.RowKit Go.En
def spnC (t:Spn):List Value:=[int t.frm,int t.til]
def Sep (u v:Value):Prop:=∀ b,u.ownBlock=some b→v.ownBlock≠some b
theorem Sep.symm {u v:Value} (h:Sep u v):Sep v u:=fun b h1 h2=>h b h2 h1
theorem Sep.kept {u v:Value} (h:Sep u v):u.ownBlock=none∨u.ownBlock≠v.ownBlock:=by
  cases hu:u.ownBlock with
  | none=>exact .inl rfl
  | some b=>exact .inr (fun e=>h b hu e.symm)
theorem Sep.app {u v v':Value} {w:World} {B:Nat} {e:TypeId} {sz n:Nat} {xs:List Value} (h:Sep u v) (hu:w.ownsRow B e sz u n xs) (hv:v'.ownBlock=v.ownBlock∨v'.ownBlock=some w.heap.size):Sep u v':=fun b hb e=>by
  rcases hv with hv|hv
  · exact h b hb (hv▸e)
  · have:=(hu.lt b hb).2
    rw [hv] at e;cases e;omega
attribute [local irreducible] E EL K Val Enters Rt Calls bodyPost Code.wp RQ
set_option maxRecDepth 8000 in
set_option maxHeartbeats 1000000 in
theorem insert_any (l:List Spn) (v:Value) (a b:Int) (w:World) (hv:Sl w v l) (hlen:l.length≤1099511627):Calls Tryz.prog 199 #[v,.agg #[int a,int b]] w (Rt fun u w'=>Ext w w'∧∃ ys:List Spn,ys.length≤l.length+1∧Sl w' u ys):=by
  refine calls_E (n:=69) (args:=[v,.agg #[int a,int b]]) Tryz.func199 rfl Tryz.ntmps199 (by simp) ?_
  have hv0:=hv
  obtain⟨ap,cap,rfl,hc,hm,hp⟩:=hv.sl
  refine E_seq ?_
  refine E_region ?_
  refine EL_box Z Z Z Z (fun bB wB xB hbB rB=>?_)
  (repeat' ((fail_if_success (refine E_seq (x:=(Code.region 2 _ _)) ?_));first|(refine at_EL ?_;first|refine eN ?_|refine eV Z Z (zB Z Z) ?_|refine eL Z Z Z Z Z Z Z Z (fun bS wS xS hbS rS=>?_))|(refine at_K ?_;first|refine K_then ?_)|(refine at_E ?_;first|refine E_seq ?_|refine E_region ?_)))
  refine E_seq ?_
  refine E_region ?_
  refine eL Z Z Z Z Z Z Z Z (fun bT wT xT hbT rT=>?_)
  (repeat' (first|(refine at_EL ?_;first|refine eN ?_|refine eV Z Z (zB Z Z) ?_)|(refine at_K ?_;first|refine K_then ?_)|(refine at_E ?_;first|refine E_seq ?_|refine E_region ?_|refine E_block ?_)))
  have hBS:bB<bS:=by have:=rB.lt;omega
  have hST:bS<bT:=by have:=rS.lt;omega
  have hw1:w.heap.size≤bS:=by have:=xB.size;omega
  have hw2:w.heap.size≤bT:=by omega
  refine E_loop (ι:=Nat × Value × Value) (fun x=>[(0,.slice ap l.length cap),(3,.pointer (some ⟨bB,0,none⟩)),(5,x.2.1),(6,x.2.2),(7,int x.1)])
    (fun x wr=>x.1≤l.length∧Ext w wr∧(∃ a b:Int,Row wr bB 72 [int a,int b])∧∃ p q:List Spn,p.length+q.length≤x.1∧wr.ownsRow w.heap.size 72 2 x.2.1 p.length (p.map spnC).flatten∧wr.ownsRow w.heap.size 72 2 x.2.2 q.length (q.map spnC).flatten∧
      x.2.1.ownBlock≠some bB∧x.2.2.ownBlock≠some bB∧Sep x.2.1 x.2.2) (fun x=>l.length-x.1) (0,_,_)
    ⟨rfl,rfl,rfl,rfl,rfl,trivial⟩ ⟨Nat.zero_le _,xB.trans (xS.trans xT),⟨a,b,(rB.ext (xS.trans xT))⟩,[],[],Nat.le_refl _,own_row (n:=0) (size:=2) (rS.ext xT) rfl (by omega) (by omega),own_row (n:=0) (size:=2) rT rfl (by omega) (by omega),
      fun e=>by simp [Value.ownBlock] at e;omega,fun e=>by simp [Value.ownBlock] at e;omega,fun k e1 e2=>by simp [Value.ownBlock] at e1 e2;omega⟩ ?_
  rintro⟨i,vP,vQ⟩ wr ⟨hi,hx,⟨a1,b1,rBr⟩,p,q,hpq,hP,hQ,sP,sQ,sPQ⟩
  dsimp only at hi hpq hP hQ sP sQ sPQ ⊢
  by_cases hlt:i<l.length
  · obtain⟨bl,off,rfl⟩:=hp (by omega)
    obtain⟨z,hz⟩:∃ z,l[i]?=some z:=⟨_,List.getElem?_eq_getElem hlt⟩
    have hat:=spn_elem (hv0.ext hx) hz
    (repeat' (first|(refine yN Z (fun wq xq=>?_);replace hat:=hat.ext xq;replace rBr:=rBr.ext xq;replace hx:=hx.trans xq;replace hP:=own_ext hP xq;replace hQ:=own_ext hQ xq)|refine E_dm (id:=10) 17 mixedOk (by kernel_rfl) Z ?_|refine yV Z Z (fun _ _ _=>val_indexAddr (m:=i) Z Z Z Z (by omega)) ?_|refine yV Z Z (fun wq _ xq=>val_load Z Z Z ((hat.ext xq).cellAt (j:=0) Z)) ?_|refine yV Z Z (fun wq _ xq=>val_load Z Z Z ((hat.ext xq).cellAt (j:=1) Z)) ?_|refine yV Z Z (fun wq _ xq=>val_load Z Z Z ((rBr.ext xq).cellAt (j:=0) Z)) ?_|refine yV Z Z (fun wq _ xq=>val_load Z Z Z ((rBr.ext xq).cellAt (j:=1) Z)) ?_|refine yV Z Z (fun _ _ _=>val_min Z Z Z) ?_|refine yV Z Z (fun _ _ _=>val_max Z Z Z) ?_|refine yV Z Z (fun _ _ _=>val_build (vs:=[(0,int _),(1,int _)]) [int _,int _] rfl rfl rfl) ?_|refine eV Z Z (val_indexAddr (m:=i) Z Z Z Z (by omega)) ?_|refine eV Z Z (val_loadA Z Z Z hat rfl) ?_|(refine EL_appO (news:=spnC z) (own_ext hP xS) (hx.trans xS) (fun _=>⟨_,_,rfl,rS.at⟩) Z Z Z Z Z Z Z Z Z (by omega) (by omega) (fun vJ wJ oJ xJ kJ hJ=>?_);have isP:=True.intro)|(refine EL_appO (news:=spnC z) (own_ext hQ xS) (hx.trans xS) (fun _=>⟨_,_,rfl,rS.at⟩) Z Z Z Z Z Z Z Z Z (by omega) (by omega) (fun vJ wJ oJ xJ kJ hJ=>?_))|(refine at_EL ?_;first|refine eN ?_|refine eV Z Z (zA Z Z) ?_|refine eV Z Z (zB Z Z) ?_|(refine at_bin ?_;first|refine eD Z Z (zL Z Z Z) (fun hh=>?_) (fun hh=>?_)|refine eV Z Z (zU Z Z Z (by omega) (by omega)) ?_)|(refine at_call ?_;first|refine eV Z Z (zK Z Z) ?_)|refine eL Z Z Z Z Z Z Z Z (fun bS wS xS hbS rS=>?_))|(refine at_K ?_;first|refine K_then ?_|refine K_in ?_|refine K_then_exit ?_|refine K_in_exit ?_)|(refine at_E ?_;first|refine E_seq ?_|refine E_region ?_|refine E_cond_t Z ?_|refine E_cond_f Z ?_|refine E_block ?_|refine E_skip ?_|refine E_exit ?_|refine E_dq mixedOk (by kernel_rfl) Z ?_)|(refine at_RQ ?_;first|refine yV Z Z (fun _ _ _=>zA Z Z) ?_|(refine at_binR ?_;first|refine yD Z Z (fun _ _ _=>zL Z Z Z) (fun hh=>?_) (fun hh=>?_)|refine yD Z Z (fun _ _ _=>zO Z Z Z) (fun hh=>?_) (fun hh=>?_))|refine yV Z Z (fun _ _ _=>zH Z Z) ?_)))
    all_goals (first|(exfalso;omega)|skip)
    · have rJ:=kJ.row (rBr.ext xS) (fun e=>sP e.symm)
      have hQS:=own_ext hQ xS
      have hbs:=(rBr.ext xS).lt
      refine K_rnd (i+1,vJ,vQ) ⟨rfl,rfl,rfl,rfl,rfl,trivial⟩ ⟨by dsimp only;omega,xJ,⟨_,_,rJ⟩,p++[z],q,by simp;omega,by simpa using oJ,hQS.kept kJ sPQ.symm.kept,?_,sQ,(sPQ.symm.app hQS hJ).symm⟩ (by dsimp only;omega)
      rcases hJ with e|e
      · rw [e];exact sP
      · rw [e];simp;omega
    · have rJ:=kJ.row (rBr.ext xS) (fun e=>sQ e.symm)
      have hPS:=own_ext hP xS
      have hbs:=(rBr.ext xS).lt
      refine K_rnd (i+1,vP,vJ) ⟨rfl,rfl,rfl,rfl,rfl,trivial⟩ ⟨by dsimp only;omega,xJ,⟨_,_,rJ⟩,p,q++[z],by simp;omega,hPS.kept kJ sPQ.kept,by simpa using oJ,sP,?_,sPQ.app hPS hJ⟩ (by dsimp only;omega)
      rcases hJ with e|e
      · rw [e];exact sQ
      · rw [e];simp;omega
    · refine EL_storeP (cs:=[int _,int _]) rBr hx (by omega) Z Z Z Z Z Z Z Z (Nat.le_refl _) (fun w9 r9 x9 k9=>?_)
      (repeat' (first|(refine at_EL ?_;first|refine eN ?_|refine eV Z Z (zA Z Z) ?_|refine eV Z Z (zB Z Z) ?_|(refine at_bin ?_;first|refine eV Z Z (zU Z Z Z (by omega) (by omega)) ?_))|(refine at_K ?_;first|refine K_then ?_|refine K_in ?_)|(refine at_E ?_;first|refine E_region ?_)))
      refine K_rnd (i+1,vP,vQ) ⟨rfl,rfl,rfl,rfl,rfl,trivial⟩ ⟨by dsimp only;omega,x9,⟨_,_,r9⟩,p,q,by omega,hP.kept k9 (.inr sP),hQ.kept k9 (.inr sQ),sP,sQ,sPQ⟩ (by dsimp only;omega)
  · obtain⟨aQ,capQ,rfl,hcQ,hatQ⟩:=own_sl hQ
    (repeat' (first|refine eV Z Z (val_loadA Z Z Z rBr.at rfl) ?_|(refine at_EL ?_;first|refine eN ?_|refine eV Z Z (zA Z Z) ?_|(refine at_bin ?_;first|refine eD Z Z (zL Z Z Z) (fun hh=>?_) (fun hh=>?_))|(refine at_call ?_;first|refine eV Z Z (zK Z Z) ?_)|refine eL Z Z Z Z Z Z Z Z (fun bS wS xS hbS rS=>?_))|(refine at_K ?_;first|refine K_then ?_|refine K_then_exit ?_|refine K_in_exit ?_)|(refine at_E ?_;first|refine E_seq ?_|refine E_region ?_|refine E_cond_t Z ?_|refine E_cond_f Z ?_|refine E_block ?_|refine E_skip ?_|refine E_exit ?_)))
    all_goals (first|(exfalso;omega)|skip)
    refine EL_appO (news:=[int a1,int b1]) (own_ext hP xS) (hx.trans xS) (fun _=>⟨_,_,rfl,rS.at⟩) Z Z Z Z Z Z Z Z Z (by omega) (by omega) (fun vJ wJ oJ xJ kJ hJ=>?_)
    have hQJ:=(own_ext hQ xS).kept kJ sPQ.symm.kept
    obtain⟨a',cap',e,_,hatJ⟩:=own_sl hQJ
    cases e
    (repeat' (first|(refine at_EL ?_;first|refine eV Z Z (zA Z Z) ?_)))
    refine EL_appO (news:=(q.map spnC).flatten) oJ xJ hatJ rfl rfl rfl rfl rfl ?_ ?_ rfl rfl (by omega) (by omega) (fun vK wK oK xK kK hK=>?_)
    · rw [flat_len2 (k:=2) (by intro c hc;obtain⟨x,_,rfl⟩:=List.mem_map.1 hc;rfl),List.length_map]
    · exact AtsG.ones (G:=Tt) (w:=wJ) (xs:=q) (spns_ats wJ q)
    (repeat' (first|(refine at_EL ?_;first|refine eN ?_|refine eV Z Z (zB Z Z) ?_)|(refine at_K ?_;first|refine K_then ?_)|(refine at_E ?_;first|refine E_ret ?_)))
    refine ret_1 Z Z ⟨xK,p++[(⟨a1,b1⟩:Spn)]++q,by simp;omega,own_Sl (css:=(p++[(⟨a1,b1⟩:Spn)]++q).map spnC) (show wK.ownsRow w.heap.size 72 2 vK (p.length+1+q.length) _ by simpa [spnC] using oK) (spns_ats _ _) (by simp;omega) (by simp;omega)⟩
theorem rright_some (a b:Int) (w:World):Calls Tryz.prog 174 #[.agg #[int a,int b]] w (Rt fun u w'=>(∃ b,u=.bool b)∧Ext w w'):=calls_mono (rright_any a b w) fun _ _ h=>⟨⟨_,h.1⟩,h.2⟩
set_option maxRecDepth 8000 in
set_option maxHeartbeats 1000000 in
theorem without_any (l:List Spn) (v:Value) (a b:Int) (w:World) (hv:Sl w v l) (hlen:l.length≤109951162):Calls Tryz.prog 186 #[v,.agg #[int a,int b]] w (Rt fun u w'=>Ext w w'∧∃ ys:List Spn,ys.length≤2*l.length∧Sl w' u ys):=by
  refine calls_E (n:=57) (args:=[v,.agg #[int a,int b]]) Tryz.func186 rfl Tryz.ntmps186 (by simp) ?_
  have hv0:=hv
  obtain⟨ap,cap,rfl,hc,hm,hp⟩:=hv.sl
  refine E_seq ?_
  refine E_region ?_
  refine EL_box Z Z Z Z (fun bB wB xB hbB rB=>?_)
  (repeat' (first|(refine at_EL ?_;first|refine eN ?_|refine eV Z Z (zB Z Z) ?_|refine eL Z Z Z Z Z Z Z Z (fun bS wS xS hbS rS=>?_))|(refine at_K ?_;first|refine K_then ?_)|(refine at_E ?_;first|refine E_seq ?_|refine E_region ?_|refine E_block ?_)))
  refine E_loop (ι:=Nat × Value) (fun x=>[(0,.slice ap l.length cap),(3,.pointer (some ⟨bB,0,none⟩)),(5,x.2),(6,int x.1)])
    (fun x wr=>x.1≤l.length∧Ext wB wr∧∃ p:List Spn,p.length≤2*x.1∧wr.ownsRow wB.heap.size 72 2 x.2 p.length (p.map spnC).flatten) (fun x=>l.length-x.1) (0,_)
    ⟨rfl,rfl,rfl,rfl,trivial⟩ ⟨Nat.zero_le _,xS,[],Nat.le_refl _,own_row (n:=0) (size:=2) rS rfl (by omega) (by omega)⟩ ?_
  rintro⟨i,vP⟩ wr ⟨hi,hx,p,hpl,hP⟩
  dsimp only at hi hx hpl hP ⊢
  have rBr:=rB.ext hx
  by_cases hlt:i<l.length
  · obtain⟨bl,off,rfl⟩:=hp (by omega)
    obtain⟨z,hz⟩:∃ z,l[i]?=some z:=⟨_,List.getElem?_eq_getElem hlt⟩
    have hat:=spn_elem (hv0.ext (xB.trans hx)) hz
    (repeat' (first|refine E_dm (id:=5) 15 mixedOk (by kernel_rfl) Z ?_|refine yV Z Z (fun _ _ _=>val_indexAddr (m:=i) Z Z Z Z (by omega)) ?_|refine yV Z Z (fun wq _ xq=>val_load Z Z Z ((hat.ext xq).cellAt (j:=0) Z)) ?_|refine yV Z Z (fun wq _ xq=>val_load Z Z Z ((hat.ext xq).cellAt (j:=1) Z)) ?_|refine yV Z Z (fun wq _ xq=>val_load Z Z Z ((rBr.ext xq).cellAt (j:=0) Z)) ?_|refine yV Z Z (fun _ _ _=>val_min Z Z Z) ?_|refine yV Z Z (fun _ _ _=>val_build (vs:=[(0,int _),(1,int _)]) [int _,int _] rfl rfl rfl) ?_|refine RQ_alloc Z Z Z ?_|refine RQ_end (fun wq δ xq hR=>?_)|(refine at_EL ?_;first|refine eN ?_|refine eV Z Z (zA Z Z) ?_|refine eV Z Z (zB Z Z) ?_|(refine at_bin ?_;first|refine eD Z Z (zL Z Z Z) (fun hh=>?_) (fun hh=>?_))|(refine at_call ?_;first|refine eV Z Z (zK Z Z) ?_))|(refine at_K ?_;first|refine K_then ?_|refine K_then_exit ?_|refine K_in_exit ?_)|(refine at_E ?_;first|refine E_seq ?_|refine E_region ?_|refine E_cond_t Z ?_|refine E_cond_f Z ?_|refine E_block ?_|refine E_skip ?_|refine E_ret ?_|refine E_exit ?_)|(refine at_RQ ?_;first|refine yV Z Z (fun _ _ _=>zA Z Z) ?_|refine yV Z Z (fun _ _ _=>zH Z Z) ?_)))
    obtain⟨b7,e7,hge7,r70⟩:=hR 7 _ rfl
    refine EL_storeP (cs:=[int _,int _]) (off:=0) r70 xq hge7 rfl rfl rfl (show some (δ 7)=_ by rw [e7]) Z Z Z Z (Nat.le_refl _) (fun w7 r7 x7 k7=>?_)
    refine EL_nil ?_
    refine K_then ?_
    refine E.sub (M:=[(0,.slice (some ⟨bl,off,none⟩) l.length cap),(3,.pointer (some ⟨bB,0,none⟩)),(5,vP),(6,int i),(7,.pointer (some ⟨b7,0,none⟩))]) ⟨rfl,rfl,rfl,rfl,show some (δ 7)=_ by rw [e7],trivial⟩ ?_
    clear hR e7 δ
    have hat2:=hat.ext x7
    have rB2:=rBr.ext x7
    (repeat' (first|refine E_dm (id:=6) 15 mixedOk (by kernel_rfl) Z ?_|refine yV Z Z (fun _ _ _=>val_indexAddr (m:=i) Z Z Z Z (by omega)) ?_|refine yV Z Z (fun wq _ xq=>val_load Z Z Z ((hat2.ext xq).cellAt (j:=0) Z)) ?_|refine yV Z Z (fun wq _ xq=>val_load Z Z Z ((hat2.ext xq).cellAt (j:=1) Z)) ?_|refine yV Z Z (fun wq _ xq=>val_load Z Z Z ((rB2.ext xq).cellAt (j:=1) Z)) ?_|refine yV Z Z (fun _ _ _=>val_max Z Z Z) ?_|refine yV Z Z (fun _ _ _=>val_build (vs:=[(0,int _),(1,int _)]) [int _,int _] rfl rfl rfl) ?_|refine RQ_alloc Z Z Z ?_|refine RQ_end (fun wq δ xq hR=>?_)|(refine at_E ?_;first|refine E_seq ?_)|(refine at_RQ ?_;first|refine yV Z Z (fun _ _ _=>zA Z Z) ?_|refine yV Z Z (fun _ _ _=>zH Z Z) ?_)))
    obtain⟨b8,e8,hge8,r80⟩:=hR 8 _ rfl
    refine EL_storeP (cs:=[int _,int _]) (off:=0) r80 xq hge8 rfl rfl rfl (show some (δ 8)=_ by rw [e8]) Z Z Z Z (Nat.le_refl _) (fun w8 r8 x8 k8=>?_)
    have r72:=r7.ext x8
    have hx2:=hx.trans (x7.trans x8)
    have hP2:=own_ext hP (x7.trans x8)
    refine EL_nil ?_
    refine K_then ?_
    refine E.sub (M:=[(0,.slice (some ⟨bl,off,none⟩) l.length cap),(3,.pointer (some ⟨bB,0,none⟩)),(5,vP),(6,int i),(7,.pointer (some ⟨b7,0,none⟩)),(8,.pointer (some ⟨b8,0,none⟩))]) ⟨rfl,rfl,rfl,rfl,rfl,show some (δ 8)=_ by rw [e8],trivial⟩ ?_
    clear hR e8 δ
    obtain⟨m1,hm1⟩:∃ m1,m1=(if a<z.til then a else z.til):=⟨_,rfl⟩
    obtain⟨m2,hm2⟩:∃ m2,m2=(if b>z.frm then b else z.frm):=⟨_,rfl⟩
    have r7:Row w8 b7 72 [int z.frm,int m1]:=by rw [hm1];exact r72
    have r8:Row w8 b8 72 [int m2,int z.til]:=by rw [hm2];exact r8
    have hx:=hx2
    have hlt0:∀ k,vP.ownBlock=some k→k<wr.heap.size:=fun k h=>(hP.lt k h).2
    have hwb8:wr.heap.size≤b8:=by have:=xq.size;have:=x7.size;omega
    have hP:=hP2
    (repeat' (first|refine eV Z Z (val_loadA Z Z Z r7.at rfl) ?_|refine eV Z Z (val_loadA Z Z Z r8.at rfl) ?_|(refine EL_call Z Z (entersF Z Z en174) (rright_some _ _ _) (fun vC wC hC=>?_);obtain⟨⟨bb,rfl⟩,xC⟩:=hC;(try replace r7:=r7.ext xC);replace r8:=r8.ext xC;replace hx:=hx.trans xC;replace hP:=own_ext hP xC)|(refine EL_appO (news:=[int _,int _]) (own_ext hP xS) (hx.trans xS) (fun _=>⟨_,_,rfl,rS.at⟩) Z Z Z Z Z Z Z Z Z (by omega) (by omega) (fun vJ wJ oJ xJ kJ hJ=>?_);(first|replace r8:=kJ.row (r8.ext xS) (fun e=>by have:=hlt0 _ e.symm;omega)|skip);replace hP:=oJ;replace hx:=xJ)|(refine at_EL ?_;first|refine eN ?_|refine eV Z Z (zA Z Z) ?_|refine eV Z Z (zB Z Z) ?_|(refine at_bin ?_;first|refine eV Z Z (zU Z Z Z (by omega) (by omega)) ?_)|refine eL Z Z Z Z Z Z Z Z (fun bS wS xS hbS rS=>?_))|(refine at_K ?_;first|refine K_then ?_|refine K_in ?_)|(refine at_E ?_;first|refine E_seq ?_|refine E_region ?_|refine E_skip ?_|(refine E_cond Z (fun hg=>?_) (fun hg=>?_) <;> subst hg))))
    all_goals (first|(exfalso;omega)|skip)
    all_goals first
      | exact K_rnd (i+1,_) ⟨rfl,rfl,rfl,rfl,trivial⟩ ⟨by dsimp only;omega,hx,p,by simp;omega,hP⟩ (by dsimp only;omega)
      | exact K_rnd (i+1,_) ⟨rfl,rfl,rfl,rfl,trivial⟩ ⟨by dsimp only;omega,hx,p++[(⟨z.frm,m1⟩:Spn)],by simp;omega,by simpa [spnC] using hP⟩ (by dsimp only;omega)
      | exact K_rnd (i+1,_) ⟨rfl,rfl,rfl,rfl,trivial⟩ ⟨by dsimp only;omega,hx,p++[(⟨m2,z.til⟩:Spn)],by simp;omega,by simpa [spnC] using hP⟩ (by dsimp only;omega)
      | exact K_rnd (i+1,_) ⟨rfl,rfl,rfl,rfl,trivial⟩ ⟨by dsimp only;omega,hx,p++[(⟨z.frm,m1⟩:Spn)]++[(⟨m2,z.til⟩:Spn)],by simp;omega,by simpa [spnC] using hP⟩ (by dsimp only;omega)
  · have hi':i=l.length:=by omega
    (repeat' (first|(refine at_EL ?_;first|refine eN ?_|refine eV Z Z (zA Z Z) ?_|refine eV Z Z (zB Z Z) ?_|(refine at_bin ?_;first|refine eD Z Z (zL Z Z Z) (fun hh=>?_) (fun hh=>?_))|(refine at_call ?_;first|refine eV Z Z (zK Z Z) ?_))|(refine at_K ?_;first|refine K_then ?_|refine K_then_exit ?_|refine K_in_exit ?_)|(refine at_E ?_;first|refine E_seq ?_|refine E_region ?_|refine E_cond_t Z ?_|refine E_cond_f Z ?_|refine E_block ?_|refine E_skip ?_|refine E_ret ?_|refine E_exit ?_)))
    all_goals (first|(exfalso;omega)|skip)
    exact ret_1 Z Z ⟨xB.trans hx,p,by omega,own_Sl (css:=p.map spnC) hP (spns_ats _ _) Z (by omega)⟩
set_option maxRecDepth 8000 in
set_option maxHeartbeats 1000000 in
theorem sunion_any (l:List Spn) (v:Value) (w:World) (hv:Sl w v l) (hlen:l.length≤1099511626):Calls Tryz.prog 185 #[v] w (Rt fun u w'=>Ext w w'∧∃ ys:List Spn,ys.length≤l.length∧Sl w' u ys):=by
  refine calls_E (n:=24) (args:=[v]) Tryz.func185 rfl Tryz.ntmps185 (by simp) ?_
  have hv0:=hv
  obtain⟨ap,cap,rfl,hc,hm,hp⟩:=hv.sl
  (repeat' (first|(refine at_EL ?_;first|refine eN ?_|refine eV Z Z (zB Z Z) ?_|refine eL Z Z Z Z Z Z Z Z (fun bS wS xS hbS rS=>?_))|(refine at_K ?_;first|refine K_then ?_)|(refine at_E ?_;first|refine E_seq ?_|refine E_region ?_|refine E_block ?_)))
  refine E_loop (ι:=Nat × Value) (fun x=>[(0,.slice ap l.length cap),(3,x.2),(4,int x.1)])
    (fun x wr=>x.1≤l.length∧Ext w wr∧∃ p:List Spn,p.length≤x.1∧Sl wr x.2 p) (fun x=>l.length-x.1) (0,_)
    ⟨rfl,rfl,rfl,trivial⟩ ⟨Nat.zero_le _,xS,[],Nat.le_refl _,row_Sl (xs:=([]:List Spn)) (css:=[]) rS trivial (Nat.le_refl _) (by simp)⟩ ?_
  rintro⟨i,vP⟩ wr ⟨hi,hx,p,hpl,hP⟩
  dsimp only at hi hx hpl hP ⊢
  by_cases hlt:i<l.length
  · obtain⟨bl,off,rfl⟩:=hp (by omega)
    obtain⟨z,hz⟩:∃ z,l[i]?=some z:=⟨_,List.getElem?_eq_getElem hlt⟩
    have hat:=spn_elem (hv0.ext hx) hz
    (repeat' (first|refine eV Z Z (val_indexAddr (m:=i) Z Z Z Z (by omega)) ?_|refine eV Z Z (val_loadA Z Z Z hat rfl) ?_|(refine EL_call Z Z (entersF Z Z en174) (rright_some _ _ _) (fun vC wC hC=>?_);obtain⟨⟨bb,rfl⟩,xC⟩:=hC;replace hat:=hat.ext xC;replace hx:=hx.trans xC;replace hP:=hP.ext xC)|(refine EL_call Z Z (entersF Z Z en199) (insert_any p vP _ _ _ hP (by omega)) (fun vD wD hD=>?_);obtain⟨xD,ys,hyl,hys⟩:=hD)|(refine at_EL ?_;first|refine eN ?_|refine eV Z Z (zA Z Z) ?_|refine eV Z Z (zB Z Z) ?_|(refine at_bin ?_;first|refine eD Z Z (zL Z Z Z) (fun hh=>?_) (fun hh=>?_)|refine eV Z Z (zU Z Z Z (by omega) (by omega)) ?_)|(refine at_call ?_;first|refine eV Z Z (zK Z Z) ?_))|(refine at_K ?_;first|refine K_then ?_|refine K_in ?_|refine K_then_exit ?_|refine K_in_exit ?_)|(refine at_E ?_;first|refine E_seq ?_|refine E_region ?_|refine E_cond_t Z ?_|refine E_cond_f Z ?_|refine E_block ?_|refine E_skip ?_|refine E_ret ?_|refine E_exit ?_|(refine E_cond Z (fun hg=>?_) (fun hg=>?_) <;> subst hg))))
    all_goals (first|(exfalso;omega)|skip)
    · exact K_rnd (i+1,vD) ⟨rfl,rfl,rfl,trivial⟩ ⟨by dsimp only;omega,hx.trans xD,ys,by dsimp only;omega,hys⟩ (by dsimp only;omega)
    · exact K_rnd (i+1,vP) ⟨rfl,rfl,rfl,trivial⟩ ⟨by dsimp only;omega,hx,p,by dsimp only;omega,hP⟩ (by dsimp only;omega)
  · (repeat' (first|(refine at_EL ?_;first|refine eN ?_|refine eV Z Z (zA Z Z) ?_|refine eV Z Z (zB Z Z) ?_|(refine at_bin ?_;first|refine eD Z Z (zL Z Z Z) (fun hh=>?_) (fun hh=>?_))|(refine at_call ?_;first|refine eV Z Z (zK Z Z) ?_))|(refine at_K ?_;first|refine K_then ?_|refine K_then_exit ?_|refine K_in_exit ?_)|(refine at_E ?_;first|refine E_seq ?_|refine E_region ?_|refine E_cond_t Z ?_|refine E_cond_f Z ?_|refine E_block ?_|refine E_skip ?_|refine E_ret ?_|refine E_exit ?_)))
    all_goals (first|(exfalso;omega)|skip)
    exact ret_1 Z Z ⟨hx,p,by omega,hP⟩
set_option maxRecDepth 8000 in
set_option maxHeartbeats 1000000 in
theorem minus2_any (l m:List Spn) (u v:Value) (w:World) (hu:Sl w u l) (hv:Sl w v m) (hlen:l.length≤2) (hm20:m.length≤20):Calls Tryz.prog 175 #[u,v] w (Rt fun r w'=>Ext w w'∧∃ ys:List Spn,Sl w' r ys):=by
  refine calls_E (n:=27) (args:=[u,v]) Tryz.func175 rfl Tryz.ntmps175 (by simp) ?_
  have hv0:=hv
  obtain⟨ap,cap,rfl,hc,hm,hp⟩:=hv.sl
  (repeat' (first|(refine EL_call Z Z (entersF Z Z en185) (sunion_any l u _ hu (by omega)) (fun vD wD hD=>?_);obtain⟨xD,zs,hzl,hzs⟩:=hD)|(refine at_EL ?_;first|refine eN ?_|refine eV Z Z (zA Z Z) ?_|refine eV Z Z (zB Z Z) ?_)|(refine at_K ?_;first|refine K_then ?_)|(refine at_E ?_;first|refine E_seq ?_|refine E_region ?_|refine E_block ?_)))
  refine E_loop (ι:=Nat × Value) (fun x=>[(1,.slice ap m.length cap),(5,x.2),(6,int x.1)])
    (fun x wr=>x.1≤m.length∧Ext w wr∧∃ p:List Spn,p.length≤2*2 ^ x.1∧Sl wr x.2 p) (fun x=>m.length-x.1) (0,_)
    ⟨rfl,rfl,rfl,trivial⟩ ⟨Nat.zero_le _,xD,zs,by simp;omega,hzs⟩ ?_
  rintro⟨i,vP⟩ wr ⟨hi,hx,p,hpl,hP⟩
  dsimp only at hi hx hpl hP ⊢
  have hpow:2 ^ i≤2 ^ 20:=Nat.pow_le_pow_right (by omega) (by omega)
  by_cases hlt:i<m.length
  · obtain⟨bl,off,rfl⟩:=hp (by omega)
    obtain⟨z,hz⟩:∃ z,m[i]?=some z:=⟨_,List.getElem?_eq_getElem hlt⟩
    have hat:=spn_elem (hv0.ext hx) hz
    have hps:2 ^ (i+1)=2*2 ^ i:=by rw [Nat.pow_succ];omega
    (repeat' (first|refine eV Z Z (val_indexAddr (m:=i) Z Z Z Z (by omega)) ?_|refine eV Z Z (val_loadA Z Z Z hat rfl) ?_|(refine EL_call Z Z (entersF Z Z en174) (rright_some _ _ _) (fun vC wC hC=>?_);obtain⟨⟨bb,rfl⟩,xC⟩:=hC;replace hat:=hat.ext xC;replace hx:=hx.trans xC;replace hP:=hP.ext xC)|(refine EL_call Z Z (entersF Z Z en186) (without_any p vP _ _ _ hP (by omega)) (fun vE wE hE=>?_);obtain⟨xE,ys,hyl,hys⟩:=hE)|(refine at_EL ?_;first|refine eN ?_|refine eV Z Z (zA Z Z) ?_|refine eV Z Z (zB Z Z) ?_|(refine at_bin ?_;first|refine eD Z Z (zL Z Z Z) (fun hh=>?_) (fun hh=>?_)|refine eV Z Z (zU Z Z Z (by omega) (by omega)) ?_)|(refine at_call ?_;first|refine eV Z Z (zK Z Z) ?_))|(refine at_K ?_;first|refine K_then ?_|refine K_in ?_|refine K_then_exit ?_|refine K_in_exit ?_)|(refine at_E ?_;first|refine E_seq ?_|refine E_region ?_|refine E_cond_t Z ?_|refine E_cond_f Z ?_|refine E_block ?_|refine E_skip ?_|refine E_ret ?_|refine E_exit ?_|(refine E_cond Z (fun hg=>?_) (fun hg=>?_) <;> subst hg))))
    all_goals (first|(exfalso;omega)|skip)
    · exact K_rnd (i+1,vE) ⟨rfl,rfl,rfl,trivial⟩ ⟨by dsimp only;omega,hx.trans xE,ys,by dsimp only;rw [hps];omega,hys⟩ (by dsimp only;omega)
    · exact K_rnd (i+1,vP) ⟨rfl,rfl,rfl,trivial⟩ ⟨by dsimp only;omega,hx,p,by dsimp only;rw [hps];omega,hP⟩ (by dsimp only;omega)
  · (repeat' (first|(refine at_EL ?_;first|refine eN ?_|refine eV Z Z (zA Z Z) ?_|refine eV Z Z (zB Z Z) ?_|(refine at_bin ?_;first|refine eD Z Z (zL Z Z Z) (fun hh=>?_) (fun hh=>?_))|(refine at_call ?_;first|refine eV Z Z (zK Z Z) ?_))|(refine at_K ?_;first|refine K_then ?_|refine K_then_exit ?_|refine K_in_exit ?_)|(refine at_E ?_;first|refine E_seq ?_|refine E_region ?_|refine E_cond_t Z ?_|refine E_cond_f Z ?_|refine E_block ?_|refine E_skip ?_|refine E_ret ?_|refine E_exit ?_)))
    all_goals (first|(exfalso;omega)|skip)
    exact ret_1 Z Z ⟨hx,p,hP⟩
set_option maxRecDepth 8000 in
theorem covers_any (m:List Spn) (v:Value) (a b:Int) (w:World) (hv:Sl w v m) (hm20:m.length≤20):Calls Tryz.prog 146 #[v,.agg #[int a,int b]] w (Rt fun r w'=>(∃ b,r=.bool b)∧Ext w w'):=by
  refine calls_E (n:=15) (args:=[v,.agg #[int a,int b]]) Tryz.func146 rfl Tryz.ntmps146 (by simp) ?_
  refine E_seq ?_
  refine E_region ?_
  refine EL_box Z Z Z Z (fun bB wB xB hbB rB=>?_)
  replace hv:=hv.ext xB
  (repeat' (first|refine eV Z Z (val_loadA (cs:=[int a,int b]) Z Z Z rB.at rfl) ?_|(refine EL_call Z Z (entersF Z Z en174) (rright_some _ _ _) (fun vC wC hC=>?_);obtain⟨⟨bb,rfl⟩,xC⟩:=hC;cases bb <;>(replace rB:=rB.ext xC;replace hv:=hv.ext xC;replace xB:=xB.trans xC))|(refine EL_call Z Z (entersF Z Z en175) (minus2_any [(⟨a,b⟩:Spn)] m _ v _ (row_Sl (css:=[ [int a,int b] ]) (cap:=1) rS (spns_ats _ [(⟨a,b⟩:Spn)]) (Nat.le_refl _) (by simp)) (hv.ext xS) (by simp) hm20) (fun vD wD hD=>?_);obtain⟨xD,ys,hys⟩:=hD;obtain⟨aY,cY,rfl,_⟩:=hys.sl)|(refine at_EL ?_;first|refine eN ?_|refine eO Z Z ?_|refine eV Z Z (zA Z Z) ?_|refine eV Z Z (zB Z Z) ?_|(refine at_bin ?_;first|refine eD Z Z (zM Z Z Z) (fun hh=>?_) (fun hh=>?_))|(refine at_call ?_;first|refine eV Z Z (zK Z Z) ?_)|refine eV Z Z (zC Z Z Z) ?_|refine eV Z Z (zD Z Z Z) ?_|refine eL Z Z Z Z Z Z Z Z (fun bS wS xS hbS rS=>?_))|(refine at_K ?_;first|refine K_then ?_)|(refine at_E ?_;first|refine E_seq ?_|refine E_region ?_|refine E_ret ?_)))
  all_goals (first|(exfalso;omega)|skip)
  all_goals first
    | exact ret_1 Z Z ⟨⟨_,rfl⟩,xB⟩
    | exact ret_1 Z Z ⟨⟨_,rfl⟩,xB.trans (xS.trans xD)⟩
end Go.Proofs.YtnifmbbpfdghmaaGreatDoor
namespace Go.Proofs.YtnifmbbpfdghmaaGreatDoor
open Go.RowKit Go.En
theorem loop_nx2 {α:Type} {l:List α} {i:Nat} {x:α} {f:α→Prop} (hx:l[i]?=some x) (hall:∀ j,j<i→∀ y,l[j]?=some y→f y) (h:f x):∀ j,j<i+1→∀ y,l[j]?=some y→f y:=fun j hj y hy=>by
  by_cases hj2:j<i
  · exact hall j hj2 y hy
  · obtain rfl:j=i:=by omega
    rw [hx] at hy;cases hy;exact h
attribute [local irreducible] E EL K Val Enters Rt Calls bodyPost Code.wp RQ
theorem rname_some (s:List UInt8) (w:World) (hl:s.length≤9223372036854775807):Calls Tryz.prog 170 #[str s] w (Rt fun u w'=>(∃ b,u=.bool b)∧Ext w w'):=rname_any s w hl
set_option maxRecDepth 8000 in
set_option maxHeartbeats 4000000 in
theorem tier_any (ts:List Tier) (i:Nat) (t:Tier) (v:Value) (w:World) (hv:Sl w v ts) (ht:ts[i]?=some t) (hn:∀ t∈ts,t.name.length≤9223372036854775807) :
    Calls Tryz.prog 140 #[v,int i] w (Rt fun u w'=>(∃ e:Int,u=int e∧(e=0→TierOK ts i t))∧Ext w w'):=by
  refine calls_E (n:=136) (args:=[v,int i]) Tryz.func140 rfl Tryz.ntmps140 (by simp) ?_
  have hv0:=hv
  obtain⟨a,cap,rfl,hc,hm,hp⟩:=hv.sl
  have hilt:=(List.getElem?_eq_some_iff.1 ht).1
  obtain⟨b,off,rfl⟩:=hp (by omega)
  have hat:=tier_elem hv0 ht
  have hnl:=hn t (List.mem_of_getElem? ht)
  (repeat' (first|refine eV Z Z (val_indexAddr (m:=i) Z Z Z Z (by omega)) ?_|refine eV Z Z (val_loadA Z Z Z hat rfl) ?_|(refine at_EL ?_;first|refine eN ?_|refine eV Z Z (zA Z Z) ?_|refine eV Z Z (zB Z Z) ?_)|(refine at_K ?_;first|refine K_then ?_)|(refine at_E ?_;first|refine E_seq ?_|refine E_region ?_)))
  refine EL_alloc Z Z Z (fun b5 w5 x5 hb5 r50=>?_)
  refine EL_storeP (cs:=tierC t) r50 x5 (by omega) Z Z Z Z Z Z Z Z (Nat.le_refl _) (fun w6 r5' x6 k6=>?_)
  have r5:Row w6 b5 70 (tierC t):=r5'
  clear r5'
  (repeat' ((fail_if_success (refine E_seq (x:=(Code.seq (Code.region 4 _ _) _)) ?_));first|refine eV Z Z (val_load Z Z Z (r5.cellAt rfl)) ?_|(refine EL_call Z Z (entersF Z Z en170) (rname_some _ _ hnl) (fun vC wC hC=>?_);obtain⟨⟨bb,rfl⟩,xC⟩:=hC;cases bb)|(refine at_EL ?_;first|refine eN ?_|refine eV Z Z (zB Z Z) ?_|refine eV Z Z (zE Z Z) ?_|refine eV Z Z (zH Z Z) ?_)|(refine at_K ?_;first|refine K_then ?_|refine K_then_ret ?_)|(refine at_E ?_;first|refine E_seq ?_|refine E_region ?_|refine E_cond_t Z ?_|refine E_cond_f Z ?_|refine E_skip ?_|refine E_ret ?_)))
  · exact ret_1 Z Z ⟨⟨_,rfl,fun h=>by omega⟩,x6.trans xC⟩
  have hx0:=x6.trans xC
  have r50:=r5.ext xC
  clear r5 k6
  refine E_mid (ι:=Unit) (fun _=>[(0,.slice (some ⟨b,off,none⟩) ts.length cap),(1,int i),(5,.pointer (some ⟨b5,0,none⟩))]) (fun _ wr=>Ext wC wr) ?_ ?_
  · (repeat' (first|(refine at_EL ?_;first|refine eN ?_|refine eV Z Z (zB Z Z) ?_)|(refine at_K ?_;first|refine K_then ?_)|(refine at_E ?_;first|refine E_seq ?_|refine E_region ?_|refine E_block ?_)))
    refine E_loop (ι:=Nat) (fun k=>[(0,.slice (some ⟨b,off,none⟩) ts.length cap),(1,int i),(5,.pointer (some ⟨b5,0,none⟩)),(6,int k)]) (fun k wr=>k≤i∧Ext wC wr) (fun k=>i-k) 0
      ⟨rfl,rfl,rfl,rfl,trivial⟩ ⟨Nat.zero_le _,Ext.refl _⟩ ?_
    rintro k wr ⟨hk,hx⟩
    by_cases hlt:k<i
    · obtain⟨p,hpk⟩:∃ p,ts[k]?=some p:=⟨_,List.getElem?_eq_getElem (by omega)⟩
      have hatk:=tier_elem (hv0.ext (hx0.trans hx)) hpk
      have r5r:=r50.ext hx
      (repeat' (first|refine yV Z Z (fun _ _ _=>val_indexAddr (m:=k) Z Z Z Z (by omega)) ?_|refine yV Z Z (fun wq _ xq=>val_load Z Z Z ((hatk.ext xq).cellAt (j:=0) Z)) ?_|refine yV Z Z (fun wq _ xq=>val_load Z Z Z ((r5r.ext xq).cellAt (j:=0) Z)) ?_|(refine at_EL ?_;first|refine eN ?_|refine eV Z Z (zA Z Z) ?_|refine eV Z Z (zB Z Z) ?_|(refine at_bin ?_;first|refine eD Z Z (zL Z Z Z) (fun hh=>?_) (fun hh=>?_)|refine eV Z Z (zU Z Z Z (by omega) (by omega)) ?_))|(refine at_K ?_;first|refine K_then ?_|refine K_in ?_|refine K_then_ret ?_|refine K_then_exit ?_|refine K_in_ret ?_|refine K_in_exit ?_)|(refine at_E ?_;first|refine E_seq ?_|refine E_region ?_|refine E_cond_t Z ?_|refine E_cond_f Z ?_|refine E_block ?_|refine E_skip ?_|refine E_ret ?_|refine E_exit ?_|refine E_dq mixedOk (by kernel_rfl) Z ?_)|(refine at_RQ ?_;first|refine yN Z (fun wq xq=>?_)|refine yV Z Z (fun _ _ _=>zA Z Z) ?_|(refine at_binR ?_;first|refine yD Z Z (fun _ _ _=>zR Z Z Z) (fun hh=>?_) (fun hh=>?_))|refine yV Z Z (fun _ _ _=>zH Z Z) ?_)))
      all_goals (first|(exfalso;omega)|skip)
      · exact ret_1 Z Z ⟨⟨_,rfl,fun h=>by omega⟩,(hx0.trans hx).trans xq⟩
      · exact K_rnd (k+1) ⟨rfl,rfl,rfl,rfl,trivial⟩ ⟨by omega,hx.trans xq⟩ (by omega)
    · (repeat' (first|(refine at_EL ?_;first|refine eN ?_|refine eV Z Z (zA Z Z) ?_|(refine at_bin ?_;first|refine eD Z Z (zL Z Z Z) (fun hh=>?_) (fun hh=>?_)))|(refine at_K ?_;first|refine K_then ?_|refine K_then_exit ?_|refine K_in_exit ?_)|(refine at_E ?_;first|refine E_seq ?_|refine E_region ?_|refine E_cond_t Z ?_|refine E_cond_f Z ?_|refine E_block ?_|refine E_skip ?_|refine E_exit ?_)))
      all_goals (first|(exfalso;omega)|skip)
      exact K_mid () ⟨rfl,rfl,rfl,trivial⟩ hx
  rintro⟨⟩ wr hx
  have hx1:=hx0.trans hx
  have r51:=r50.ext hx
  clear hx0 r50
  (repeat' ((fail_if_success (refine E_seq (x:=(Code.seq (Code.region 13 _ _) _)) ?_));first|refine eV Z Z (val_load Z Z Z (r51.cellAt rfl)) ?_|(refine at_EL ?_;first|refine eN ?_|refine eO Z Z ?_|refine eV Z Z (zA Z Z) ?_|refine eV Z Z (zB Z Z) ?_|(refine at_bin ?_;first|refine eD Z Z (zL Z Z Z) (fun hh=>?_) (fun hh=>?_)|refine eD Z Z (zO Z Z Z) (fun hh=>?_) (fun hh=>?_))|refine eV Z Z (zC Z Z Z) ?_|refine eV Z Z (zD Z Z Z) ?_|refine eV Z Z (zH Z Z) ?_)|(refine at_K ?_;first|refine K_then ?_|refine K_then_ret ?_)|(refine at_E ?_;first|refine E_seq ?_|refine E_region ?_|refine E_cond_t Z ?_|refine E_cond_f Z ?_|refine E_skip ?_|refine E_ret ?_)))
  all_goals (first|exact ret_1 Z Z ⟨⟨_,rfl,fun h=>by omega⟩,hx1⟩|skip)
  refine E_mid (ι:=Unit) (fun _=>[(0,.slice (some ⟨b,off,none⟩) ts.length cap),(1,int i),(5,.pointer (some ⟨b5,0,none⟩))]) (fun _ w2=>Ext wr w2∧(t.role≠0→∀ k p,k<i→ts[k]?=some p→p.role≠t.role)) ?_ ?_
  · (repeat' (first|(refine at_EL ?_;first|refine eN ?_|refine eV Z Z (zB Z Z) ?_)|(refine at_K ?_;first|refine K_then ?_)|(refine at_E ?_;first|refine E_seq ?_|refine E_region ?_|refine E_block ?_)))
    refine E_loop (ι:=Nat) (fun k=>[(0,.slice (some ⟨b,off,none⟩) ts.length cap),(1,int i),(5,.pointer (some ⟨b5,0,none⟩)),(7,int k)]) (fun k w2=>k≤i∧Ext wr w2∧(t.role≠0→∀ j,j<k→∀ p,ts[j]?=some p→p.role≠t.role)) (fun k=>i-k) 0
      ⟨rfl,rfl,rfl,rfl,trivial⟩ ⟨Nat.zero_le _,Ext.refl _,fun _ j hj=>by omega⟩ ?_
    rintro k w2 ⟨hk,hx2,hall⟩
    by_cases hlt:k<i
    · obtain⟨p,hpk⟩:∃ p,ts[k]?=some p:=⟨_,List.getElem?_eq_getElem (by omega)⟩
      have hatk:=tier_elem (hv0.ext (hx1.trans hx2)) hpk
      have r5r:=r51.ext hx2
      (repeat' (first|refine yV Z Z (fun _ _ _=>val_indexAddr (m:=k) Z Z Z Z (by omega)) ?_|refine yV Z Z (fun wq _ xq=>val_load Z Z Z ((hatk.ext xq).cellAt (j:=2) Z)) ?_|refine yV Z Z (fun wq _ xq=>val_load Z Z Z ((r5r.ext xq).cellAt (j:=2) Z)) ?_|(refine at_EL ?_;first|refine eN ?_|refine eV Z Z (zA Z Z) ?_|refine eV Z Z (zB Z Z) ?_|(refine at_bin ?_;first|refine eD Z Z (zL Z Z Z) (fun hh=>?_) (fun hh=>?_)|refine eV Z Z (zU Z Z Z (by omega) (by omega)) ?_))|(refine at_K ?_;first|refine K_then ?_|refine K_in ?_|refine K_then_ret ?_|refine K_then_exit ?_|refine K_in_ret ?_|refine K_in_exit ?_)|(refine at_E ?_;first|refine E_seq ?_|refine E_region ?_|refine E_cond_t Z ?_|refine E_cond_f Z ?_|refine E_block ?_|refine E_skip ?_|refine E_ret ?_|refine E_exit ?_|refine E_dq mixedOk (by kernel_rfl) Z ?_)|(refine at_RQ ?_;first|refine yN Z (fun wq xq=>?_)|refine yO Z Z ?_|refine yV Z Z (fun _ _ _=>zA Z Z) ?_|(refine at_binR ?_;first|refine yD Z Z (fun _ _ _=>zM Z Z Z) (fun hh=>?_) (fun hh=>?_)|refine yD Z Z (fun _ _ _=>zQ Z Z Z) (fun hh=>?_) (fun hh=>?_))|refine yV Z Z (fun _ _ _=>zC Z Z Z) ?_|refine yV Z Z (fun _ _ _=>zD Z Z Z) ?_|refine yV Z Z (fun _ _ _=>zH Z Z) ?_)))
      all_goals (first|(exfalso;omega)|skip)
      all_goals first
        | exact ret_1 Z Z ⟨⟨_,rfl,fun h=>by omega⟩,(hx1.trans hx2).trans xq⟩
        | exact K_rnd (k+1) ⟨rfl,rfl,rfl,rfl,trivial⟩ ⟨by omega,hx2.trans xq,fun h0=>loop_nx2 hpk (hall h0) (by assumption)⟩ (by omega)
        | exact K_rnd (k+1) ⟨rfl,rfl,rfl,rfl,trivial⟩ ⟨by omega,hx2.trans xq,fun h0=>absurd h0 ‹_›⟩ (by omega)
    · (repeat' (first|(refine at_EL ?_;first|refine eN ?_|refine eV Z Z (zA Z Z) ?_|(refine at_bin ?_;first|refine eD Z Z (zL Z Z Z) (fun hh=>?_) (fun hh=>?_)))|(refine at_K ?_;first|refine K_then ?_|refine K_then_exit ?_|refine K_in_exit ?_)|(refine at_E ?_;first|refine E_seq ?_|refine E_region ?_|refine E_cond_t Z ?_|refine E_cond_f Z ?_|refine E_block ?_|refine E_skip ?_|refine E_exit ?_)))
      all_goals (first|(exfalso;omega)|skip)
      exact K_mid () ⟨rfl,rfl,rfl,trivial⟩ ⟨hx2,fun h0 k2 p hk2 hp2=>hall h0 k2 (by omega) p hp2⟩
  rintro⟨⟩ w2 ⟨hx2,huniq⟩
  have hx3:=hx1.trans hx2
  have r52:=r51.ext hx2
  clear hx1 r51
  by_cases hroot:t.kind=0
  · (repeat' (first|refine eV Z Z (val_load Z Z Z (r52.cellAt rfl)) ?_|(refine yN Z (fun wq xq=>?_);replace hx3:=hx3.trans xq;replace r52:=r52.ext xq)|refine yV Z Z (fun wq _ xq=>val_load Z Z Z ((r52.ext xq).cellAt rfl)) ?_|refine RQ_call Z Z (fun _ _ _=>entersF Z Z en172) (fun wq _=>kind_any _ wq) ?_|refine RQ_call Z Z (fun _ _ _=>entersF Z Z en173) (fun wq _=>over_any _ wq) ?_|(refine at_EL ?_;first|refine eN ?_|refine eO Z Z ?_|refine eV Z Z (zA Z Z) ?_|refine eV Z Z (zB Z Z) ?_|(refine at_bin ?_;first|refine eD Z Z (zL Z Z Z) (fun hh=>?_) (fun hh=>?_)|refine eD Z Z (zM Z Z Z) (fun hh=>?_) (fun hh=>?_)|refine eD Z Z (zP Z Z Z) (fun hh=>?_) (fun hh=>?_)|refine eD Z Z (zQ Z Z Z) (fun hh=>?_) (fun hh=>?_))|refine eV Z Z (zC Z Z Z) ?_|refine eV Z Z (zD Z Z Z) ?_|refine eV Z Z (zE Z Z) ?_|refine eV Z Z (zH Z Z) ?_)|(refine at_K ?_;first|refine K_then ?_|refine K_then_ret ?_)|(refine at_E ?_;first|refine E_seq ?_|refine E_region ?_|refine E_cond_t Z ?_|refine E_cond_f Z ?_|refine E_skip ?_|refine E_ret ?_|refine E_dq mixedOk (by kernel_rfl) Z ?_)|(refine at_RQ ?_;first|refine yO Z Z ?_|refine yV Z Z (fun _ _ _=>zA Z Z) ?_|(refine at_binR ?_;first|refine yD Z Z (fun _ _ _=>zP Z Z Z) (fun hh=>?_) (fun hh=>?_)|refine yD Z Z (fun _ _ _=>zQ Z Z Z) (fun hh=>?_) (fun hh=>?_))|refine yV Z Z (fun _ _ _=>zC Z Z Z) ?_|refine yV Z Z (fun _ _ _=>zD Z Z Z) ?_|refine yV Z Z (fun _ _ _=>zH Z Z) ?_)))
    all_goals (first|(exfalso;omega)|skip)
    all_goals (first|exact ret_1 Z Z ⟨⟨_,rfl,fun h=>by omega⟩,hx3⟩|skip)
    all_goals
      refine ret_1 Z Z ⟨⟨_,rfl,fun _=>?_⟩,hx3⟩
      have hk:¬ (0≤kindF t.role∧t.kind≠kindF t.role):=by rintro⟨h1,h2⟩;first|exact absurd h1 ‹_› | exact absurd h2 ‹_›
      have ho:¬ 0≤overF t.role:=‹_›
      clear hh
      unfold kindF at hk
      unfold overF at ho
      exact⟨by omega,by omega,huniq,fun _=>by omega,fun h=>absurd hroot h,fun h=>by omega,by split at hk <;>(try split at hk) <;>(try split at hk) <;> omega,by split at ho <;>(try split at ho) <;>(try split at ho) <;> omega⟩
  · by_cases hpar:0≤t.parent∧t.parent<i
    · obtain⟨m,hmm⟩:∃ m:Nat,t.parent=(m:Int):=⟨t.parent.toNat,by omega⟩
      have hmi:m<i:=by omega
      obtain⟨p,hpm⟩:∃ p,ts[m]?=some p:=⟨_,List.getElem?_eq_getElem (by omega)⟩
      have hatp:=tier_elem (hv0.ext hx3) hpm
      have hpm2:ts[t.parent.toNat]?=some p:=by rw [hmm,Int.toNat_natCast,hpm]
      obtain⟨bt,hbt⟩:∃ bt,bt=timedB t.kind:=⟨_,rfl⟩
      obtain⟨bp,hbp⟩:∃ bp,bp=timedB p.kind:=⟨_,rfl⟩
      have ct:=timed_any t.kind
      have cp:=timed_any p.kind
      rw [← hbt] at ct
      rw [← hbp] at cp
      have hbb2:bp=true→timedB p.kind=true:=fun h=>by rw [← hbp];exact h
      have hbt2:t.kind=1∨t.kind=2→bt=true:=fun h=>by rw [hbt];exact timed_iff.2 (by omega)
      have r52':Row w2 b5 70 [str t.name,int t.kind,int t.role,int m]:=by rw [← hmm];exact r52
      clear r52
      clear hbt hbp
      (repeat' ((fail_if_success (refine E_seq (x:=(Code.seq (Code.region 21 _ _) _)) ?_));first|refine eV Z Z (val_load Z Z Z (r52'.cellAt rfl)) ?_|(refine at_EL ?_;first|refine eN ?_|refine eO Z Z ?_|refine eV Z Z (zA Z Z) ?_|refine eV Z Z (zB Z Z) ?_|(refine at_bin ?_;first|refine eD Z Z (zL Z Z Z) (fun hh=>?_) (fun hh=>?_)|refine eD Z Z (zM Z Z Z) (fun hh=>?_) (fun hh=>?_)|refine eD Z Z (zP Z Z Z) (fun hh=>?_) (fun hh=>?_)|refine eD Z Z (zQ Z Z Z) (fun hh=>?_) (fun hh=>?_))|refine eV Z Z (zC Z Z Z) ?_|refine eV Z Z (zD Z Z Z) ?_|refine eV Z Z (zE Z Z) ?_|refine eV Z Z (zH Z Z) ?_)|(refine at_K ?_;first|refine K_then ?_|refine K_then_ret ?_)|(refine at_E ?_;first|refine E_seq ?_|refine E_region ?_|refine E_cond_t Z ?_|refine E_cond_f Z ?_|refine E_skip ?_|refine E_ret ?_)))
      all_goals (first|(exfalso;omega)|skip)
      refine E_mid (ι:=Unit) (fun _=>[(0,.slice (some ⟨b,off,none⟩) ts.length cap),(1,int i),(5,.pointer (some ⟨b5,0,none⟩)),(8,.bool false)]) (fun _ w3=>Ext w2 w3∧(bt=true→bp=true)) ?_ ?_
      · cases bt <;> cases bp
        all_goals
          (repeat' (first|refine eV Z Z (val_load Z Z Z (r52'.cellAt rfl)) ?_|refine eV Z Z (val_indexAddr (m:=m) Z Z Z Z (by omega)) ?_|refine eV Z Z (val_load Z Z Z (hatp.cellAt (j:=1) Z)) ?_|(refine EL_call Z Z (entersF Z Z en171) (ct _) (fun vC wC hC=>?_);obtain⟨rfl,xC⟩:=hC;replace hatp:=hatp.ext xC;replace r52':=r52'.ext xC)|(refine EL_call Z Z (entersF Z Z en171) (cp _) (fun vD wD hD=>?_);obtain⟨rfl,xD⟩:=hD;replace xC:=xC.trans xD)|(refine at_EL ?_;first|refine eN ?_|refine eO Z Z ?_|refine eV Z Z (zA Z Z) ?_|refine eV Z Z (zB Z Z) ?_|refine eV Z Z (zC Z Z Z) ?_|refine eV Z Z (zD Z Z Z) ?_|refine eV Z Z (zE Z Z) ?_|refine eV Z Z (zH Z Z) ?_)|(refine at_K ?_;first|refine K_then ?_|refine K_then_ret ?_)|(refine at_E ?_;first|refine E_seq ?_|refine E_region ?_|refine E_cond_t Z ?_|refine E_cond_f Z ?_|refine E_skip ?_|refine E_ret ?_)))
        all_goals (first|exact ret_1 Z Z ⟨⟨_,rfl,fun h=>by omega⟩,hx3.trans xC⟩|exact K_mid () ⟨rfl,rfl,rfl,rfl,trivial⟩ ⟨xC,by simp⟩)
      rintro⟨⟩ w3 ⟨xm,hbb⟩
      replace hx3:=hx3.trans xm
      replace r52':=r52'.ext xm
      replace hatp:=hatp.ext xm
      clear ct cp
      refine E_mid (ι:=Unit) (fun _=>[(0,.slice (some ⟨b,off,none⟩) ts.length cap),(1,int i),(5,.pointer (some ⟨b5,0,none⟩)),(8,.bool false)]) (fun _ w4=>Ext w3 w4∧¬ (0≤kindF t.role∧t.kind≠kindF t.role)) ?_ ?_
      · (repeat' (first|refine yV Z Z (fun wq _ xq=>val_load Z Z Z ((r52'.ext xq).cellAt rfl)) ?_|refine RQ_call Z Z (fun _ _ _=>entersF Z Z en172) (fun wq _=>kind_any _ wq) ?_|(refine at_EL ?_;first|refine eN ?_|refine eV Z Z (zB Z Z) ?_)|(refine at_K ?_;first|refine K_then ?_|refine K_then_ret ?_)|(refine at_E ?_;first|refine E_seq ?_|refine E_region ?_|refine E_cond_t Z ?_|refine E_cond_f Z ?_|refine E_skip ?_|refine E_ret ?_|refine E_dq mixedOk (by kernel_rfl) Z ?_)|(refine at_RQ ?_;first|refine yN Z (fun wq xq=>?_)|refine yO Z Z ?_|refine yV Z Z (fun _ _ _=>zA Z Z) ?_|(refine at_binR ?_;first|refine yD Z Z (fun _ _ _=>zP Z Z Z) (fun hh=>?_) (fun hh=>?_)|refine yD Z Z (fun _ _ _=>zQ Z Z Z) (fun hh=>?_) (fun hh=>?_))|refine yV Z Z (fun _ _ _=>zC Z Z Z) ?_|refine yV Z Z (fun _ _ _=>zD Z Z Z) ?_|refine yV Z Z (fun _ _ _=>zH Z Z) ?_)))
        all_goals (first|exact ret_1 Z Z ⟨⟨_,rfl,fun h=>by omega⟩,hx3.trans xq⟩|exact K_mid () ⟨rfl,rfl,rfl,rfl,trivial⟩ ⟨xq,by rintro⟨h1,h2⟩;first|exact absurd h1 ‹_› | exact absurd h2 ‹_›⟩)
      rintro⟨⟩ w4 ⟨xn,hk⟩
      replace hx3:=hx3.trans xn
      replace r52':=r52'.ext xn
      replace hatp:=hatp.ext xn
      (repeat' (first|refine yV Z Z (fun wq _ xq=>val_load Z Z Z ((r52'.ext xq).cellAt rfl)) ?_|refine yV Z Z (fun _ _ _=>val_indexAddr (m:=m) Z Z Z Z (by omega)) ?_|refine yV Z Z (fun wq _ xq=>val_load Z Z Z ((hatp.ext xq).cellAt (j:=2) Z)) ?_|refine RQ_call Z Z (fun _ _ _=>entersF Z Z en173) (fun wq _=>over_any _ wq) ?_|(refine at_EL ?_;first|refine eN ?_|refine eV Z Z (zB Z Z) ?_)|(refine at_K ?_;first|refine K_then ?_|refine K_then_ret ?_)|(refine at_E ?_;first|refine E_seq ?_|refine E_region ?_|refine E_cond_t Z ?_|refine E_cond_f Z ?_|refine E_skip ?_|refine E_ret ?_|refine E_dq mixedOk (by kernel_rfl) Z ?_)|(refine at_RQ ?_;first|refine yN Z (fun wq xq=>?_)|refine yO Z Z ?_|refine yV Z Z (fun _ _ _=>zA Z Z) ?_|(refine at_binR ?_;first|refine yD Z Z (fun _ _ _=>zP Z Z Z) (fun hh=>?_) (fun hh=>?_)|refine yD Z Z (fun _ _ _=>zQ Z Z Z) (fun hh=>?_) (fun hh=>?_))|refine yV Z Z (fun _ _ _=>zC Z Z Z) ?_|refine yV Z Z (fun _ _ _=>zD Z Z Z) ?_|refine yV Z Z (fun _ _ _=>zH Z Z) ?_)))
      all_goals (first|(exfalso;omega)|skip)
      all_goals (first|exact ret_1 Z Z ⟨⟨_,rfl,fun h=>by omega⟩,hx3.trans xq⟩|skip)
      all_goals
        refine ret_1 Z Z ⟨⟨_,rfl,fun _=>?_⟩,hx3.trans xq⟩
        have ho:¬ (0≤overF t.role∧p.role≠overF t.role):=by rintro⟨h1,h2⟩;first|exact absurd h1 ‹_› | exact absurd h2 ‹_›
        clear hh
        unfold kindF at hk
        unfold overF at ho
        refine⟨by omega,by omega,huniq,fun h=>absurd h hroot,fun _=>by omega,fun h=>⟨p,hpm2,hbb2 (hbb (hbt2 h))⟩,?_,?_⟩
        · split at hk <;>(try split at hk) <;>(try split at hk) <;> omega
        · refine⟨fun h=>⟨hroot,p,hpm2,?_⟩,fun h=>⟨p,hpm2,?_⟩,fun h=>⟨p,hpm2,?_⟩⟩
          all_goals (split at ho <;>(try split at ho) <;>(try split at ho) <;> omega)
    · (repeat' (first|refine eV Z Z (val_load Z Z Z (r52.cellAt rfl)) ?_|(refine at_EL ?_;first|refine eN ?_|refine eO Z Z ?_|refine eV Z Z (zA Z Z) ?_|refine eV Z Z (zB Z Z) ?_|(refine at_bin ?_;first|refine eD Z Z (zL Z Z Z) (fun hh=>?_) (fun hh=>?_)|refine eD Z Z (zM Z Z Z) (fun hh=>?_) (fun hh=>?_)|refine eD Z Z (zP Z Z Z) (fun hh=>?_) (fun hh=>?_)|refine eD Z Z (zQ Z Z Z) (fun hh=>?_) (fun hh=>?_))|refine eV Z Z (zC Z Z Z) ?_|refine eV Z Z (zD Z Z Z) ?_|refine eV Z Z (zE Z Z) ?_|refine eV Z Z (zH Z Z) ?_)|(refine at_K ?_;first|refine K_then ?_|refine K_then_ret ?_)|(refine at_E ?_;first|refine E_seq ?_|refine E_region ?_|refine E_cond_t Z ?_|refine E_cond_f Z ?_|refine E_skip ?_|refine E_ret ?_)))
      all_goals (first|(exfalso;omega)|skip)
      all_goals exact ret_1 Z Z ⟨⟨_,rfl,fun h=>by omega⟩,hx3⟩
end Go.Proofs.YtnifmbbpfdghmaaGreatDoor
namespace Go.Proofs.YtnifmbbpfdghmaaGreatDoor
open Go.RowKit Go.En
theorem getR_cases (ns:List Note) (id:Int):∃(q:Note) (ok:Bool),getR ns id=.tuple #[.agg (noteC q).toArray,.bool ok]∧(ok=true→getF ns id=some q)∧(ok=false→getF ns id=none):=by
  unfold getR
  cases h:getF ns id with
  | none=>exact⟨zeroN,false,rfl,by simp,by simp⟩
  | some q=>exact⟨q,true,rfl,by simp,by simp⟩
attribute [local irreducible] E EL K Val Enters Rt Calls bodyPost Code.wp RQ
set_option maxRecDepth 8000 in
set_option maxHeartbeats 4000000 in
theorem placed_any (d:Dc) (n:Note) (t:Tier) (k:Nat) (v:Value) (w:World) (hv:DcAt w v d) (hk:n.tier=(k:Int)) (ht:d.tiers[k]?=some t) :
    Calls Tryz.prog 142 #[v,.agg (noteC n).toArray] w (Rt fun u w'=>(∃ e:Int,u=int e∧(e=0→PlacedOK d n t))∧Ext w w'):=by
  have hd0:=hv
  obtain⟨sv,tv,nv,rfl,hs,htv,hnv⟩:=hv
  refine calls_E (n:=117) (args:=[.agg #[int d.rid,str d.rname,int d.len,int d.day,sv,tv,nv],.agg (noteC n).toArray]) Tryz.func142 rfl Tryz.ntmps142 (by simp) ?_
  have htv0:=htv
  obtain⟨a,cap,rfl,hc,hm,hp⟩:=htv.sl
  have hklt:=(List.getElem?_eq_some_iff.1 ht).1
  obtain⟨b,off,rfl⟩:=hp (by omega)
  refine E_seq ?_
  refine E_region ?_
  refine EL_box Z Z Z Z (fun bD wD xD hbD rD0=>?_)
  refine EL_box Z Z Z Z (fun bN wN xN hbN rN0=>?_)
  have rD1:Row wN bD 28 [int d.rid,str d.rname,int d.len,int d.day,sv,.slice (some ⟨b,off,none⟩) d.tiers.length cap,nv]:=rD0.ext xN
  have rN1:Row wN bN 74 (noteC n):=rN0
  have hat1:=tier_elem (htv0.ext (xD.trans xN)) ht
  (repeat' (first|refine eV Z Z (val_load Z Z Z (rD1.cellAt rfl)) ?_|refine eV Z Z (val_load Z Z Z (rN1.cellAt rfl)) ?_|refine eV Z Z (val_indexAddr (m:=k) Z Z Z hk hklt) ?_|refine eV Z Z (val_loadA Z Z Z hat1 rfl) ?_|(refine at_EL ?_;first|refine eN ?_|refine eV Z Z (zB Z Z) ?_|refine eV Z Z (zH Z Z) ?_)|(refine at_K ?_;first|refine K_then ?_)|(refine at_E ?_;first|refine E_seq ?_|refine E_region ?_)))
  refine EL_alloc Z Z Z (fun bT wT xT hbT rT0=>?_)
  refine EL_storeP (cs:=tierC t) rT0 xT (by omega) Z Z Z Z Z Z Z Z (Nat.le_refl _) (fun w2 rT1 x2 k2=>?_)
  have rT2:Row w2 bT 70 (tierC t):=rT1
  have rD2:=rD1.ext x2
  have rN2:=rN1.ext x2
  have hx2:=xD.trans (xN.trans x2)
  clear rT0 rT1 rD0 rN0 rD1 rN1 k2
  (repeat' (first|refine eV Z Z (val_loadA Z Z Z rD2.at rfl) ?_|refine eV Z Z (val_load Z Z Z (rN2.cellAt rfl)) ?_|(refine at_EL ?_;first|refine eN ?_|refine eV Z Z (zH Z Z) ?_)|(refine at_K ?_;first|refine K_then ?_)|(refine at_E ?_;first|refine E_seq ?_|refine E_region ?_)))
  have cg:=get_any d _ n.parent w2 (hd0.ext hx2)
  obtain⟨q,ok,hq,hq1,hq2⟩:=getR_cases d.notes n.parent
  rw [hq] at cg
  (repeat' (first|(refine EL_call Z Z (entersF Z Z en59) cg (fun vC wC hC=>?_);obtain⟨rfl,xC⟩:=hC)|(refine at_EL ?_;first|refine eV Z Z (zA Z Z) ?_|refine eV Z Z (zF Z Z Z) ?_)))
  refine EL_alloc Z Z Z (fun bP wP xP hbP rP0=>?_)
  refine EL_storeP (cs:=noteC q) rP0 xP (by omega) Z Z Z Z Z Z Z Z (Nat.le_refl _) (fun w3 rP1 x3 k3=>?_)
  have rP:Row w3 bP 74 (noteC q):=rP1
  have rT:=rT2.ext (xC.trans x3)
  have rD:=rD2.ext (xC.trans x3)
  have rN:=rN2.ext (xC.trans x3)
  have hx:=hx2.trans (xC.trans x3)
  clear rP0 rP1 rT2 rD2 rN2 k3 cg hat1
  (repeat' ((fail_if_success (refine E_seq (x:=(Code.seq (Code.region 3 _ _) _)) ?_));first|(refine at_EL ?_;first|refine eN ?_|refine eV Z Z (zB Z Z) ?_)|(refine at_K ?_;first|refine K_then ?_)))
  have f0:=Ext.refl w3
  refine E_mid (ι:=Unit) (fun _=>[(2,.pointer (some ⟨bD,0,none⟩)),(3,.pointer (some ⟨bN,0,none⟩)),(5,.pointer (some ⟨bT,0,none⟩)),(6,.pointer (some ⟨bP,0,none⟩)),(7,.bool ok)]) (fun _ w4=>Ext w3 w4∧(t.kind=0→n.parent=0)∧(t.kind≠0→ok=true∧q.tier=t.parent)) ?_ ?_
  · cases ok
    all_goals
      (repeat' (first|refine eV Z Z (val_load Z Z Z (rT.cellAt rfl)) ?_|refine eV Z Z (val_load Z Z Z (rN.cellAt rfl)) ?_|refine eV Z Z (val_load Z Z Z (rP.cellAt rfl)) ?_|(refine at_EL ?_;first|refine eN ?_|refine eO Z Z ?_|refine eV Z Z (zA Z Z) ?_|refine eV Z Z (zB Z Z) ?_|(refine at_bin ?_;first|refine eD Z Z (zM Z Z Z) (fun hh=>?_) (fun hh=>?_)|refine eD Z Z (zQ Z Z Z) (fun hh=>?_) (fun hh=>?_))|refine eV Z Z (zC Z Z Z) ?_|refine eV Z Z (zD Z Z Z) ?_|refine eV Z Z (zE Z Z) ?_|refine eV Z Z (zH Z Z) ?_)|(refine at_K ?_;first|refine K_then ?_|refine K_then_ret ?_)|(refine at_E ?_;first|refine E_seq ?_|refine E_region ?_|refine E_cond_t Z ?_|refine E_cond_f Z ?_|refine E_skip ?_|refine E_ret ?_)))
      all_goals (first|(exfalso;omega)|exact ret_1 Z Z ⟨⟨_,rfl,fun h=>by omega⟩,hx⟩|exact K_mid () ⟨rfl,rfl,rfl,rfl,rfl,trivial⟩ ⟨Ext.refl _,by omega,fun h=>⟨rfl,by omega⟩⟩|exact K_mid () ⟨rfl,rfl,rfl,rfl,rfl,trivial⟩ ⟨Ext.refl _,by omega,fun h=>absurd ‹t.kind=0› h⟩|exact K_mid () ⟨rfl,rfl,rfl,rfl,rfl,trivial⟩ ⟨Ext.refl _,by omega,fun h=>absurd (Classical.not_not.1 ‹_›) h⟩)
  rintro⟨⟩ w4 ⟨xm,f1,f2⟩
  replace hx:=hx.trans xm
  replace rD:=rD.ext xm
  replace rN:=rN.ext xm
  replace rT:=rT.ext xm
  replace rP:=rP.ext xm
  obtain⟨bt,hbt⟩:∃ bt,bt=timedB t.kind:=⟨_,rfl⟩
  have ct:=aligned_any t.kind
  rw [← hbt] at ct
  obtain⟨br,hbr⟩:∃ br,br=rightB n.frm n.til:=⟨_,rfl⟩
  have cr:=rright_any n.frm n.til
  rw [← hbr] at cr
  obtain⟨bz,hbz⟩:∃ bz,bz=!(decide (n.frm=0)&&decide (n.til=0)):=⟨_,rfl⟩
  have hspan:At w4 bN (0+3) [int n.frm,int n.til]:=rN.at.seg 3 (n:=2)
  refine E_mid (ι:=Unit) (fun _=>[(2,.pointer (some ⟨bD,0,none⟩)),(3,.pointer (some ⟨bN,0,none⟩)),(5,.pointer (some ⟨bT,0,none⟩)),(6,.pointer (some ⟨bP,0,none⟩)),(7,.bool ok)]) (fun _ w5=>Ext w4 w5∧(bt=false→bz=false)∧(bt=true→br=true)) ?_ ?_
  · have xe:=Ext.refl w4
    cases bt <;> cases br <;> cases bz
    all_goals
      (repeat' (first|refine eV Z Z (val_load Z Z Z (rT.cellAt rfl)) ?_|refine eV Z Z (val_loadA Z Z Z hspan rfl) ?_|refine eV Z Z (val_build (vs:=[]) [int 0,int 0] rfl rfl rfl) ?_|refine eV Z Z (val_ne_two_b span_two rfl rfl rfl hbz) ?_|(refine EL_call Z Z (entersF Z Z en144) (ct _) (fun vC wC hC=>?_);obtain⟨rfl,xC⟩:=hC;replace xe:=xe.trans xC;replace hspan:=hspan.ext xC;replace rT:=rT.ext xC;replace rN:=rN.ext xC)|(refine EL_call Z Z (entersF Z Z en174) (cr _) (fun vC wC hC=>?_);obtain⟨rfl,xC⟩:=hC;replace xe:=xe.trans xC)|(refine at_EL ?_;first|refine eN ?_|refine eO Z Z ?_|refine eV Z Z (zA Z Z) ?_|refine eV Z Z (zB Z Z) ?_|refine eV Z Z (zC Z Z Z) ?_|refine eV Z Z (zD Z Z Z) ?_|refine eV Z Z (zE Z Z) ?_|refine eV Z Z (zH Z Z) ?_)|(refine at_K ?_;first|refine K_then ?_|refine K_then_ret ?_)|(refine at_E ?_;first|refine E_seq ?_|refine E_region ?_|refine E_cond_t Z ?_|refine E_cond_f Z ?_|refine E_skip ?_|refine E_ret ?_)))
      all_goals (first|exact ret_1 Z Z ⟨⟨_,rfl,fun h=>by omega⟩,hx.trans xe⟩|exact K_mid () ⟨rfl,rfl,rfl,rfl,rfl,trivial⟩ ⟨xe,by simp,by simp⟩)
  rintro⟨⟩ w5 ⟨xm,f3,f4⟩
  replace hx:=hx.trans xm
  replace rD:=rD.ext xm
  replace rN:=rN.ext xm
  replace rT:=rT.ext xm
  replace rP:=rP.ext xm
  refine E_mid (ι:=Unit) (fun _=>[(2,.pointer (some ⟨bD,0,none⟩)),(3,.pointer (some ⟨bN,0,none⟩)),(5,.pointer (some ⟨bT,0,none⟩)),(6,.pointer (some ⟨bP,0,none⟩)),(7,.bool ok)]) (fun _ w6=>Ext w5 w6∧(t.kind=0→n.til≤d.len)) ?_ ?_
  · (repeat' (first|refine eV Z Z (val_load Z Z Z (rT.cellAt rfl)) ?_|refine eV Z Z (val_load Z Z Z (rN.cellAt rfl)) ?_|refine eV Z Z (val_load Z Z Z (rD.cellAt rfl)) ?_|(refine at_EL ?_;first|refine eN ?_|refine eO Z Z ?_|refine eV Z Z (zA Z Z) ?_|refine eV Z Z (zB Z Z) ?_|(refine at_bin ?_;first|refine eD Z Z (zM Z Z Z) (fun hh=>?_) (fun hh=>?_)|refine eD Z Z (zO Z Z Z) (fun hh=>?_) (fun hh=>?_))|refine eV Z Z (zC Z Z Z) ?_|refine eV Z Z (zD Z Z Z) ?_|refine eV Z Z (zH Z Z) ?_)|(refine at_K ?_;first|refine K_then ?_|refine K_then_ret ?_)|(refine at_E ?_;first|refine E_seq ?_|refine E_region ?_|refine E_cond_t Z ?_|refine E_cond_f Z ?_|refine E_skip ?_|refine E_ret ?_)))
    all_goals (first|(exfalso;omega)|exact ret_1 Z Z ⟨⟨_,rfl,fun h=>by omega⟩,hx⟩|exact K_mid () ⟨rfl,rfl,rfl,rfl,rfl,trivial⟩ ⟨Ext.refl _,by omega⟩)
  rintro⟨⟩ w6 ⟨xm,f5⟩
  replace hx:=hx.trans xm
  replace rD:=rD.ext xm
  replace rN:=rN.ext xm
  replace rT:=rT.ext xm
  replace rP:=rP.ext xm
  refine E_mid (ι:=Unit) (fun _=>[(2,.pointer (some ⟨bD,0,none⟩)),(3,.pointer (some ⟨bN,0,none⟩)),(5,.pointer (some ⟨bT,0,none⟩)),(6,.pointer (some ⟨bP,0,none⟩)),(7,.bool ok)]) (fun _ w7=>Ext w6 w7∧(bt=true→t.kind≠0→q.frm≤n.frm∧n.til≤q.til)) ?_ ?_
  · cases bt
    all_goals
      (repeat' (first|refine eV Z Z (val_load Z Z Z (rT.cellAt rfl)) ?_|refine eV Z Z (val_load Z Z Z (rN.cellAt rfl)) ?_|refine eV Z Z (val_load Z Z Z (rP.cellAt rfl)) ?_|(refine EL_call Z Z (entersF Z Z en144) (ct _) (fun vC wC hC=>?_);obtain⟨rfl,xC⟩:=hC;replace rT:=rT.ext xC;replace rN:=rN.ext xC;replace rP:=rP.ext xC)|(refine at_EL ?_;first|refine eN ?_|refine eO Z Z ?_|refine eV Z Z (zA Z Z) ?_|refine eV Z Z (zB Z Z) ?_|(refine at_bin ?_;first|refine eD Z Z (zL Z Z Z) (fun hh=>?_) (fun hh=>?_)|refine eD Z Z (zO Z Z Z) (fun hh=>?_) (fun hh=>?_)|refine eD Z Z (zQ Z Z Z) (fun hh=>?_) (fun hh=>?_))|refine eV Z Z (zC Z Z Z) ?_|refine eV Z Z (zD Z Z Z) ?_|refine eV Z Z (zH Z Z) ?_)|(refine at_K ?_;first|refine K_then ?_|refine K_then_ret ?_)|(refine at_E ?_;first|refine E_seq ?_|refine E_region ?_|refine E_cond_t Z ?_|refine E_cond_f Z ?_|refine E_skip ?_|refine E_ret ?_)))
      all_goals (first|(exfalso;omega)|exact ret_1 Z Z ⟨⟨_,rfl,fun h=>by omega⟩,hx.trans xC⟩|exact K_mid () ⟨rfl,rfl,rfl,rfl,rfl,trivial⟩ ⟨xC,fun h=>Bool.noConfusion h⟩|exact K_mid () ⟨rfl,rfl,rfl,rfl,rfl,trivial⟩ ⟨xC,fun _ h=>by omega⟩|exact K_mid () ⟨rfl,rfl,rfl,rfl,rfl,trivial⟩ ⟨xC,fun _ h=>absurd (Classical.not_not.1 ‹_›) h⟩)
  rintro⟨⟩ w7 ⟨xm,f6⟩
  replace hx:=hx.trans xm
  replace rD:=rD.ext xm
  replace rN:=rN.ext xm
  replace rT:=rT.ext xm
  replace rP:=rP.ext xm
  (repeat' (first|refine eV Z Z (val_load Z Z Z (rT.cellAt rfl)) ?_|refine eV Z Z (val_load Z Z Z (rN.cellAt rfl)) ?_|(refine at_EL ?_;first|refine eN ?_|refine eO Z Z ?_|refine eV Z Z (zA Z Z) ?_|refine eV Z Z (zB Z Z) ?_|(refine at_bin ?_;first|refine eD Z Z (zL Z Z Z) (fun hh=>?_) (fun hh=>?_)|refine eD Z Z (zQ Z Z Z) (fun hh=>?_) (fun hh=>?_))|refine eV Z Z (zC Z Z Z) ?_|refine eV Z Z (zD Z Z Z) ?_|refine eV Z Z (zH Z Z) ?_)|(refine at_K ?_;first|refine K_then ?_|refine K_then_ret ?_)|(refine at_E ?_;first|refine E_seq ?_|refine E_region ?_|refine E_cond_t Z ?_|refine E_cond_f Z ?_|refine E_skip ?_|refine E_ret ?_)))
  all_goals (first|(exfalso;omega)|exact ret_1 Z Z ⟨⟨_,rfl,fun h=>by omega⟩,hx⟩|skip)
  all_goals
    refine ret_1 Z Z ⟨⟨_,rfl,fun _=>⟨f1,fun h=>⟨q,hq1 (f2 h).1,(f2 h).2⟩,fun h=>?_,fun h=>?_,f5,fun h p hp=>?_,by omega⟩⟩,hx⟩
    · have h1:=f3 (by rw [hbt];exact h)
      rw [h1] at hbz
      simpa using hbz.symm
    · rw [← hbr];exact f4 (by rw [hbt];exact h)
    · have h0:t.kind≠0:=by omega
      have h1:=hq1 (f2 h0).1
      rw [h1] at hp;cases hp
      exact f6 (by rw [hbt];exact timed_iff.2 (by omega)) h0
end Go.Proofs.YtnifmbbpfdghmaaGreatDoor
