/-
  Walks: the reference's lists of spans (insert, without, Union, Minus, Covers): they come to an end.
-/
import Derived.Test.YtjicdgejhkgpgaaGreatDoorYp
import Derived.Test.YtjicdgejhkgpgaaGreatDoorYh
set_option linter.all false
namespace Go.Proofs.YtjicdgejhkgpgaaGreatDoor
open Go.RowKit Go.En
def spnC (t:Spn):List Value:=[int t.frm,int t.til]
def Sep (u v:Value):Prop:=∀ b,u.ownBlock=some b→v.ownBlock≠some b
theorem Sep.symm {u v:Value} (h:Sep u v):Sep v u:=fun b h1 h2=>h b h2 h1
theorem Sep.kept {u v:Value} (h:Sep u v):u.ownBlock=none∨u.ownBlock≠v.ownBlock:=by
  cases hu:u.ownBlock with
  | none=>exact .inl rfl
  | some b=>exact .inr (fun e=>h b hu e.symm)
theorem Sep.app {u v v':Value} {w:World} {B:Nat} {e:TypeId} {sz n:Nat} {xs:List Value} (h:Sep u v) (hu:w.ownsRow B e sz u n xs) (hv:v'.ownBlock=v.ownBlock∨v'.ownBlock=some w.heap.size):Sep u v':=fun b hb e=>by
  rcases hv with hv|hv
  · exact h b hb (hv▸e)
  · have:=(hu.lt b hb).2
    rw [hv] at e;cases e;omega
attribute [local irreducible] E EL K Val Enters Rt Calls bodyPost Code.wp RQ
set_option maxRecDepth 8000 in
set_option maxHeartbeats 1000000 in
theorem insert_any (l:List Spn) (v:Value) (a b:Int) (w:World) (hv:Sl w v l) (hlen:l.length≤1099511627):Calls Tryz.prog 242 #[v,.agg #[int a,int b]] w (Rt fun u w'=>Ext w w'∧∃ ys:List Spn,ys.length≤l.length+1∧Sl w' u ys):=by
  refine calls_E (n:=69) (args:=[v,.agg #[int a,int b]]) Tryz.func242 rfl Tryz.ntmps242 (by simp) ?_
  have hv0:=hv
  obtain⟨ap,cap,rfl,hc,hm,hp⟩:=hv.sl
  refine E_seq ?_
  refine E_region ?_
  refine EL_box Z Z Z Z (fun bB wB xB hbB rB=>?_)
  (repeat' ((fail_if_success (refine E_seq (x:=(Code.region 2 _ _)) ?_));first|(refine at_EL ?_;first|refine eN ?_|refine eV Z Z (zB Z Z) ?_|refine eL Z Z Z Z Z Z Z Z (fun bS wS xS hbS rS=>?_))|(refine at_K ?_;first|refine K_then ?_)|(refine at_E ?_;first|refine E_seq ?_|refine E_region ?_)))
  refine E_seq ?_
  refine E_region ?_
  refine eL Z Z Z Z Z Z Z Z (fun bT wT xT hbT rT=>?_)
  (repeat' (first|(refine at_EL ?_;first|refine eN ?_|refine eV Z Z (zB Z Z) ?_)|(refine at_K ?_;first|refine K_then ?_)|(refine at_E ?_;first|refine E_seq ?_|refine E_region ?_|refine E_block ?_)))
  have hBS:bB<bS:=by have:=rB.lt;omega
  have hST:bS<bT:=by have:=rS.lt;omega
  have hw1:w.heap.size≤bS:=by have:=xB.size;omega
  have hw2:w.heap.size≤bT:=by omega
  refine E_loop (ι:=Nat × Value × Value) (fun x=>[(0,.slice ap l.length cap),(3,.pointer (some ⟨bB,0,none⟩)),(5,x.2.1),(6,x.2.2),(7,int x.1)])
    (fun x wr=>x.1≤l.length∧Ext w wr∧(∃ a b:Int,Row wr bB 76 [int a,int b])∧∃ p q:List Spn,p.length+q.length≤x.1∧wr.ownsRow w.heap.size 76 2 x.2.1 p.length (p.map spnC).flatten∧wr.ownsRow w.heap.size 76 2 x.2.2 q.length (q.map spnC).flatten∧
      x.2.1.ownBlock≠some bB∧x.2.2.ownBlock≠some bB∧Sep x.2.1 x.2.2) (fun x=>l.length-x.1) (0,_,_)
    ⟨rfl,rfl,rfl,rfl,rfl,trivial⟩ ⟨Nat.zero_le _,xB.trans (xS.trans xT),⟨a,b,(rB.ext (xS.trans xT))⟩,[],[],Nat.le_refl _,own_row (n:=0) (size:=2) (rS.ext xT) rfl (by omega) (by omega),own_row (n:=0) (size:=2) rT rfl (by omega) (by omega),
      fun e=>by simp [Value.ownBlock] at e;omega,fun e=>by simp [Value.ownBlock] at e;omega,fun k e1 e2=>by simp [Value.ownBlock] at e1 e2;omega⟩ ?_
  rintro⟨i,vP,vQ⟩ wr ⟨hi,hx,⟨a1,b1,rBr⟩,p,q,hpq,hP,hQ,sP,sQ,sPQ⟩
  dsimp only at hi hpq hP hQ sP sQ sPQ ⊢
  by_cases hlt:i<l.length
  · obtain⟨bl,off,rfl⟩:=hp (by omega)
    obtain⟨z,hz⟩:∃ z,l[i]?=some z:=⟨_,List.getElem?_eq_getElem hlt⟩
    have hat:=spn_elem (hv0.ext hx) hz
    (repeat' (first|(refine yN Z (fun wq xq=>?_);replace hat:=hat.ext xq;replace rBr:=rBr.ext xq;replace hx:=hx.trans xq;replace hP:=own_ext hP xq;replace hQ:=own_ext hQ xq)|refine E_dm (id:=10) 17 mixedOk (by kernel_rfl) Z ?_|refine yV Z Z (fun _ _ _=>val_indexAddr (m:=i) Z Z Z Z (by omega)) ?_|refine yV Z Z (fun wq _ xq=>val_load Z Z Z ((hat.ext xq).cellAt (j:=0) Z)) ?_|refine yV Z Z (fun wq _ xq=>val_load Z Z Z ((hat.ext xq).cellAt (j:=1) Z)) ?_|refine yV Z Z (fun wq _ xq=>val_load Z Z Z ((rBr.ext xq).cellAt (j:=0) Z)) ?_|refine yV Z Z (fun wq _ xq=>val_load Z Z Z ((rBr.ext xq).cellAt (j:=1) Z)) ?_|refine yV Z Z (fun _ _ _=>val_min Z Z Z) ?_|refine yV Z Z (fun _ _ _=>val_max Z Z Z) ?_|refine yV Z Z (fun _ _ _=>val_build (vs:=[(0,int _),(1,int _)]) [int _,int _] rfl rfl rfl) ?_|refine eV Z Z (val_indexAddr (m:=i) Z Z Z Z (by omega)) ?_|refine eV Z Z (val_loadA Z Z Z hat rfl) ?_|(refine EL_appO (news:=spnC z) (own_ext hP xS) (hx.trans xS) (fun _=>⟨_,_,rfl,rS.at⟩) Z Z Z Z Z Z Z Z Z (by omega) (by omega) (fun vJ wJ oJ xJ kJ hJ=>?_);have isP:=True.intro)|(refine EL_appO (news:=spnC z) (own_ext hQ xS) (hx.trans xS) (fun _=>⟨_,_,rfl,rS.at⟩) Z Z Z Z Z Z Z Z Z (by omega) (by omega) (fun vJ wJ oJ xJ kJ hJ=>?_))|(refine at_EL ?_;first|refine eN ?_|refine eV Z Z (zA Z Z) ?_|refine eV Z Z (zB Z Z) ?_|(refine at_bin ?_;first|refine eD Z Z (zL Z Z Z) (fun hh=>?_) (fun hh=>?_)|refine eV Z Z (zU Z Z Z (by omega) (by omega)) ?_)|(refine at_call ?_;first|refine eV Z Z (zK Z Z) ?_)|refine eL Z Z Z Z Z Z Z Z (fun bS wS xS hbS rS=>?_))|(refine at_K ?_;first|refine K_then ?_|refine K_in ?_|refine K_then_exit ?_|refine K_in_exit ?_)|(refine at_E ?_;first|refine E_seq ?_|refine E_region ?_|refine E_cond_t Z ?_|refine E_cond_f Z ?_|refine E_block ?_|refine E_skip ?_|refine E_exit ?_|refine E_dq mixedOk (by kernel_rfl) Z ?_)|(refine at_RQ ?_;first|refine yV Z Z (fun _ _ _=>zA Z Z) ?_|(refine at_binR ?_;first|refine yD Z Z (fun _ _ _=>zL Z Z Z) (fun hh=>?_) (fun hh=>?_)|refine yD Z Z (fun _ _ _=>zO Z Z Z) (fun hh=>?_) (fun hh=>?_))|refine yV Z Z (fun _ _ _=>zH Z Z) ?_)))
    all_goals (first|(exfalso;omega)|skip)
    · have rJ:=kJ.row (rBr.ext xS) (fun e=>sP e.symm)
      have hQS:=own_ext hQ xS
      have hbs:=(rBr.ext xS).lt
      refine K_rnd (i+1,vJ,vQ) ⟨rfl,rfl,rfl,rfl,rfl,trivial⟩ ⟨by dsimp only;omega,xJ,⟨_,_,rJ⟩,p++[z],q,by simp;omega,by simpa using oJ,hQS.kept kJ sPQ.symm.kept,?_,sQ,(sPQ.symm.app hQS hJ).symm⟩ (by dsimp only;omega)
      rcases hJ with e|e
      · rw [e];exact sP
      · rw [e];simp;omega
    · have rJ:=kJ.row (rBr.ext xS) (fun e=>sQ e.symm)
      have hPS:=own_ext hP xS
      have hbs:=(rBr.ext xS).lt
      refine K_rnd (i+1,vP,vJ) ⟨rfl,rfl,rfl,rfl,rfl,trivial⟩ ⟨by dsimp only;omega,xJ,⟨_,_,rJ⟩,p,q++[z],by simp;omega,hPS.kept kJ sPQ.kept,by simpa using oJ,sP,?_,sPQ.app hPS hJ⟩ (by dsimp only;omega)
      rcases hJ with e|e
      · rw [e];exact sQ
      · rw [e];simp;omega
    · refine EL_storeP (cs:=[int _,int _]) rBr hx (by omega) Z Z Z Z Z Z Z Z (Nat.le_refl _) (fun w9 r9 x9 k9=>?_)
      (repeat' (first|(refine at_EL ?_;first|refine eN ?_|refine eV Z Z (zA Z Z) ?_|refine eV Z Z (zB Z Z) ?_|(refine at_bin ?_;first|refine eV Z Z (zU Z Z Z (by omega) (by omega)) ?_))|(refine at_K ?_;first|refine K_then ?_|refine K_in ?_)|(refine at_E ?_;first|refine E_region ?_)))
      refine K_rnd (i+1,vP,vQ) ⟨rfl,rfl,rfl,rfl,rfl,trivial⟩ ⟨by dsimp only;omega,x9,⟨_,_,r9⟩,p,q,by omega,hP.kept k9 (.inr sP),hQ.kept k9 (.inr sQ),sP,sQ,sPQ⟩ (by dsimp only;omega)
  · obtain⟨aQ,capQ,rfl,hcQ,hatQ⟩:=own_sl hQ
    (repeat' (first|refine eV Z Z (val_loadA Z Z Z rBr.at rfl) ?_|(refine at_EL ?_;first|refine eN ?_|refine eV Z Z (zA Z Z) ?_|(refine at_bin ?_;first|refine eD Z Z (zL Z Z Z) (fun hh=>?_) (fun hh=>?_))|(refine at_call ?_;first|refine eV Z Z (zK Z Z) ?_)|refine eL Z Z Z Z Z Z Z Z (fun bS wS xS hbS rS=>?_))|(refine at_K ?_;first|refine K_then ?_|refine K_then_exit ?_|refine K_in_exit ?_)|(refine at_E ?_;first|refine E_seq ?_|refine E_region ?_|refine E_cond_t Z ?_|refine E_cond_f Z ?_|refine E_block ?_|refine E_skip ?_|refine E_exit ?_)))
    all_goals (first|(exfalso;omega)|skip)
    refine EL_appO (news:=[int a1,int b1]) (own_ext hP xS) (hx.trans xS) (fun _=>⟨_,_,rfl,rS.at⟩) Z Z Z Z Z Z Z Z Z (by omega) (by omega) (fun vJ wJ oJ xJ kJ hJ=>?_)
    have hQJ:=(own_ext hQ xS).kept kJ sPQ.symm.kept
    obtain⟨a',cap',e,_,hatJ⟩:=own_sl hQJ
    cases e
    (repeat' (first|(refine at_EL ?_;first|refine eV Z Z (zA Z Z) ?_)))
    refine EL_appO (news:=(q.map spnC).flatten) oJ xJ hatJ rfl rfl rfl rfl rfl ?_ ?_ rfl rfl (by omega) (by omega) (fun vK wK oK xK kK hK=>?_)
    · rw [flat_len2 (k:=2) (by intro c hc;obtain⟨x,_,rfl⟩:=List.mem_map.1 hc;rfl),List.length_map]
    · exact AtsG.ones (G:=Tt) (w:=wJ) (xs:=q) (spns_ats wJ q)
    (repeat' (first|(refine at_EL ?_;first|refine eN ?_|refine eV Z Z (zB Z Z) ?_)|(refine at_K ?_;first|refine K_then ?_)|(refine at_E ?_;first|refine E_ret ?_)))
    refine ret_1 Z Z ⟨xK,p++[(⟨a1,b1⟩:Spn)]++q,by simp;omega,own_Sl (css:=(p++[(⟨a1,b1⟩:Spn)]++q).map spnC) (show wK.ownsRow w.heap.size 76 2 vK (p.length+1+q.length) _ by simpa [spnC] using oK) (spns_ats _ _) (by simp;omega) (by simp;omega)⟩
theorem rright_some (a b:Int) (w:World):Calls Tryz.prog 204 #[.agg #[int a,int b]] w (Rt fun u w'=>(∃ b,u=.bool b)∧Ext w w'):=calls_mono (rright_any a b w) fun _ _ h=>⟨⟨_,h.1⟩,h.2⟩
set_option maxRecDepth 8000 in
set_option maxHeartbeats 1000000 in
theorem without_any (l:List Spn) (v:Value) (a b:Int) (w:World) (hv:Sl w v l) (hlen:l.length≤109951162):Calls Tryz.prog 228 #[v,.agg #[int a,int b]] w (Rt fun u w'=>Ext w w'∧∃ ys:List Spn,ys.length≤2*l.length∧Sl w' u ys):=by
  refine calls_E (n:=57) (args:=[v,.agg #[int a,int b]]) Tryz.func228 rfl Tryz.ntmps228 (by simp) ?_
  have hv0:=hv
  obtain⟨ap,cap,rfl,hc,hm,hp⟩:=hv.sl
  refine E_seq ?_
  refine E_region ?_
  refine EL_box Z Z Z Z (fun bB wB xB hbB rB=>?_)
  (repeat' (first|(refine at_EL ?_;first|refine eN ?_|refine eV Z Z (zB Z Z) ?_|refine eL Z Z Z Z Z Z Z Z (fun bS wS xS hbS rS=>?_))|(refine at_K ?_;first|refine K_then ?_)|(refine at_E ?_;first|refine E_seq ?_|refine E_region ?_|refine E_block ?_)))
  refine E_loop (ι:=Nat × Value) (fun x=>[(0,.slice ap l.length cap),(3,.pointer (some ⟨bB,0,none⟩)),(5,x.2),(6,int x.1)])
    (fun x wr=>x.1≤l.length∧Ext wB wr∧∃ p:List Spn,p.length≤2*x.1∧wr.ownsRow wB.heap.size 76 2 x.2 p.length (p.map spnC).flatten) (fun x=>l.length-x.1) (0,_)
    ⟨rfl,rfl,rfl,rfl,trivial⟩ ⟨Nat.zero_le _,xS,[],Nat.le_refl _,own_row (n:=0) (size:=2) rS rfl (by omega) (by omega)⟩ ?_
  rintro⟨i,vP⟩ wr ⟨hi,hx,p,hpl,hP⟩
  dsimp only at hi hx hpl hP ⊢
  have rBr:=rB.ext hx
  by_cases hlt:i<l.length
  · obtain⟨bl,off,rfl⟩:=hp (by omega)
    obtain⟨z,hz⟩:∃ z,l[i]?=some z:=⟨_,List.getElem?_eq_getElem hlt⟩
    have hat:=spn_elem (hv0.ext (xB.trans hx)) hz
    (repeat' (first|refine E_dm (id:=5) 15 mixedOk (by kernel_rfl) Z ?_|refine yV Z Z (fun _ _ _=>val_indexAddr (m:=i) Z Z Z Z (by omega)) ?_|refine yV Z Z (fun wq _ xq=>val_load Z Z Z ((hat.ext xq).cellAt (j:=0) Z)) ?_|refine yV Z Z (fun wq _ xq=>val_load Z Z Z ((hat.ext xq).cellAt (j:=1) Z)) ?_|refine yV Z Z (fun wq _ xq=>val_load Z Z Z ((rBr.ext xq).cellAt (j:=0) Z)) ?_|refine yV Z Z (fun _ _ _=>val_min Z Z Z) ?_|refine yV Z Z (fun _ _ _=>val_build (vs:=[(0,int _),(1,int _)]) [int _,int _] rfl rfl rfl) ?_|refine RQ_alloc Z Z Z ?_|refine RQ_end (fun wq δ xq hR=>?_)|(refine at_EL ?_;first|refine eN ?_|refine eV Z Z (zA Z Z) ?_|refine eV Z Z (zB Z Z) ?_|(refine at_bin ?_;first|refine eD Z Z (zL Z Z Z) (fun hh=>?_) (fun hh=>?_))|(refine at_call ?_;first|refine eV Z Z (zK Z Z) ?_))|(refine at_K ?_;first|refine K_then ?_|refine K_then_exit ?_|refine K_in_exit ?_)|(refine at_E ?_;first|refine E_seq ?_|refine E_region ?_|refine E_cond_t Z ?_|refine E_cond_f Z ?_|refine E_block ?_|refine E_skip ?_|refine E_ret ?_|refine E_exit ?_)|(refine at_RQ ?_;first|refine yV Z Z (fun _ _ _=>zA Z Z) ?_|refine yV Z Z (fun _ _ _=>zH Z Z) ?_)))
    obtain⟨b7,e7,hge7,r70⟩:=hR 7 _ rfl
    refine EL_storeP (cs:=[int _,int _]) (off:=0) r70 xq hge7 rfl rfl rfl (show some (δ 7)=_ by rw [e7]) Z Z Z Z (Nat.le_refl _) (fun w7 r7 x7 k7=>?_)
    refine EL_nil ?_
    refine K_then ?_
    refine E.sub (M:=[(0,.slice (some ⟨bl,off,none⟩) l.length cap),(3,.pointer (some ⟨bB,0,none⟩)),(5,vP),(6,int i),(7,.pointer (some ⟨b7,0,none⟩))]) ⟨rfl,rfl,rfl,rfl,show some (δ 7)=_ by rw [e7],trivial⟩ ?_
    clear hR e7 δ
    have hat2:=hat.ext x7
    have rB2:=rBr.ext x7
    (repeat' (first|refine E_dm (id:=6) 15 mixedOk (by kernel_rfl) Z ?_|refine yV Z Z (fun _ _ _=>val_indexAddr (m:=i) Z Z Z Z (by omega)) ?_|refine yV Z Z (fun wq _ xq=>val_load Z Z Z ((hat2.ext xq).cellAt (j:=0) Z)) ?_|refine yV Z Z (fun wq _ xq=>val_load Z Z Z ((hat2.ext xq).cellAt (j:=1) Z)) ?_|refine yV Z Z (fun wq _ xq=>val_load Z Z Z ((rB2.ext xq).cellAt (j:=1) Z)) ?_|refine yV Z Z (fun _ _ _=>val_max Z Z Z) ?_|refine yV Z Z (fun _ _ _=>val_build (vs:=[(0,int _),(1,int _)]) [int _,int _] rfl rfl rfl) ?_|refine RQ_alloc Z Z Z ?_|refine RQ_end (fun wq δ xq hR=>?_)|(refine at_E ?_;first|refine E_seq ?_)|(refine at_RQ ?_;first|refine yV Z Z (fun _ _ _=>zA Z Z) ?_|refine yV Z Z (fun _ _ _=>zH Z Z) ?_)))
    obtain⟨b8,e8,hge8,r80⟩:=hR 8 _ rfl
    refine EL_storeP (cs:=[int _,int _]) (off:=0) r80 xq hge8 rfl rfl rfl (show some (δ 8)=_ by rw [e8]) Z Z Z Z (Nat.le_refl _) (fun w8 r8 x8 k8=>?_)
    have r72:=r7.ext x8
    have hx2:=hx.trans (x7.trans x8)
    have hP2:=own_ext hP (x7.trans x8)
    refine EL_nil ?_
    refine K_then ?_
    refine E.sub (M:=[(0,.slice (some ⟨bl,off,none⟩) l.length cap),(3,.pointer (some ⟨bB,0,none⟩)),(5,vP),(6,int i),(7,.pointer (some ⟨b7,0,none⟩)),(8,.pointer (some ⟨b8,0,none⟩))]) ⟨rfl,rfl,rfl,rfl,rfl,show some (δ 8)=_ by rw [e8],trivial⟩ ?_
    clear hR e8 δ
    obtain⟨m1,hm1⟩:∃ m1,m1=(if a<z.til then a else z.til):=⟨_,rfl⟩
    obtain⟨m2,hm2⟩:∃ m2,m2=(if b>z.frm then b else z.frm):=⟨_,rfl⟩
    have r7:Row w8 b7 76 [int z.frm,int m1]:=by rw [hm1];exact r72
    have r8:Row w8 b8 76 [int m2,int z.til]:=by rw [hm2];exact r8
    have hx:=hx2
    have hlt0:∀ k,vP.ownBlock=some k→k<wr.heap.size:=fun k h=>(hP.lt k h).2
    have hwb8:wr.heap.size≤b8:=by have:=xq.size;have:=x7.size;omega
    have hP:=hP2
    (repeat' (first|refine eV Z Z (val_loadA Z Z Z r7.at rfl) ?_|refine eV Z Z (val_loadA Z Z Z r8.at rfl) ?_|(refine EL_call Z Z (entersF Z Z en204) (rright_some _ _ _) (fun vC wC hC=>?_);obtain⟨⟨bb,rfl⟩,xC⟩:=hC;(try replace r7:=r7.ext xC);replace r8:=r8.ext xC;replace hx:=hx.trans xC;replace hP:=own_ext hP xC)|(refine EL_appO (news:=[int _,int _]) (own_ext hP xS) (hx.trans xS) (fun _=>⟨_,_,rfl,rS.at⟩) Z Z Z Z Z Z Z Z Z (by omega) (by omega) (fun vJ wJ oJ xJ kJ hJ=>?_);(first|replace r8:=kJ.row (r8.ext xS) (fun e=>by have:=hlt0 _ e.symm;omega)|skip);replace hP:=oJ;replace hx:=xJ)|(refine at_EL ?_;first|refine eN ?_|refine eV Z Z (zA Z Z) ?_|refine eV Z Z (zB Z Z) ?_|(refine at_bin ?_;first|refine eV Z Z (zU Z Z Z (by omega) (by omega)) ?_)|refine eL Z Z Z Z Z Z Z Z (fun bS wS xS hbS rS=>?_))|(refine at_K ?_;first|refine K_then ?_|refine K_in ?_)|(refine at_E ?_;first|refine E_seq ?_|refine E_region ?_|refine E_skip ?_|(refine E_cond Z (fun hg=>?_) (fun hg=>?_) <;> subst hg))))
    all_goals (first|(exfalso;omega)|skip)
    all_goals first
      | exact K_rnd (i+1,_) ⟨rfl,rfl,rfl,rfl,trivial⟩ ⟨by dsimp only;omega,hx,p,by simp;omega,hP⟩ (by dsimp only;omega)
      | exact K_rnd (i+1,_) ⟨rfl,rfl,rfl,rfl,trivial⟩ ⟨by dsimp only;omega,hx,p++[(⟨z.frm,m1⟩:Spn)],by simp;omega,by simpa [spnC] using hP⟩ (by dsimp only;omega)
      | exact K_rnd (i+1,_) ⟨rfl,rfl,rfl,rfl,trivial⟩ ⟨by dsimp only;omega,hx,p++[(⟨m2,z.til⟩:Spn)],by simp;omega,by simpa [spnC] using hP⟩ (by dsimp only;omega)
      | exact K_rnd (i+1,_) ⟨rfl,rfl,rfl,rfl,trivial⟩ ⟨by dsimp only;omega,hx,p++[(⟨z.frm,m1⟩:Spn)]++[(⟨m2,z.til⟩:Spn)],by simp;omega,by simpa [spnC] using hP⟩ (by dsimp only;omega)
  · have hi':i=l.length:=by omega
    (repeat' (first|(refine at_EL ?_;first|refine eN ?_|refine eV Z Z (zA Z Z) ?_|refine eV Z Z (zB Z Z) ?_|(refine at_bin ?_;first|refine eD Z Z (zL Z Z Z) (fun hh=>?_) (fun hh=>?_))|(refine at_call ?_;first|refine eV Z Z (zK Z Z) ?_))|(refine at_K ?_;first|refine K_then ?_|refine K_then_exit ?_|refine K_in_exit ?_)|(refine at_E ?_;first|refine E_seq ?_|refine E_region ?_|refine E_cond_t Z ?_|refine E_cond_f Z ?_|refine E_block ?_|refine E_skip ?_|refine E_ret ?_|refine E_exit ?_)))
    all_goals (first|(exfalso;omega)|skip)
    exact ret_1 Z Z ⟨xB.trans hx,p,by omega,own_Sl (css:=p.map spnC) hP (spns_ats _ _) Z (by omega)⟩
set_option maxRecDepth 8000 in
set_option maxHeartbeats 1000000 in
theorem sunion_any (l:List Spn) (v:Value) (w:World) (hv:Sl w v l) (hlen:l.length≤1099511626):Calls Tryz.prog 227 #[v] w (Rt fun u w'=>Ext w w'∧∃ ys:List Spn,ys.length≤l.length∧Sl w' u ys):=by
  refine calls_E (n:=24) (args:=[v]) Tryz.func227 rfl Tryz.ntmps227 (by simp) ?_
  have hv0:=hv
  obtain⟨ap,cap,rfl,hc,hm,hp⟩:=hv.sl
  (repeat' (first|(refine at_EL ?_;first|refine eN ?_|refine eV Z Z (zB Z Z) ?_|refine eL Z Z Z Z Z Z Z Z (fun bS wS xS hbS rS=>?_))|(refine at_K ?_;first|refine K_then ?_)|(refine at_E ?_;first|refine E_seq ?_|refine E_region ?_|refine E_block ?_)))
  refine E_loop (ι:=Nat × Value) (fun x=>[(0,.slice ap l.length cap),(3,x.2),(4,int x.1)])
    (fun x wr=>x.1≤l.length∧Ext w wr∧∃ p:List Spn,p.length≤x.1∧Sl wr x.2 p) (fun x=>l.length-x.1) (0,_)
    ⟨rfl,rfl,rfl,trivial⟩ ⟨Nat.zero_le _,xS,[],Nat.le_refl _,row_Sl (xs:=([]:List Spn)) (css:=[]) rS trivial (Nat.le_refl _) (by simp)⟩ ?_
  rintro⟨i,vP⟩ wr ⟨hi,hx,p,hpl,hP⟩
  dsimp only at hi hx hpl hP ⊢
  by_cases hlt:i<l.length
  · obtain⟨bl,off,rfl⟩:=hp (by omega)
    obtain⟨z,hz⟩:∃ z,l[i]?=some z:=⟨_,List.getElem?_eq_getElem hlt⟩
    have hat:=spn_elem (hv0.ext hx) hz
    (repeat' (first|refine eV Z Z (val_indexAddr (m:=i) Z Z Z Z (by omega)) ?_|refine eV Z Z (val_loadA Z Z Z hat rfl) ?_|(refine EL_call Z Z (entersF Z Z en204) (rright_some _ _ _) (fun vC wC hC=>?_);obtain⟨⟨bb,rfl⟩,xC⟩:=hC;replace hat:=hat.ext xC;replace hx:=hx.trans xC;replace hP:=hP.ext xC)|(refine EL_call Z Z (entersF Z Z en242) (insert_any p vP _ _ _ hP (by omega)) (fun vD wD hD=>?_);obtain⟨xD,ys,hyl,hys⟩:=hD)|(refine at_EL ?_;first|refine eN ?_|refine eV Z Z (zA Z Z) ?_|refine eV Z Z (zB Z Z) ?_|(refine at_bin ?_;first|refine eD Z Z (zL Z Z Z) (fun hh=>?_) (fun hh=>?_)|refine eV Z Z (zU Z Z Z (by omega) (by omega)) ?_)|(refine at_call ?_;first|refine eV Z Z (zK Z Z) ?_))|(refine at_K ?_;first|refine K_then ?_|refine K_in ?_|refine K_then_exit ?_|refine K_in_exit ?_)|(refine at_E ?_;first|refine E_seq ?_|refine E_region ?_|refine E_cond_t Z ?_|refine E_cond_f Z ?_|refine E_block ?_|refine E_skip ?_|refine E_ret ?_|refine E_exit ?_|(refine E_cond Z (fun hg=>?_) (fun hg=>?_) <;> subst hg))))
    all_goals (first|(exfalso;omega)|skip)
    · exact K_rnd (i+1,vD) ⟨rfl,rfl,rfl,trivial⟩ ⟨by dsimp only;omega,hx.trans xD,ys,by dsimp only;omega,hys⟩ (by dsimp only;omega)
    · exact K_rnd (i+1,vP) ⟨rfl,rfl,rfl,trivial⟩ ⟨by dsimp only;omega,hx,p,by dsimp only;omega,hP⟩ (by dsimp only;omega)
  · (repeat' (first|(refine at_EL ?_;first|refine eN ?_|refine eV Z Z (zA Z Z) ?_|refine eV Z Z (zB Z Z) ?_|(refine at_bin ?_;first|refine eD Z Z (zL Z Z Z) (fun hh=>?_) (fun hh=>?_))|(refine at_call ?_;first|refine eV Z Z (zK Z Z) ?_))|(refine at_K ?_;first|refine K_then ?_|refine K_then_exit ?_|refine K_in_exit ?_)|(refine at_E ?_;first|refine E_seq ?_|refine E_region ?_|refine E_cond_t Z ?_|refine E_cond_f Z ?_|refine E_block ?_|refine E_skip ?_|refine E_ret ?_|refine E_exit ?_)))
    all_goals (first|(exfalso;omega)|skip)
    exact ret_1 Z Z ⟨hx,p,by omega,hP⟩
set_option maxRecDepth 8000 in
set_option maxHeartbeats 1000000 in
theorem minus2_any (l m:List Spn) (u v:Value) (w:World) (hu:Sl w u l) (hv:Sl w v m) (hlen:l.length≤2) (hm20:m.length≤20):Calls Tryz.prog 205 #[u,v] w (Rt fun r w'=>Ext w w'∧∃ ys:List Spn,Sl w' r ys):=by
  refine calls_E (n:=27) (args:=[u,v]) Tryz.func205 rfl Tryz.ntmps205 (by simp) ?_
  have hv0:=hv
  obtain⟨ap,cap,rfl,hc,hm,hp⟩:=hv.sl
  (repeat' (first|(refine EL_call Z Z (entersF Z Z en227) (sunion_any l u _ hu (by omega)) (fun vD wD hD=>?_);obtain⟨xD,zs,hzl,hzs⟩:=hD)|(refine at_EL ?_;first|refine eN ?_|refine eV Z Z (zA Z Z) ?_|refine eV Z Z (zB Z Z) ?_)|(refine at_K ?_;first|refine K_then ?_)|(refine at_E ?_;first|refine E_seq ?_|refine E_region ?_|refine E_block ?_)))
  refine E_loop (ι:=Nat × Value) (fun x=>[(1,.slice ap m.length cap),(5,x.2),(6,int x.1)])
    (fun x wr=>x.1≤m.length∧Ext w wr∧∃ p:List Spn,p.length≤2*2 ^ x.1∧Sl wr x.2 p) (fun x=>m.length-x.1) (0,_)
    ⟨rfl,rfl,rfl,trivial⟩ ⟨Nat.zero_le _,xD,zs,by simp;omega,hzs⟩ ?_
  rintro⟨i,vP⟩ wr ⟨hi,hx,p,hpl,hP⟩
  dsimp only at hi hx hpl hP ⊢
  have hpow:2 ^ i≤2 ^ 20:=Nat.pow_le_pow_right (by omega) (by omega)
  by_cases hlt:i<m.length
  · obtain⟨bl,off,rfl⟩:=hp (by omega)
    obtain⟨z,hz⟩:∃ z,m[i]?=some z:=⟨_,List.getElem?_eq_getElem hlt⟩
    have hat:=spn_elem (hv0.ext hx) hz
    have hps:2 ^ (i+1)=2*2 ^ i:=by rw [Nat.pow_succ];omega
    (repeat' (first|refine eV Z Z (val_indexAddr (m:=i) Z Z Z Z (by omega)) ?_|refine eV Z Z (val_loadA Z Z Z hat rfl) ?_|(refine EL_call Z Z (entersF Z Z en204) (rright_some _ _ _) (fun vC wC hC=>?_);obtain⟨⟨bb,rfl⟩,xC⟩:=hC;replace hat:=hat.ext xC;replace hx:=hx.trans xC;replace hP:=hP.ext xC)|(refine EL_call Z Z (entersF Z Z en228) (without_any p vP _ _ _ hP (by omega)) (fun vE wE hE=>?_);obtain⟨xE,ys,hyl,hys⟩:=hE)|(refine at_EL ?_;first|refine eN ?_|refine eV Z Z (zA Z Z) ?_|refine eV Z Z (zB Z Z) ?_|(refine at_bin ?_;first|refine eD Z Z (zL Z Z Z) (fun hh=>?_) (fun hh=>?_)|refine eV Z Z (zU Z Z Z (by omega) (by omega)) ?_)|(refine at_call ?_;first|refine eV Z Z (zK Z Z) ?_))|(refine at_K ?_;first|refine K_then ?_|refine K_in ?_|refine K_then_exit ?_|refine K_in_exit ?_)|(refine at_E ?_;first|refine E_seq ?_|refine E_region ?_|refine E_cond_t Z ?_|refine E_cond_f Z ?_|refine E_block ?_|refine E_skip ?_|refine E_ret ?_|refine E_exit ?_|(refine E_cond Z (fun hg=>?_) (fun hg=>?_) <;> subst hg))))
    all_goals (first|(exfalso;omega)|skip)
    · exact K_rnd (i+1,vE) ⟨rfl,rfl,rfl,trivial⟩ ⟨by dsimp only;omega,hx.trans xE,ys,by dsimp only;rw [hps];omega,hys⟩ (by dsimp only;omega)
    · exact K_rnd (i+1,vP) ⟨rfl,rfl,rfl,trivial⟩ ⟨by dsimp only;omega,hx,p,by dsimp only;rw [hps];omega,hP⟩ (by dsimp only;omega)
  · (repeat' (first|(refine at_EL ?_;first|refine eN ?_|refine eV Z Z (zA Z Z) ?_|refine eV Z Z (zB Z Z) ?_|(refine at_bin ?_;first|refine eD Z Z (zL Z Z Z) (fun hh=>?_) (fun hh=>?_))|(refine at_call ?_;first|refine eV Z Z (zK Z Z) ?_))|(refine at_K ?_;first|refine K_then ?_|refine K_then_exit ?_|refine K_in_exit ?_)|(refine at_E ?_;first|refine E_seq ?_|refine E_region ?_|refine E_cond_t Z ?_|refine E_cond_f Z ?_|refine E_block ?_|refine E_skip ?_|refine E_ret ?_|refine E_exit ?_)))
    all_goals (first|(exfalso;omega)|skip)
    exact ret_1 Z Z ⟨hx,p,hP⟩
set_option maxRecDepth 8000 in
theorem covers_any (m:List Spn) (v:Value) (a b:Int) (w:World) (hv:Sl w v m) (hm20:m.length≤20):Calls Tryz.prog 176 #[v,.agg #[int a,int b]] w (Rt fun r w'=>(∃ b,r=.bool b)∧Ext w w'):=by
  refine calls_E (n:=15) (args:=[v,.agg #[int a,int b]]) Tryz.func176 rfl Tryz.ntmps176 (by simp) ?_
  refine E_seq ?_
  refine E_region ?_
  refine EL_box Z Z Z Z (fun bB wB xB hbB rB=>?_)
  replace hv:=hv.ext xB
  (repeat' (first|refine eV Z Z (val_loadA (cs:=[int a,int b]) Z Z Z rB.at rfl) ?_|(refine EL_call Z Z (entersF Z Z en204) (rright_some _ _ _) (fun vC wC hC=>?_);obtain⟨⟨bb,rfl⟩,xC⟩:=hC;cases bb <;>(replace rB:=rB.ext xC;replace hv:=hv.ext xC;replace xB:=xB.trans xC))|(refine EL_call Z Z (entersF Z Z en205) (minus2_any [(⟨a,b⟩:Spn)] m _ v _ (row_Sl (css:=[ [int a,int b] ]) (cap:=1) rS (spns_ats _ [(⟨a,b⟩:Spn)]) (Nat.le_refl _) (by simp)) (hv.ext xS) (by simp) hm20) (fun vD wD hD=>?_);obtain⟨xD,ys,hys⟩:=hD;obtain⟨aY,cY,rfl,_⟩:=hys.sl)|(refine at_EL ?_;first|refine eN ?_|refine eO Z Z ?_|refine eV Z Z (zA Z Z) ?_|refine eV Z Z (zB Z Z) ?_|(refine at_bin ?_;first|refine eD Z Z (zM Z Z Z) (fun hh=>?_) (fun hh=>?_))|(refine at_call ?_;first|refine eV Z Z (zK Z Z) ?_)|refine eV Z Z (zC Z Z Z) ?_|refine eV Z Z (zD Z Z Z) ?_|refine eL Z Z Z Z Z Z Z Z (fun bS wS xS hbS rS=>?_))|(refine at_K ?_;first|refine K_then ?_)|(refine at_E ?_;first|refine E_seq ?_|refine E_region ?_|refine E_ret ?_)))
  all_goals (first|(exfalso;omega)|skip)
  all_goals first
    | exact ret_1 Z Z ⟨⟨_,rfl⟩,xB⟩
    | exact ret_1 Z Z ⟨⟨_,rfl⟩,xB.trans (xS.trans xD)⟩
end Go.Proofs.YtjicdgejhkgpgaaGreatDoor
