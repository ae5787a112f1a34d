/-
  Own text of the proof.
-/
import Derived.Test.YtjicdgejhkgpgaaGreatDoorYn
import Derived.Test.YtjicdgejhkgpgaaGreatDoorYg
set_option linter.all false
set_option maxHeartbeats 4000000
set_option maxRecDepth 8000
namespace Go.Proofs.YtjicdgejhkgpgaaGreatDoor
section
open Go.RowKit Go.En
def spnC (t:Spn):List Value:=[int t.frm,int t.til]
def Sep (u v:Value):Prop:=∀ b,u.ownBlock=some b→v.ownBlock≠some b
theorem Sep.symm {u v:Value} (h:Sep u v):Sep v u:=fun b h1 h2=>h b h2 h1
theorem Sep.kept {u v:Value} (h:Sep u v):u.ownBlock=none∨u.ownBlock≠v.ownBlock:=by
  cases hu:u.ownBlock with
  | none=>exact .inl rfl
  | some b=>exact .inr (fun e=>h b hu e.symm)
theorem Sep.app {u v v':Value} {w:World} {B:Nat} {e:TypeId} {sz n:Nat} {xs:List Value} (h:Sep u v) (hu:w.ownsRow B e sz u n xs) (hv:v'.ownBlock=v.ownBlock∨v'.ownBlock=some w.heap.size):Sep u v':=fun b hb e=>by
  rcases hv with hv|hv
  · exact h b hb (hv▸e)
  · have:=(hu.lt b hb).2
    rw [hv] at e;cases e;omega
attribute [local irreducible] E EL K Val Enters Rt Calls bodyPost Code.wp RQ
theorem B7x (l:List Spn) (v:Value) (a b:Int) (w:World) (hv:Sl w v l) (hlen:l.length≤1099511627):Calls Tryz.prog 242 #[v,.agg #[int a,int b]] w (Rt fun u w'=>Ext w w'∧∃ ys:List Spn,ys.length≤l.length+1∧Sl w' u ys):=by
  refine A6 (n:=69) (args:=[v,.agg #[int a,int b]]) Tryz.func242 rfl Tryz.ntmps242 (by simp) ?_
  have hv0:=hv
  obtain⟨ap,cap,rfl,hc,hm,hp⟩:=hv.sl
  refine B4 ?_
  refine A9 ?_
  refine C6 Z Z Z Z (fun bB wB xB hbB rB=>?_)
  (repeat' ((fail_if_success (refine B4 (x:=(Code.region 2 _ _)) ?_));first|refine Sy ?_|refine eL Z Z Z Z Z Z Z Z (fun bS wS xS hbS rS=>?_)))
  refine B4 ?_
  refine A9 ?_
  refine eL Z Z Z Z Z Z Z Z (fun bT wT xT hbT rT=>?_)
  (repeat' (first|refine Sy ?_))
  have hBS:bB<bS:=by have:=rB.lt;omega
  have hST:bS<bT:=by have:=rS.lt;omega
  have hw1:w.heap.size≤bS:=by have:=xB.size;omega
  have hw2:w.heap.size≤bT:=by omega
  refine B0 (ι:=Nat × Value × Value) (fun x=>[(0,.slice ap l.length cap),(3,.pointer (some ⟨bB,0,none⟩)),(5,x.2.1),(6,x.2.2),(7,int x.1)])
    (fun x wr=>x.1≤l.length∧Ext w wr∧(∃ a b:Int,Row wr bB 76 [int a,int b])∧∃ p q:List Spn,p.length+q.length≤x.1∧wr.ownsRow w.heap.size 76 2 x.2.1 p.length (p.map spnC).flatten∧wr.ownsRow w.heap.size 76 2 x.2.2 q.length (q.map spnC).flatten∧
      x.2.1.ownBlock≠some bB∧x.2.2.ownBlock≠some bB∧Sep x.2.1 x.2.2) (fun x=>l.length-x.1) (0,_,_)
    ⟨rfl,rfl,rfl,rfl,rfl,trivial⟩ ⟨Nat.zero_le _,xB.trans (xS.trans xT),⟨a,b,(rB.ext (xS.trans xT))⟩,[],[],Nat.le_refl _,K9 (n:=0) (size:=2) (rS.ext xT) rfl (by omega) (by omega),K9 (n:=0) (size:=2) rT rfl (by omega) (by omega),
      fun e=>by simp [Value.ownBlock] at e;omega,fun e=>by simp [Value.ownBlock] at e;omega,fun k e1 e2=>by simp [Value.ownBlock] at e1 e2;omega⟩ ?_
  rintro⟨i,vP,vQ⟩ wr ⟨hi,hx,⟨a1,b1,rBr⟩,p,q,hpq,hP,hQ,sP,sQ,sPQ⟩
  dsimp only at hi hpq hP hQ sP sQ sPQ ⊢
  by_cases hlt:i<l.length
  · obtain⟨bl,off,rfl⟩:=hp (by omega)
    obtain⟨z,hz⟩:∃ z,l[i]?=some z:=⟨_,List.getElem?_eq_getElem hlt⟩
    have hat:=A2m (hv0.ext hx) hz
    (repeat' (first|(refine yN Z (fun wq xq=>?_);replace hat:=hat.ext xq;replace rBr:=rBr.ext xq;replace hx:=hx.trans xq;replace hP:=C7 hP xq;replace hQ:=C7 hQ xq)|refine E_dm (id:=10) 17 B5 (by kernel_rfl) Z ?_|refine yV Z Z (fun _ _ _=>A0 (m:=i) Z Z Z Z (by omega)) ?_|refine yV Z Z (fun wq _ xq=>A7 Z Z Z ((hat.ext xq).cellAt (j:=0) Z)) ?_|refine yV Z Z (fun wq _ xq=>A7 Z Z Z ((hat.ext xq).cellAt (j:=1) Z)) ?_|refine yV Z Z (fun wq _ xq=>A7 Z Z Z ((rBr.ext xq).cellAt (j:=0) Z)) ?_|refine yV Z Z (fun wq _ xq=>A7 Z Z Z ((rBr.ext xq).cellAt (j:=1) Z)) ?_|refine yV Z Z (fun _ _ _=>B0s Z Z Z) ?_|refine yV Z Z (fun _ _ _=>B0t Z Z Z) ?_|refine yV Z Z (fun _ _ _=>B6 (vs:=[(0,int _),(1,int _)]) [int _,int _] rfl rfl rfl) ?_|refine eV Z Z (A0 (m:=i) Z Z Z Z (by omega)) ?_|refine eV Z Z (B8 Z Z Z hat rfl) ?_|(refine D5 (news:=spnC z) (C7 hP xS) (hx.trans xS) (fun _=>⟨_,_,rfl,rS.at⟩) Z Z Z Z Z Z Z Z Z (by omega) (by omega) (fun vJ wJ oJ xJ kJ hJ=>?_);have isP:=True.intro)|(refine D5 (news:=spnC z) (C7 hQ xS) (hx.trans xS) (fun _=>⟨_,_,rfl,rS.at⟩) Z Z Z Z Z Z Z Z Z (by omega) (by omega) (fun vJ wJ oJ xJ kJ hJ=>?_))|refine Sy ?_|refine Dy (fun hh=>?_) fun hh=>?_|refine yqZ ?_|refine yqX (fun hh=>?_) fun hh=>?_|refine eL Z Z Z Z Z Z Z Z (fun bS wS xS hbS rS=>?_)|refine E_dq B5 (by kernel_rfl) Z ?_))
    all_goals (first|(exfalso;omega)|skip)
    · have rJ:=kJ.row (rBr.ext xS) (fun e=>sP e.symm)
      have hQS:=C7 hQ xS
      have hbs:=(rBr.ext xS).lt
      refine B3 (i+1,vJ,vQ) ⟨rfl,rfl,rfl,rfl,rfl,trivial⟩ ⟨by dsimp only;omega,xJ,⟨_,_,rJ⟩,p++[z],q,by simp;omega,by simpa using oJ,hQS.kept kJ sPQ.symm.kept,?_,sQ,(sPQ.symm.app hQS hJ).symm⟩ (by dsimp only;omega)
      rcases hJ with e|e
      · rw [e];exact sP
      · rw [e];simp;omega
    · have rJ:=kJ.row (rBr.ext xS) (fun e=>sQ e.symm)
      have hPS:=C7 hP xS
      have hbs:=(rBr.ext xS).lt
      refine B3 (i+1,vP,vJ) ⟨rfl,rfl,rfl,rfl,rfl,trivial⟩ ⟨by dsimp only;omega,xJ,⟨_,_,rJ⟩,p,q++[z],by simp;omega,hPS.kept kJ sPQ.kept,by simpa using oJ,sP,?_,sPQ.app hPS hJ⟩ (by dsimp only;omega)
      rcases hJ with e|e
      · rw [e];exact sQ
      · rw [e];simp;omega
    · refine B7 (cs:=[int _,int _]) rBr hx (by omega) Z Z Z Z Z Z Z Z (Nat.le_refl _) (fun w9 r9 x9 k9=>?_)
      (repeat' (first|refine Sy ?_))
      refine B3 (i+1,vP,vQ) ⟨rfl,rfl,rfl,rfl,rfl,trivial⟩ ⟨by dsimp only;omega,x9,⟨_,_,r9⟩,p,q,by omega,hP.kept k9 (.inr sP),hQ.kept k9 (.inr sQ),sP,sQ,sPQ⟩ (by dsimp only;omega)
  · obtain⟨aQ,capQ,rfl,hcQ,hatQ⟩:=B7p hQ
    (repeat' (first|refine eV Z Z (B8 Z Z Z rBr.at rfl) ?_|refine Sy ?_|refine Dy (fun hh=>?_) fun hh=>?_|refine eL Z Z Z Z Z Z Z Z (fun bS wS xS hbS rS=>?_)))
    all_goals (first|(exfalso;omega)|skip)
    refine D5 (news:=[int a1,int b1]) (C7 hP xS) (hx.trans xS) (fun _=>⟨_,_,rfl,rS.at⟩) Z Z Z Z Z Z Z Z Z (by omega) (by omega) (fun vJ wJ oJ xJ kJ hJ=>?_)
    have hQJ:=(C7 hQ xS).kept kJ sPQ.symm.kept
    obtain⟨a',cap',e,_,hatJ⟩:=B7p hQJ
    cases e
    (repeat' (first|refine Sy ?_))
    refine D5 (news:=(q.map spnC).flatten) oJ xJ hatJ rfl rfl rfl rfl rfl ?_ ?_ rfl rfl (by omega) (by omega) (fun vK wK oK xK kK hK=>?_)
    · rw [N0 (k:=2) (by intro c hc;obtain⟨x,_,rfl⟩:=List.mem_map.1 hc;rfl),List.length_map]
    · exact AtsG.ones (G:=Tt) (w:=wJ) (xs:=q) (V8 wJ q)
    (repeat' (first|refine Sy ?_))
    refine A4 Z Z ⟨xK,p++[(⟨a1,b1⟩:Spn)]++q,by simp;omega,N4 (css:=(p++[(⟨a1,b1⟩:Spn)]++q).map spnC) (show wK.ownsRow w.heap.size 76 2 vK (p.length+1+q.length) _ by simpa [spnC] using oK) (V8 _ _) (by simp;omega) (by simp;omega)⟩
theorem T3 (a b:Int) (w:World):Calls Tryz.prog 204 #[.agg #[int a,int b]] w (Rt fun u w'=>(∃ b,u=.bool b)∧Ext w w'):=C0 (A6j a b w) fun _ _ h=>⟨⟨_,h.1⟩,h.2⟩
theorem B2w (l:List Spn) (v:Value) (a b:Int) (w:World) (hv:Sl w v l) (hlen:l.length≤109951162):Calls Tryz.prog 228 #[v,.agg #[int a,int b]] w (Rt fun u w'=>Ext w w'∧∃ ys:List Spn,ys.length≤2*l.length∧Sl w' u ys):=by
  refine A6 (n:=57) (args:=[v,.agg #[int a,int b]]) Tryz.func228 rfl Tryz.ntmps228 (by simp) ?_
  have hv0:=hv
  obtain⟨ap,cap,rfl,hc,hm,hp⟩:=hv.sl
  refine B4 ?_
  refine A9 ?_
  refine C6 Z Z Z Z (fun bB wB xB hbB rB=>?_)
  (repeat' (first|refine Sy ?_|refine eL Z Z Z Z Z Z Z Z (fun bS wS xS hbS rS=>?_)))
  refine B0 (ι:=Nat × Value) (fun x=>[(0,.slice ap l.length cap),(3,.pointer (some ⟨bB,0,none⟩)),(5,x.2),(6,int x.1)])
    (fun x wr=>x.1≤l.length∧Ext wB wr∧∃ p:List Spn,p.length≤2*x.1∧wr.ownsRow wB.heap.size 76 2 x.2 p.length (p.map spnC).flatten) (fun x=>l.length-x.1) (0,_)
    ⟨rfl,rfl,rfl,rfl,trivial⟩ ⟨Nat.zero_le _,xS,[],Nat.le_refl _,K9 (n:=0) (size:=2) rS rfl (by omega) (by omega)⟩ ?_
  rintro⟨i,vP⟩ wr ⟨hi,hx,p,hpl,hP⟩
  dsimp only at hi hx hpl hP ⊢
  have rBr:=rB.ext hx
  by_cases hlt:i<l.length
  · obtain⟨bl,off,rfl⟩:=hp (by omega)
    obtain⟨z,hz⟩:∃ z,l[i]?=some z:=⟨_,List.getElem?_eq_getElem hlt⟩
    have hat:=A2m (hv0.ext (xB.trans hx)) hz
    (repeat' (first|refine E_dm (id:=5) 15 B5 (by kernel_rfl) Z ?_|refine yV Z Z (fun _ _ _=>A0 (m:=i) Z Z Z Z (by omega)) ?_|refine yV Z Z (fun wq _ xq=>A7 Z Z Z ((hat.ext xq).cellAt (j:=0) Z)) ?_|refine yV Z Z (fun wq _ xq=>A7 Z Z Z ((hat.ext xq).cellAt (j:=1) Z)) ?_|refine yV Z Z (fun wq _ xq=>A7 Z Z Z ((rBr.ext xq).cellAt (j:=0) Z)) ?_|refine yV Z Z (fun _ _ _=>B0s Z Z Z) ?_|refine yV Z Z (fun _ _ _=>B6 (vs:=[(0,int _),(1,int _)]) [int _,int _] rfl rfl rfl) ?_|refine B5w Z Z Z ?_|refine J4 (fun wq δ xq hR=>?_)|refine Sy ?_|refine Dy (fun hh=>?_) fun hh=>?_|refine yqZ ?_))
    obtain⟨b7,e7,hge7,r70⟩:=hR 7 _ rfl
    refine B7 (cs:=[int _,int _]) (off:=0) r70 xq hge7 rfl rfl rfl (show some (δ 7)=_ by rw [e7]) Z Z Z Z (Nat.le_refl _) (fun w7 r7 x7 k7=>?_)
    refine A2b ?_
    refine G8 ?_
    refine E.sub (M:=[(0,.slice (some ⟨bl,off,none⟩) l.length cap),(3,.pointer (some ⟨bB,0,none⟩)),(5,vP),(6,int i),(7,.pointer (some ⟨b7,0,none⟩))]) ⟨rfl,rfl,rfl,rfl,show some (δ 7)=_ by rw [e7],trivial⟩ ?_
    clear hR e7 δ
    have hat2:=hat.ext x7
    have rB2:=rBr.ext x7
    (repeat' (first|refine E_dm (id:=6) 15 B5 (by kernel_rfl) Z ?_|refine yV Z Z (fun _ _ _=>A0 (m:=i) Z Z Z Z (by omega)) ?_|refine yV Z Z (fun wq _ xq=>A7 Z Z Z ((hat2.ext xq).cellAt (j:=0) Z)) ?_|refine yV Z Z (fun wq _ xq=>A7 Z Z Z ((hat2.ext xq).cellAt (j:=1) Z)) ?_|refine yV Z Z (fun wq _ xq=>A7 Z Z Z ((rB2.ext xq).cellAt (j:=1) Z)) ?_|refine yV Z Z (fun _ _ _=>B0t Z Z Z) ?_|refine yV Z Z (fun _ _ _=>B6 (vs:=[(0,int _),(1,int _)]) [int _,int _] rfl rfl rfl) ?_|refine B5w Z Z Z ?_|refine J4 (fun wq δ xq hR=>?_)|refine Sy ?_|refine yqZ ?_))
    obtain⟨b8,e8,hge8,r80⟩:=hR 8 _ rfl
    refine B7 (cs:=[int _,int _]) (off:=0) r80 xq hge8 rfl rfl rfl (show some (δ 8)=_ by rw [e8]) Z Z Z Z (Nat.le_refl _) (fun w8 r8 x8 k8=>?_)
    have r72:=r7.ext x8
    have hx2:=hx.trans (x7.trans x8)
    have hP2:=C7 hP (x7.trans x8)
    refine A2b ?_
    refine G8 ?_
    refine E.sub (M:=[(0,.slice (some ⟨bl,off,none⟩) l.length cap),(3,.pointer (some ⟨bB,0,none⟩)),(5,vP),(6,int i),(7,.pointer (some ⟨b7,0,none⟩)),(8,.pointer (some ⟨b8,0,none⟩))]) ⟨rfl,rfl,rfl,rfl,rfl,show some (δ 8)=_ by rw [e8],trivial⟩ ?_
    clear hR e8 δ
    obtain⟨m1,hm1⟩:∃ m1,m1=(if a<z.til then a else z.til):=⟨_,rfl⟩
    obtain⟨m2,hm2⟩:∃ m2,m2=(if b>z.frm then b else z.frm):=⟨_,rfl⟩
    have r7:Row w8 b7 76 [int z.frm,int m1]:=by rw [hm1];exact r72
    have r8:Row w8 b8 76 [int m2,int z.til]:=by rw [hm2];exact r8
    have hx:=hx2
    have hlt0:∀ k,vP.ownBlock=some k→k<wr.heap.size:=fun k h=>(hP.lt k h).2
    have hwb8:wr.heap.size≤b8:=by have:=xq.size;have:=x7.size;omega
    have hP:=hP2
    (repeat' (first|refine eV Z Z (B8 Z Z Z r7.at rfl) ?_|refine eV Z Z (B8 Z Z Z r8.at rfl) ?_|(refine A8 Z Z (A5 Z Z B5k) (T3 _ _ _) (fun vC wC hC=>?_);obtain⟨⟨bb,rfl⟩,xC⟩:=hC;(try replace r7:=r7.ext xC);replace r8:=r8.ext xC;replace hx:=hx.trans xC;replace hP:=C7 hP xC)|(refine D5 (news:=[int _,int _]) (C7 hP xS) (hx.trans xS) (fun _=>⟨_,_,rfl,rS.at⟩) Z Z Z Z Z Z Z Z Z (by omega) (by omega) (fun vJ wJ oJ xJ kJ hJ=>?_);(first|replace r8:=kJ.row (r8.ext xS) (fun e=>by have:=hlt0 _ e.symm;omega)|skip);replace hP:=oJ;replace hx:=xJ)|refine Sy ?_|refine eL Z Z Z Z Z Z Z Z (fun bS wS xS hbS rS=>?_)|(refine B9g Z (fun hg=>?_) (fun hg=>?_) <;> subst hg)))
    all_goals (first|(exfalso;omega)|skip)
    all_goals first
      | exact B3 (i+1,_) ⟨rfl,rfl,rfl,rfl,trivial⟩ ⟨by dsimp only;omega,hx,p,by simp;omega,hP⟩ (by dsimp only;omega)
      | exact B3 (i+1,_) ⟨rfl,rfl,rfl,rfl,trivial⟩ ⟨by dsimp only;omega,hx,p++[(⟨z.frm,m1⟩:Spn)],by simp;omega,by simpa [spnC] using hP⟩ (by dsimp only;omega)
      | exact B3 (i+1,_) ⟨rfl,rfl,rfl,rfl,trivial⟩ ⟨by dsimp only;omega,hx,p++[(⟨m2,z.til⟩:Spn)],by simp;omega,by simpa [spnC] using hP⟩ (by dsimp only;omega)
      | exact B3 (i+1,_) ⟨rfl,rfl,rfl,rfl,trivial⟩ ⟨by dsimp only;omega,hx,p++[(⟨z.frm,m1⟩:Spn)]++[(⟨m2,z.til⟩:Spn)],by simp;omega,by simpa [spnC] using hP⟩ (by dsimp only;omega)
  · have hi':i=l.length:=by omega
    (repeat' (first|refine Sy ?_|refine Dy (fun hh=>?_) fun hh=>?_))
    all_goals (first|(exfalso;omega)|skip)
    exact A4 Z Z ⟨xB.trans hx,p,by omega,N4 (css:=p.map spnC) hP (V8 _ _) Z (by omega)⟩
theorem B6t (l:List Spn) (v:Value) (w:World) (hv:Sl w v l) (hlen:l.length≤1099511626):Calls Tryz.prog 227 #[v] w (Rt fun u w'=>Ext w w'∧∃ ys:List Spn,ys.length≤l.length∧Sl w' u ys):=by
  refine A6 (n:=24) (args:=[v]) Tryz.func227 rfl Tryz.ntmps227 (by simp) ?_
  have hv0:=hv
  obtain⟨ap,cap,rfl,hc,hm,hp⟩:=hv.sl
  (repeat' (first|refine Sy ?_|refine eL Z Z Z Z Z Z Z Z (fun bS wS xS hbS rS=>?_)))
  refine B0 (ι:=Nat × Value) (fun x=>[(0,.slice ap l.length cap),(3,x.2),(4,int x.1)])
    (fun x wr=>x.1≤l.length∧Ext w wr∧∃ p:List Spn,p.length≤x.1∧Sl wr x.2 p) (fun x=>l.length-x.1) (0,_)
    ⟨rfl,rfl,rfl,trivial⟩ ⟨Nat.zero_le _,xS,[],Nat.le_refl _,R5 (xs:=([]:List Spn)) (css:=[]) rS trivial (Nat.le_refl _) (by simp)⟩ ?_
  rintro⟨i,vP⟩ wr ⟨hi,hx,p,hpl,hP⟩
  dsimp only at hi hx hpl hP ⊢
  by_cases hlt:i<l.length
  · obtain⟨bl,off,rfl⟩:=hp (by omega)
    obtain⟨z,hz⟩:∃ z,l[i]?=some z:=⟨_,List.getElem?_eq_getElem hlt⟩
    have hat:=A2m (hv0.ext hx) hz
    (repeat' (first|refine eV Z Z (A0 (m:=i) Z Z Z Z (by omega)) ?_|refine eV Z Z (B8 Z Z Z hat rfl) ?_|(refine A8 Z Z (A5 Z Z B5k) (T3 _ _ _) (fun vC wC hC=>?_);obtain⟨⟨bb,rfl⟩,xC⟩:=hC;replace hat:=hat.ext xC;replace hx:=hx.trans xC;replace hP:=hP.ext xC)|(refine A8 Z Z (A5 Z Z en242) (B7x p vP _ _ _ hP (by omega)) (fun vD wD hD=>?_);obtain⟨xD,ys,hyl,hys⟩:=hD)|refine Sy ?_|refine Dy (fun hh=>?_) fun hh=>?_|(refine B9g Z (fun hg=>?_) (fun hg=>?_) <;> subst hg)))
    all_goals (first|(exfalso;omega)|skip)
    · exact B3 (i+1,vD) ⟨rfl,rfl,rfl,trivial⟩ ⟨by dsimp only;omega,hx.trans xD,ys,by dsimp only;omega,hys⟩ (by dsimp only;omega)
    · exact B3 (i+1,vP) ⟨rfl,rfl,rfl,trivial⟩ ⟨by dsimp only;omega,hx,p,by dsimp only;omega,hP⟩ (by dsimp only;omega)
  · (repeat' (first|refine Sy ?_|refine Dy (fun hh=>?_) fun hh=>?_))
    all_goals (first|(exfalso;omega)|skip)
    exact A4 Z Z ⟨hx,p,by omega,hP⟩
theorem B7u (l m:List Spn) (u v:Value) (w:World) (hu:Sl w u l) (hv:Sl w v m) (hlen:l.length≤2) (hm20:m.length≤20):Calls Tryz.prog 205 #[u,v] w (Rt fun r w'=>Ext w w'∧∃ ys:List Spn,Sl w' r ys):=by
  refine A6 (n:=27) (args:=[u,v]) Tryz.func205 rfl Tryz.ntmps205 (by simp) ?_
  have hv0:=hv
  obtain⟨ap,cap,rfl,hc,hm,hp⟩:=hv.sl
  (repeat' (first|(refine A8 Z Z (A5 Z Z en227) (B6t l u _ hu (by omega)) (fun vD wD hD=>?_);obtain⟨xD,zs,hzl,hzs⟩:=hD)|refine Sy ?_))
  refine B0 (ι:=Nat × Value) (fun x=>[(1,.slice ap m.length cap),(5,x.2),(6,int x.1)])
    (fun x wr=>x.1≤m.length∧Ext w wr∧∃ p:List Spn,p.length≤2*2 ^ x.1∧Sl wr x.2 p) (fun x=>m.length-x.1) (0,_)
    ⟨rfl,rfl,rfl,trivial⟩ ⟨Nat.zero_le _,xD,zs,by simp;omega,hzs⟩ ?_
  rintro⟨i,vP⟩ wr ⟨hi,hx,p,hpl,hP⟩
  dsimp only at hi hx hpl hP ⊢
  have hpow:2 ^ i≤2 ^ 20:=Nat.pow_le_pow_right (by omega) (by omega)
  by_cases hlt:i<m.length
  · obtain⟨bl,off,rfl⟩:=hp (by omega)
    obtain⟨z,hz⟩:∃ z,m[i]?=some z:=⟨_,List.getElem?_eq_getElem hlt⟩
    have hat:=A2m (hv0.ext hx) hz
    have hps:2 ^ (i+1)=2*2 ^ i:=by rw [Nat.pow_succ];omega
    (repeat' (first|refine eV Z Z (A0 (m:=i) Z Z Z Z (by omega)) ?_|refine eV Z Z (B8 Z Z Z hat rfl) ?_|(refine A8 Z Z (A5 Z Z B5k) (T3 _ _ _) (fun vC wC hC=>?_);obtain⟨⟨bb,rfl⟩,xC⟩:=hC;replace hat:=hat.ext xC;replace hx:=hx.trans xC;replace hP:=hP.ext xC)|(refine A8 Z Z (A5 Z Z en228) (B2w p vP _ _ _ hP (by omega)) (fun vE wE hE=>?_);obtain⟨xE,ys,hyl,hys⟩:=hE)|refine Sy ?_|refine Dy (fun hh=>?_) fun hh=>?_|(refine B9g Z (fun hg=>?_) (fun hg=>?_) <;> subst hg)))
    all_goals (first|(exfalso;omega)|skip)
    · exact B3 (i+1,vE) ⟨rfl,rfl,rfl,trivial⟩ ⟨by dsimp only;omega,hx.trans xE,ys,by dsimp only;rw [hps];omega,hys⟩ (by dsimp only;omega)
    · exact B3 (i+1,vP) ⟨rfl,rfl,rfl,trivial⟩ ⟨by dsimp only;omega,hx,p,by dsimp only;rw [hps];omega,hP⟩ (by dsimp only;omega)
  · (repeat' (first|refine Sy ?_|refine Dy (fun hh=>?_) fun hh=>?_))
    all_goals (first|(exfalso;omega)|skip)
    exact A4 Z Z ⟨hx,p,hP⟩
theorem B8s (m:List Spn) (v:Value) (a b:Int) (w:World) (hv:Sl w v m) (hm20:m.length≤20):Calls Tryz.prog 176 #[v,.agg #[int a,int b]] w (Rt fun r w'=>(∃ b,r=.bool b)∧Ext w w'):=by
  refine A6 (n:=15) (args:=[v,.agg #[int a,int b]]) Tryz.func176 rfl Tryz.ntmps176 (by simp) ?_
  refine B4 ?_
  refine A9 ?_
  refine C6 Z Z Z Z (fun bB wB xB hbB rB=>?_)
  replace hv:=hv.ext xB
  (repeat' (first|refine eV Z Z (B8 (cs:=[int a,int b]) Z Z Z rB.at rfl) ?_|(refine A8 Z Z (A5 Z Z B5k) (T3 _ _ _) (fun vC wC hC=>?_);obtain⟨⟨bb,rfl⟩,xC⟩:=hC;cases bb <;>(replace rB:=rB.ext xC;replace hv:=hv.ext xC;replace xB:=xB.trans xC))|(refine A8 Z Z (A5 Z Z en205) (B7u [(⟨a,b⟩:Spn)] m _ v _ (R5 (css:=[ [int a,int b] ]) (cap:=1) rS (V8 _ [(⟨a,b⟩:Spn)]) (Nat.le_refl _) (by simp)) (hv.ext xS) (by simp) hm20) (fun vD wD hD=>?_);obtain⟨xD,ys,hys⟩:=hD;obtain⟨aY,cY,rfl,_⟩:=hys.sl)|refine Sy ?_|refine Dy (fun hh=>?_) fun hh=>?_|refine eL Z Z Z Z Z Z Z Z (fun bS wS xS hbS rS=>?_)))
  all_goals (first|(exfalso;omega)|skip)
  all_goals first
    | exact A4 Z Z ⟨⟨_,rfl⟩,xB⟩
    | exact A4 Z Z ⟨⟨_,rfl⟩,xB.trans (xS.trans xD)⟩
end
section
open Go.RowKit Go.En
def C3y (n:Note):Spn:=⟨n.frm,n.til⟩
theorem B3m (l:List Note) (v:Value) (w:World) (hv:Sl w v l) (hlen:l.length≤1099511627776):Calls Tryz.prog 177 #[v] w (Rt fun u w'=>Ext w w'∧Sl w' u (l.map C3y)):=C1l l v w hv hlen
attribute [local irreducible] E EL K Val Enters Rt Calls bodyPost Code.wp RQ
theorem A8p (d:Dc) (i:Nat) (n:Note) (v:Value) (w:World) (hv:DcAt w v d) (hn:d.notes[i]?=some n) :
    Calls Tryz.prog 133 #[v,int i] w (Rt fun u w'=>(∃ e:Int,u=int e∧(e=0→NoteOK d i n))∧Ext w w'):=by
  have hd0:=hv
  obtain⟨sv,tv,nv,rfl,hs,htv,hnv⟩:=hv
  refine A6 (n:=54) (args:=[.agg #[int d.rid,str d.rname,int d.len,int d.day,sv,tv,nv],int i]) Tryz.func133 rfl Tryz.ntmps133 (by simp) ?_
  have hnv0:=hnv
  obtain⟨at_,capt,rfl,hct,hmt,hpt⟩:=htv.sl
  obtain⟨a,cap,rfl,hc,hm,hp⟩:=hnv.sl
  have hilt:=(List.getElem?_eq_some_iff.1 hn).1
  obtain⟨b,off,rfl⟩:=hp (by omega)
  refine B4 ?_
  refine A9 ?_
  refine C6 Z Z Z Z (fun bD wD xD hbD rD0=>?_)
  have rD1:Row wD bD 72 [int d.rid,str d.rname,int d.len,int d.day,sv,.slice at_ d.tiers.length capt,.slice (some ⟨b,off,none⟩) d.notes.length cap]:=rD0
  have hat1:=D7 (hnv0.ext xD) hn
  (repeat' (first|refine eV Z Z (A7 Z Z Z (rD1.cellAt rfl)) ?_|refine eV Z Z (A0 (m:=i) Z Z Z Z hilt) ?_|refine eV Z Z (B8 Z Z Z hat1 rfl) ?_|refine Sy ?_))
  refine C3 Z Z Z (fun bN wN xN hbN rN0=>?_)
  refine B7 (cs:=B9 n) rN0 xN (by omega) Z Z Z Z Z Z Z Z (Nat.le_refl _) (fun w2 rN1 x2 k2=>?_)
  have rN:Row w2 bN 80 (B9 n):=rN1
  have rD:=rD1.ext x2
  have hx:=xD.trans x2
  clear rD0 rN0 rN1 rD1 k2
  (repeat' ((fail_if_success (refine B4 (x:=(Code.seq (Code.region 4 _ _) _)) ?_));first|refine eV Z Z (A7 Z Z Z (rN.cellAt rfl)) ?_|refine Sy ?_|refine Dy (fun hh=>?_) fun hh=>?_))
  all_goals (first|(exfalso;omega)|exact A4 Z Z ⟨⟨_,rfl,fun h=>by omega⟩,hx⟩|skip)
  refine N8 (ι:=Unit) (fun _=>[(1,int i),(2,.pointer (some ⟨bD,0,none⟩)),(5,.pointer (some ⟨bN,0,none⟩))]) (fun _ w4=>Ext w2 w4∧∀ m,0<i→d.notes[i-1]?=some m→m.id<n.id) ?_ ?_
  · by_cases h0:0<i
    · obtain⟨m,hmm⟩:∃ m,d.notes[i-1]?=some m:=⟨_,List.getElem?_eq_getElem (by omega)⟩
      have hatm:=D7 (hnv0.ext hx) hmm
      (repeat' (first|refine yV Z Z (fun wq _ xq=>A7 Z Z Z ((rN.ext xq).cellAt rfl)) ?_|refine yV Z Z (fun wq _ xq=>A7 Z Z Z ((rD.ext xq).cellAt rfl)) ?_|refine yV Z Z (fun _ _ _=>A0 (m:=i-1) Z Z Z (by omega) (by omega)) ?_|refine yV Z Z (fun wq _ xq=>A7 Z Z Z ((hatm.ext xq).cellAt (j:=0) Z)) ?_|refine Sy ?_|refine yqZ ?_|refine yqX (fun hh=>?_) fun hh=>?_|refine E_dq B5 (by kernel_rfl) Z ?_|refine yN Z (fun wq xq=>?_)|refine yO Z Z ?_))
      all_goals (first|(exfalso;omega)|exact A4 Z Z ⟨⟨_,rfl,fun h=>by omega⟩,hx.trans xq⟩|skip)
      exact G6 () ⟨rfl,rfl,rfl,trivial⟩ ⟨xq,fun m' _ hm'=>by rw [hmm] at hm';cases hm';omega⟩
    · (repeat' (first|refine Sy ?_|refine yqZ ?_|refine yqX (fun hh=>?_) fun hh=>?_|refine E_dq B5 (by kernel_rfl) Z ?_|refine yN Z (fun wq xq=>?_)|refine yO Z Z ?_))
      all_goals (first|(exfalso;omega)|skip)
      exact G6 () ⟨rfl,rfl,rfl,trivial⟩ ⟨xq,fun m' h _=>absurd h h0⟩
  rintro⟨⟩ w4 ⟨xm,f1⟩
  replace hx:=hx.trans xm
  replace rD:=rD.ext xm
  replace rN:=rN.ext xm
  (repeat' ((fail_if_success (refine B4 (x:=(Code.seq (Code.region 8 _ _) _)) ?_));first|refine eV Z Z (A7 Z Z Z (rN.cellAt rfl)) ?_|refine eV Z Z (A7 Z Z Z (rD.cellAt rfl)) ?_|refine Sy ?_|refine Dy (fun hh=>?_) fun hh=>?_))
  all_goals (first|(exfalso;omega)|exact A4 Z Z ⟨⟨_,rfl,fun h=>by omega⟩,hx⟩|skip)
  obtain⟨k,hk⟩:∃ k:Nat,n.tier=(k:Int):=⟨n.tier.toNat,by omega⟩
  obtain⟨t,ht⟩:∃ t,d.tiers[k]?=some t:=⟨_,List.getElem?_eq_getElem (by omega)⟩
  (repeat' (first|refine eV Z Z (A7 Z Z Z (rN.cellAt rfl)) ?_|refine eV Z Z (B8 Z Z Z rN.at rfl) ?_|refine eV Z Z (B8 Z Z Z rD.at rfl) ?_|(refine A8 Z Z (A5 Z Z en97) (B3k n.text _) (fun vC wC hC=>?_);obtain⟨⟨e,rfl,he⟩,xC⟩:=hC;replace rD:=rD.ext xC;replace rN:=rN.ext xC;replace hx:=hx.trans xC)|(refine A8 Z Z (A5 Z Z en172) (B7o d n t k _ _ (hd0.ext hx) hk ht) (fun vP wP hP=>?_);obtain⟨⟨e2,rfl,he2⟩,xP⟩:=hP)|refine Sy ?_|refine Dy (fun hh=>?_) fun hh=>?_))
  · exact A4 Z Z ⟨⟨_,rfl,fun h=>absurd h ‹_›⟩,hx⟩
  · exact A4 Z Z ⟨⟨_,rfl,fun h=>⟨by omega,fun m h0 hm=>f1 m h0 hm,he (Classical.not_not.1 ‹_›),t,k,hk,ht,he2 h⟩⟩,hx.trans xP⟩
theorem C2i (ns:List Note) (id:Int):∃(q:Note) (ok:Bool),getR ns id=.tuple #[.agg (B9 q).toArray,.bool ok]:=by
  obtain⟨q,ok,h,_⟩:=A7e ns id
  exact⟨q,ok,h⟩
theorem A8f (d:Dc) (k:Nat) (t:Tier) (v:Value) (w:World) (hv:DcAt w v d) (ht:d.tiers[k]?=some t) (h20:d.notes.length≤20) :
    Calls Tryz.prog 134 #[v,int k] w (Rt fun u w'=>(∃ e:Int,u=int e∧(e=0→R3 d k t))∧Ext w w'):=by
  have hd0:=hv
  obtain⟨sv,tv,nv,rfl,hs,htv,hnv⟩:=hv
  refine A6 (n:=77) (args:=[.agg #[int d.rid,str d.rname,int d.len,int d.day,sv,tv,nv],int k]) Tryz.func134 rfl Tryz.ntmps134 (by simp) ?_
  have hnv0:=hnv
  have htv0:=htv
  obtain⟨a,cap,rfl,hc,hm,hp⟩:=hnv.sl
  obtain⟨at_,capt,rfl,hct,hmt,hpt⟩:=htv.sl
  have hklt:=(List.getElem?_eq_some_iff.1 ht).1
  obtain⟨bt,offt,rfl⟩:=hpt (by omega)
  refine B4 ?_
  refine A9 ?_
  refine C6 Z Z Z Z (fun bD wD xD hbD rD0=>?_)
  have rD1:Row wD bD 72 [int d.rid,str d.rname,int d.len,int d.day,sv,.slice (some ⟨bt,offt,none⟩) d.tiers.length capt,.slice a d.notes.length cap]:=rD0
  clear rD0
  have hatt:=K0 (htv0.ext xD) ht
  (repeat' (first|refine eV Z Z (A7 Z Z Z (rD1.cellAt rfl)) ?_|refine eV Z Z (A0 (m:=k) Z Z Z Z hklt) ?_|refine eV Z Z (A7 Z Z Z (hatt.cellAt (j:=1) Z)) ?_|refine Sy ?_))
  refine B0 (ι:=Nat × Int) (fun x=>[(1,int k),(2,.pointer (some ⟨bD,0,none⟩)),(5,int t.kind),(6,int x.2),(7,int x.1)])
    (fun x wr=>x.1≤d.notes.length∧Ext wD wr∧(x.2=0→∀ j,j<x.1→∀ n,d.notes[j]?=some n→n.tier=(k:Int)→SibsOK t.kind (sibs d.notes k n.parent))) (fun x=>d.notes.length-x.1) (0,0)
    ⟨rfl,rfl,rfl,rfl,rfl,trivial⟩ ⟨Nat.zero_le _,Ext.refl _,fun _ j hj=>by omega⟩ ?_
  rintro⟨i,out⟩ wr ⟨hi,hx,hall⟩
  dsimp only at hi hx hall ⊢
  have rD:=rD1.ext hx
  by_cases hlt:i<d.notes.length
  · obtain⟨b,off,rfl⟩:=hp (by omega)
    obtain⟨n,hn⟩:∃ n,d.notes[i]?=some n:=⟨_,List.getElem?_eq_getElem hlt⟩
    have hatn:=D7 (hnv0.ext (xD.trans hx)) hn
    (repeat' (first|refine eV Z Z (A7 Z Z Z (rD.cellAt rfl)) ?_|refine eV Z Z (A0 (m:=i) Z Z Z Z hlt) ?_|refine eV Z Z (B8 Z Z Z hatn rfl) ?_|refine Sy ?_|refine Dy (fun hh=>?_) fun hh=>?_))
    all_goals (first|(exfalso;omega)|skip)
    refine C3 Z Z Z (fun bN wN xN hbN rN0=>?_)
    refine B7 (cs:=B9 n) rN0 xN (by omega) Z Z Z Z Z Z Z Z (Nat.le_refl _) (fun w2 rN1 x2 k2=>?_)
    have rN:Row w2 bN 80 (B9 n):=rN1
    have hx2:=hx.trans x2
    replace rD:=rD.ext x2
    clear rN0 rN1 k2
    (repeat' ((fail_if_success (refine B4 (x:=(Code.region 8 _ _)) ?_));first|refine eV Z Z (A7 Z Z Z (rN.cellAt rfl)) ?_|refine Sy ?_|refine Dy (fun hh=>?_) fun hh=>?_))
    · exact B3 (i+1,out) ⟨rfl,rfl,rfl,rfl,rfl,trivial⟩ ⟨by dsimp only;omega,hx2,fun h=>Y3 (f:=fun _ n=>n.tier=(k:Int)→SibsOK t.kind (sibs d.notes k n.parent)) hn (hall h) (fun h2=>absurd h2 ‹_›)⟩ (by dsimp only;omega)
    have htn:n.tier=(k:Int):=Classical.not_not.1 ‹_›
    obtain⟨S,hS⟩:∃ S,S=sibs d.notes k n.parent:=⟨_,rfl⟩
    have cS:=B0y d _ (k:Int) n.parent w2 (hd0.ext (xD.trans hx2)) (by omega)
    rw [← hS] at cS
    have hSl:S.length≤20:=by have:=A2o d.notes k n.parent;rw [hS];omega
    (repeat' ((fail_if_success (refine B4 (x:=(Code.seq (Code.region 9 _ _) _)) ?_));first|refine eV Z Z (B8 Z Z Z rD.at rfl) ?_|refine eV Z Z (A7 Z Z Z (rN.cellAt rfl)) ?_|(refine A8 Z Z (A5 Z Z en173) cS (fun vC wC hC=>?_);obtain⟨xC,hSv⟩:=hC)|refine Sy ?_))
    have hSv0:=hSv
    obtain⟨aS,cS',rfl,_⟩:=hSv.sl
    replace rD:=rD.ext xC
    replace rN:=rN.ext xC
    replace hx2:=hx2.trans xC
    refine N8 (ι:=Unit) (fun _=>[(1,int k),(2,.pointer (some ⟨bD,0,none⟩)),(5,int t.kind),(6,int out),(7,int i),(8,.pointer (some ⟨bN,0,none⟩)),(9,.slice aS S.length cS')]) (fun _ w4=>Ext wC w4∧(G4 t.kind=true→B9f S)) ?_ ?_
    · obtain⟨ba,hba⟩:∃ ba,ba=G4 t.kind:=⟨_,rfl⟩
      have ca:=A5e t.kind
      rw [← hba] at ca ⊢
      cases ba
      all_goals
        (repeat' (first|(refine cqC (ca _) C5s fun wE xE=>?_)|(refine A8 Z Z (A5 Z Z en175) (B4c S _ _ (hSv0.ext xE)) (fun vF wF hF=>?_);obtain⟨⟨bo,rfl,hbo⟩,xF⟩:=hF;cases bo)|refine Sy ?_))
        all_goals first
          | exact A4 Z Z ⟨⟨_,rfl,fun h=>by omega⟩,xD.trans (hx2.trans (xE.trans xF))⟩
          | exact G6 () ⟨rfl,rfl,rfl,rfl,rfl,rfl,rfl,trivial⟩ ⟨xE.trans xF,fun _=>hbo rfl⟩
          | exact G6 () ⟨rfl,rfl,rfl,rfl,rfl,rfl,rfl,trivial⟩ ⟨xE,fun h=>Bool.noConfusion h⟩
    rintro⟨⟩ w4 ⟨xm,hap⟩
    replace rD:=rD.ext xm
    replace rN:=rN.ext xm
    replace hx2:=hx2.trans xm
    replace hSv0:=hSv0.ext xm
    obtain⟨q,ok,hq⟩:=C2i d.notes n.parent
    have cg:=C0l d _ n.parent _ (hd0.ext (xD.trans hx2))
    rw [hq] at cg
    (repeat' (first|refine eV Z Z (B8 Z Z Z rD.at rfl) ?_|refine eV Z Z (A7 Z Z Z (rN.cellAt rfl)) ?_|(refine cqC cg en52 fun wG xG=>?_)|refine Sy ?_))
    refine C3 Z Z Z (fun bP wP xP hbP rP0=>?_)
    refine B7 (cs:=B9 q) rP0 xP (by omega) Z Z Z Z Z Z Z Z (Nat.le_refl _) (fun w5 rP1 x5 k5=>?_)
    have rP:Row w5 bP 80 (B9 q):=rP1
    have hx5:=hx2.trans (xG.trans x5)
    replace hSv0:=hSv0.ext (xG.trans x5)
    clear rP0 rP1 k5 cg cS rD rN hSv hatn
    (repeat' ((fail_if_success (refine B4 (x:=(Code.seq (Code.region 12 _ _) _)) ?_));first|refine Sy ?_))
    refine N8 (ι:=Int) (fun o=>[(1,int k),(2,.pointer (some ⟨bD,0,none⟩)),(5,int t.kind),(6,int o),(7,int i),(8,.pointer (some ⟨bN,0,none⟩)),(9,.slice aS S.length cS')]) (fun o w6=>Ext w5 w6∧(o=0→out=0)) ?_ ?_
    · by_cases hk1:t.kind=1
      · have hspan:At w5 bP (0+3) [int q.frm,int q.til]:=rP.at.seg 3 (n:=2)
        refine B4 ?_
        refine E.sub (M:=(10,.pointer (some ⟨bP,0,none⟩))::[(1,int k),(2,.pointer (some ⟨bD,0,none⟩)),(5,int t.kind),(6,int out),(7,int i),(8,.pointer (some ⟨bN,0,none⟩)),(9,.slice aS S.length cS')]) ⟨rfl,rfl,rfl,rfl,rfl,rfl,rfl,rfl,trivial⟩ ?_
        refine E_dm (id:=12) 8 B5 (by kernel_rfl) Z ?_
        (repeat' (first|refine C8 (fun u w'=>Sl w' u (S.map C3y)) (fun _=>#[.slice aS S.length cS']) Z Z (fun _ _ _ _ xe h=>h.ext xe) (fun _ _ _=>A5 Z Z en177) (fun wq _ xq _=>C0 (B3m S _ wq (hSv0.ext xq) (by omega)) fun _ _ h=>⟨h.2,h.1⟩) ?_|refine yV Z Z (fun wq _ xq=>B8 Z Z Z (hspan.ext xq) Z) ?_|refine C8 (fun u w'=>∃ bb,u=.bool bb) (fun δ=>#[δ 56,.agg #[int q.frm,int q.til] ]) Z Z (fun _ _ _ _ xe h=>h) (fun _ _ _=>A5 Z Z en176) (fun wq δ xq hs=>C0 (B8s (S.map C3y) _ q.frm q.til wq (hs 56 rfl _ rfl) (by simp;omega)) fun _ _ h=>h) ?_|refine J4 (fun wq δ xq hR=>?_)|refine Sy ?_|refine yqZ ?_|refine yqX (fun hh=>?_) fun hh=>?_|refine yO Z Z ?_))
        all_goals (first|(exfalso;omega)|skip)
        obtain⟨bb,e59⟩:=hR 59 _ rfl
        refine EL.sub (M:=(59,.bool bb)::(54,.bool true)::[(1,int k),(2,.pointer (some ⟨bD,0,none⟩)),(5,int t.kind),(6,int out),(7,int i),(8,.pointer (some ⟨bN,0,none⟩)),(9,.slice aS S.length cS')]) ⟨show some (δ 59)=_ by rw [e59],rfl,rfl,rfl,rfl,rfl,rfl,rfl,rfl,trivial⟩ ?_
        clear hR e59 δ
        cases bb
        all_goals
          (repeat' (first|refine Sy ?_))
          exact G6 _ ⟨rfl,rfl,rfl,rfl,rfl,rfl,rfl,trivial⟩ ⟨xq,fun h=>by first|exact h|omega⟩
      · (repeat' (first|refine Sy ?_|refine yqZ ?_|refine yqX (fun hh=>?_) fun hh=>?_|refine E_dq B5 (by kernel_rfl) Z ?_|refine yN Z (fun wq xq=>?_)|refine yO Z Z ?_))
        all_goals (first|(exfalso;omega)|skip)
        exact G6 out ⟨rfl,rfl,rfl,rfl,rfl,rfl,rfl,trivial⟩ ⟨xq,fun h=>h⟩
    rintro o w6 ⟨xm,ho⟩
    replace hx5:=hx5.trans xm
    replace hSv0:=hSv0.ext xm
    have don:∀ o':Int,(o'=0→out=0∧SibsOK t.kind S)→o'=0→∀ j,j<i+1→∀ n,d.notes[j]?=some n→n.tier=(k:Int)→SibsOK t.kind (sibs d.notes k n.parent):=fun o' h h0=>
      Y3 (f:=fun _ n=>n.tier=(k:Int)→SibsOK t.kind (sibs d.notes k n.parent)) hn (hall (h h0).1) (fun _=>by rw [← hS];exact(h h0).2)
    (repeat' (first|(refine A8 Z Z (A5 Z Z en178) (B7n S _ _ hSv0) (fun vF wF hF=>?_);obtain⟨⟨bo,rfl,hbo⟩,xF⟩:=hF;cases bo)|refine Sy ?_|refine Dy (fun hh=>?_) fun hh=>?_))
    all_goals (first|(exfalso;omega)|skip)
    all_goals first
      | exact B3 (i+1,10) ⟨rfl,rfl,rfl,rfl,rfl,trivial⟩ ⟨by dsimp only;omega,hx5.trans xF,don 10 (fun h=>absurd h (by decide))⟩ (by dsimp only;omega)
      | exact B3 (i+1,o) ⟨rfl,rfl,rfl,rfl,rfl,trivial⟩ ⟨by dsimp only;omega,hx5.trans xF,don o (fun h=>⟨ho h,hap,fun _=>hbo rfl,fun h=>by omega⟩)⟩ (by dsimp only;omega)
      | exact B3 (i+1,8) ⟨rfl,rfl,rfl,rfl,rfl,trivial⟩ ⟨by dsimp only;omega,hx5,don 8 (fun h=>absurd h (by decide))⟩ (by dsimp only;omega)
      | exact B3 (i+1,o) ⟨rfl,rfl,rfl,rfl,rfl,trivial⟩ ⟨by dsimp only;omega,hx5,don o (fun h=>⟨ho h,hap,fun h=>by omega,fun h=>by omega⟩)⟩ (by dsimp only;omega)
  · (repeat' (first|refine eV Z Z (A7 Z Z Z (rD.cellAt rfl)) ?_|refine Sy ?_|refine Dy (fun hh=>?_) fun hh=>?_))
    all_goals (first|(exfalso;omega)|skip)
    refine A4 Z Z ⟨⟨_,rfl,fun h n hn htn=>?_⟩,xD.trans hx⟩
    obtain⟨j,hj⟩:=List.getElem?_of_mem hn
    exact hall h j (by have:=(List.getElem?_eq_some_iff.1 hj).1;omega) n hj htn
end
end Go.Proofs.YtjicdgejhkgpgaaGreatDoor