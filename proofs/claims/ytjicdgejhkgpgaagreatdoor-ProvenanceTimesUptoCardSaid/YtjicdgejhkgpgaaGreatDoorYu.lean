/-
  Own text of the proof.
-/
import Derived.Test.YtjicdgejhkgpgaaGreatDoorYt
import Derived.Test.YtjicdgejhkgpgaaGreatDoorYh
set_option linter.all false
set_option maxHeartbeats 4000000
set_option maxRecDepth 8000
namespace Go.Proofs.YtjicdgejhkgpgaaGreatDoor
section
open Go.RowKit Go.En
theorem Pk (ns:List Note) (id:Int):∃(q:Note) (ok:Bool),getR ns id=.tuple #[.agg (Be q).toArray,.bool ok]∧(ok=true→getF ns id=some q)∧(ok=false→getF ns id=none):=by
  unfold getR
  cases h:getF ns id with
  | none=>exact⟨K1,false,rfl,by simp,by simp⟩
  | some q=>exact⟨q,true,rfl,by simp,by simp⟩
attribute [local irreducible] E EL K Val Enters Rt Calls bodyPost Code.wp RQ
theorem placed_any (d:Dc) (n:Note) (t:Tier) (k:Nat) (v:Value) (w:World) (hv:DcAt w v d) (hk:n.tier=(k:Int)) (ht:d.tiers[k]?=some t) :
    Calls Tryz.prog 172 #[v,.agg (Be n).toArray] w (Rt fun u w'=>(∃ e:Int,u=int e∧(e=0→PlacedOK d n t))∧Ext w w'):=by
  have hd0:=hv
  obtain⟨sv,tv,nv,rfl,hs,htv,hnv⟩:=hv
  refine A7 (n:=117) (args:=[.agg #[int d.rid,str d.rname,int d.len,int d.day,sv,tv,nv],.agg (Be n).toArray]) Tryz.func172 rfl Tryz.ntmps172 (by simp) ?_
  have htv0:=htv
  obtain⟨a,cap,rfl,hc,hm,hp⟩:=htv.sl
  have hklt:=(List.getElem?_eq_some_iff.1 ht).1
  obtain⟨b,off,rfl⟩:=hp (by omega)
  refine Ac ?_
  refine A8 ?_
  refine Aj Z Z Z Z (fun bD wD xD hbD rD0=>?_)
  refine Aj Z Z Z Z (fun bN wN xN hbN rN0=>?_)
  have rD1:Row wN bD 72 [int d.rid,str d.rname,int d.len,int d.day,sv,.slice (some ⟨b,off,none⟩) d.tiers.length cap,nv]:=rD0.ext xN
  have rN1:Row wN bN 80 (Be n):=rN0
  have hat1:=Cg (htv0.ext (xD.trans xN)) ht
  (repeat' (first|refine eV Z Z (A6 Z Z Z (rD1.cellAt rfl)) ?_|refine eV Z Z (A6 Z Z Z (rN1.cellAt rfl)) ?_|refine eV Z Z (A0 (m:=k) Z Z Z hk hklt) ?_|refine eV Z Z (Ab Z Z Z hat1 rfl) ?_|refine Sy ?_))
  refine Ap Z Z Z (fun bT wT xT hbT rT0=>?_)
  refine Ah (cs:=tierC t) rT0 xT (by omega) Z Z Z Z Z Z Z Z (Nat.le_refl _) (fun w2 rT1 x2 k2=>?_)
  have rT2:Row w2 bT 88 (tierC t):=rT1
  have rD2:=rD1.ext x2
  have rN2:=rN1.ext x2
  have hx2:=xD.trans (xN.trans x2)
  clear rT0 rT1 rD0 rN0 rD1 rN1 k2
  (repeat' (first|refine eV Z Z (Ab Z Z Z rD2.at rfl) ?_|refine eV Z Z (A6 Z Z Z (rN2.cellAt rfl)) ?_|refine Sy ?_))
  have cg:=get_any d _ n.parent w2 (hd0.ext hx2)
  obtain⟨q,ok,hq,hq1,hq2⟩:=Pk d.notes n.parent
  rw [hq] at cg
  (repeat' (first|(refine cqC cg en52 fun wC xC=>?_)|refine Sy ?_))
  refine Ap Z Z Z (fun bP wP xP hbP rP0=>?_)
  refine Ah (cs:=Be q) rP0 xP (by omega) Z Z Z Z Z Z Z Z (Nat.le_refl _) (fun w3 rP1 x3 k3=>?_)
  have rP:Row w3 bP 80 (Be q):=rP1
  have rT:=rT2.ext (xC.trans x3)
  have rD:=rD2.ext (xC.trans x3)
  have rN:=rN2.ext (xC.trans x3)
  have hx:=hx2.trans (xC.trans x3)
  clear rP0 rP1 rT2 rD2 rN2 k3 cg hat1
  (repeat' ((fail_if_success (refine Ac (x:=(Code.seq (Code.region 3 _ _) _)) ?_));first|refine Sy ?_))
  have f0:=Ext.refl w3
  refine Fl (ι:=Unit) (fun _=>[(2,.pointer (some ⟨bD,0,none⟩)),(3,.pointer (some ⟨bN,0,none⟩)),(5,.pointer (some ⟨bT,0,none⟩)),(6,.pointer (some ⟨bP,0,none⟩)),(7,.bool ok)]) (fun _ w4=>Ext w3 w4∧(t.kind=0→n.parent=0)∧(t.kind≠0→ok=true∧q.tier=t.parent)) ?_ ?_
  · cases ok
    all_goals
      (repeat' (first|refine eV Z Z (A6 Z Z Z (rT.cellAt rfl)) ?_|refine eV Z Z (A6 Z Z Z (rN.cellAt rfl)) ?_|refine eV Z Z (A6 Z Z Z (rP.cellAt rfl)) ?_|refine Sy ?_|refine Dy (fun hh=>?_) fun hh=>?_))
      all_goals (first|(exfalso;omega)|exact A5 Z Z ⟨⟨_,rfl,fun h=>by omega⟩,hx⟩|exact Bx () ⟨rfl,rfl,rfl,rfl,rfl,trivial⟩ ⟨Ext.refl _,by omega,fun h=>⟨rfl,by omega⟩⟩|exact Bx () ⟨rfl,rfl,rfl,rfl,rfl,trivial⟩ ⟨Ext.refl _,by omega,fun h=>absurd ‹t.kind=0› h⟩|exact Bx () ⟨rfl,rfl,rfl,rfl,rfl,trivial⟩ ⟨Ext.refl _,by omega,fun h=>absurd (Classical.not_not.1 ‹_›) h⟩)
  rintro⟨⟩ w4 ⟨xm,f1,f2⟩
  replace hx:=hx.trans xm
  replace rD:=rD.ext xm
  replace rN:=rN.ext xm
  replace rT:=rT.ext xm
  replace rP:=rP.ext xm
  obtain⟨bt,hbt⟩:∃ bt,bt=Bj t.kind:=⟨_,rfl⟩
  have ct:=Ne t.kind
  rw [← hbt] at ct
  obtain⟨br,hbr⟩:∃ br,br=M9 n.frm n.til:=⟨_,rfl⟩
  have cr:=Ot n.frm n.til
  rw [← hbr] at cr
  obtain⟨bz,hbz⟩:∃ bz,bz=!(decide (n.frm=0)&&decide (n.til=0)):=⟨_,rfl⟩
  have hspan:At w4 bN (0+3) [int n.frm,int n.til]:=rN.at.seg 3 (n:=2)
  refine Fl (ι:=Unit) (fun _=>[(2,.pointer (some ⟨bD,0,none⟩)),(3,.pointer (some ⟨bN,0,none⟩)),(5,.pointer (some ⟨bT,0,none⟩)),(6,.pointer (some ⟨bP,0,none⟩)),(7,.bool ok)]) (fun _ w5=>Ext w4 w5∧(bt=false→bz=false)∧(bt=true→br=true)) ?_ ?_
  · have xe:=Ext.refl w4
    cases bt <;> cases br <;> cases bz
    all_goals
      (repeat' (first|refine eV Z Z (A6 Z Z Z (rT.cellAt rfl)) ?_|refine eV Z Z (Ab Z Z Z hspan rfl) ?_|refine eV Z Z (Af (vs:=[]) [int 0,int 0] rfl rfl rfl) ?_|refine eV Z Z (Hs span_two rfl rfl rfl hbz) ?_|(refine cqC (ct _) en174 fun wC xC=>?_;replace xe:=xe.trans xC;replace hspan:=hspan.ext xC;replace rT:=rT.ext xC;replace rN:=rN.ext xC)|(refine cqC (cr _) en204 fun wC xC=>?_;replace xe:=xe.trans xC)|refine Sy ?_))
      all_goals (first|exact A5 Z Z ⟨⟨_,rfl,fun h=>by omega⟩,hx.trans xe⟩|exact Bx () ⟨rfl,rfl,rfl,rfl,rfl,trivial⟩ ⟨xe,by simp,by simp⟩)
  rintro⟨⟩ w5 ⟨xm,f3,f4⟩
  replace hx:=hx.trans xm
  replace rD:=rD.ext xm
  replace rN:=rN.ext xm
  replace rT:=rT.ext xm
  replace rP:=rP.ext xm
  refine Fl (ι:=Unit) (fun _=>[(2,.pointer (some ⟨bD,0,none⟩)),(3,.pointer (some ⟨bN,0,none⟩)),(5,.pointer (some ⟨bT,0,none⟩)),(6,.pointer (some ⟨bP,0,none⟩)),(7,.bool ok)]) (fun _ w6=>Ext w5 w6∧(t.kind=0→n.til≤d.len)) ?_ ?_
  · (repeat' (first|refine eV Z Z (A6 Z Z Z (rT.cellAt rfl)) ?_|refine eV Z Z (A6 Z Z Z (rN.cellAt rfl)) ?_|refine eV Z Z (A6 Z Z Z (rD.cellAt rfl)) ?_|refine Sy ?_|refine Dy (fun hh=>?_) fun hh=>?_))
    all_goals (first|(exfalso;omega)|exact A5 Z Z ⟨⟨_,rfl,fun h=>by omega⟩,hx⟩|exact Bx () ⟨rfl,rfl,rfl,rfl,rfl,trivial⟩ ⟨Ext.refl _,by omega⟩)
  rintro⟨⟩ w6 ⟨xm,f5⟩
  replace hx:=hx.trans xm
  replace rD:=rD.ext xm
  replace rN:=rN.ext xm
  replace rT:=rT.ext xm
  replace rP:=rP.ext xm
  refine Fl (ι:=Unit) (fun _=>[(2,.pointer (some ⟨bD,0,none⟩)),(3,.pointer (some ⟨bN,0,none⟩)),(5,.pointer (some ⟨bT,0,none⟩)),(6,.pointer (some ⟨bP,0,none⟩)),(7,.bool ok)]) (fun _ w7=>Ext w6 w7∧(bt=true→t.kind≠0→q.frm≤n.frm∧n.til≤q.til)) ?_ ?_
  · cases bt
    all_goals
      (repeat' (first|refine eV Z Z (A6 Z Z Z (rT.cellAt rfl)) ?_|refine eV Z Z (A6 Z Z Z (rN.cellAt rfl)) ?_|refine eV Z Z (A6 Z Z Z (rP.cellAt rfl)) ?_|(refine cqC (ct _) en174 fun wC xC=>?_;replace rT:=rT.ext xC;replace rN:=rN.ext xC;replace rP:=rP.ext xC)|refine Sy ?_|refine Dy (fun hh=>?_) fun hh=>?_))
      all_goals (first|(exfalso;omega)|exact A5 Z Z ⟨⟨_,rfl,fun h=>by omega⟩,hx.trans xC⟩|exact Bx () ⟨rfl,rfl,rfl,rfl,rfl,trivial⟩ ⟨xC,fun h=>Bool.noConfusion h⟩|exact Bx () ⟨rfl,rfl,rfl,rfl,rfl,trivial⟩ ⟨xC,fun _ h=>by omega⟩|exact Bx () ⟨rfl,rfl,rfl,rfl,rfl,trivial⟩ ⟨xC,fun _ h=>absurd (Classical.not_not.1 ‹_›) h⟩)
  rintro⟨⟩ w7 ⟨xm,f6⟩
  replace hx:=hx.trans xm
  replace rD:=rD.ext xm
  replace rN:=rN.ext xm
  replace rT:=rT.ext xm
  replace rP:=rP.ext xm
  (repeat' (first|refine eV Z Z (A6 Z Z Z (rT.cellAt rfl)) ?_|refine eV Z Z (A6 Z Z Z (rN.cellAt rfl)) ?_|refine Sy ?_|refine Dy (fun hh=>?_) fun hh=>?_))
  all_goals (first|(exfalso;omega)|exact A5 Z Z ⟨⟨_,rfl,fun h=>by omega⟩,hx⟩|skip)
  all_goals
    refine A5 Z Z ⟨⟨_,rfl,fun _=>⟨f1,fun h=>⟨q,hq1 (f2 h).1,(f2 h).2⟩,fun h=>?_,fun h=>?_,f5,fun h p hp=>?_,by omega⟩⟩,hx⟩
    · have h1:=f3 (by rw [hbt];exact h)
      rw [h1] at hbz
      simpa using hbz.symm
    · rw [← hbr];exact f4 (by rw [hbt];exact h)
    · have h0:t.kind≠0:=by omega
      have h1:=hq1 (f2 h0).1
      rw [h1] at hp;cases hp
      exact f6 (by rw [hbt];exact Jk.2 (by omega)) h0
end
section
open Go.RowKit Go.En
def spnC (t:Spn):List Value:=[int t.frm,int t.til]
def Sep (u v:Value):Prop:=∀ b,u.ownBlock=some b→v.ownBlock≠some b
theorem Sep.symm {u v:Value} (h:Sep u v):Sep v u:=fun b h1 h2=>h b h2 h1
theorem Sep.kept {u v:Value} (h:Sep u v):u.ownBlock=none∨u.ownBlock≠v.ownBlock:=by
  cases hu:u.ownBlock with
  | none=>exact .inl rfl
  | some b=>exact .inr (fun e=>h b hu e.symm)
theorem Sep.app {u v v':Value} {w:World} {B:Nat} {e:TypeId} {sz n:Nat} {xs:List Value} (h:Sep u v) (hu:w.ownsRow B e sz u n xs) (hv:v'.ownBlock=v.ownBlock∨v'.ownBlock=some w.heap.size):Sep u v':=fun b hb e=>by
  rcases hv with hv|hv
  · exact h b hb (hv▸e)
  · have:=(hu.lt b hb).2
    rw [hv] at e;cases e;omega
attribute [local irreducible] E EL K Val Enters Rt Calls bodyPost Code.wp RQ
theorem insert_any (l:List Spn) (v:Value) (a b:Int) (w:World) (hv:Sl w v l) (hlen:l.length≤1099511627):Calls Tryz.prog 242 #[v,.agg #[int a,int b]] w (Rt fun u w'=>Ext w w'∧∃ ys:List Spn,ys.length≤l.length+1∧Sl w' u ys):=by
  refine A7 (n:=69) (args:=[v,.agg #[int a,int b]]) Tryz.func242 rfl Tryz.ntmps242 (by simp) ?_
  have hv0:=hv
  obtain⟨ap,cap,rfl,hc,hm,hp⟩:=hv.sl
  refine Ac ?_
  refine A8 ?_
  refine Aj Z Z Z Z (fun bB wB xB hbB rB=>?_)
  (repeat' ((fail_if_success (refine Ac (x:=(Code.region 2 _ _)) ?_));first|refine Sy ?_|refine eL Z Z Z Z Z Z Z Z (fun bS wS xS hbS rS=>?_)))
  refine Ac ?_
  refine A8 ?_
  refine eL Z Z Z Z Z Z Z Z (fun bT wT xT hbT rT=>?_)
  (repeat' (first|refine Sy ?_))
  have hBS:bB<bS:=by have:=rB.lt;omega
  have hST:bS<bT:=by have:=rS.lt;omega
  have hw1:w.heap.size≤bS:=by have:=xB.size;omega
  have hw2:w.heap.size≤bT:=by omega
  refine Ae (ι:=Nat × Value × Value) (fun x=>[(0,.slice ap l.length cap),(3,.pointer (some ⟨bB,0,none⟩)),(5,x.2.1),(6,x.2.2),(7,int x.1)])
    (fun x wr=>x.1≤l.length∧Ext w wr∧(∃ a b:Int,Row wr bB 76 [int a,int b])∧∃ p q:List Spn,p.length+q.length≤x.1∧wr.ownsRow w.heap.size 76 2 x.2.1 p.length (p.map spnC).flatten∧wr.ownsRow w.heap.size 76 2 x.2.2 q.length (q.map spnC).flatten∧
      x.2.1.ownBlock≠some bB∧x.2.2.ownBlock≠some bB∧Sep x.2.1 x.2.2) (fun x=>l.length-x.1) (0,_,_)
    ⟨rfl,rfl,rfl,rfl,rfl,trivial⟩ ⟨Nat.zero_le _,xB.trans (xS.trans xT),⟨a,b,(rB.ext (xS.trans xT))⟩,[],[],Nat.le_refl _,Cq (n:=0) (size:=2) (rS.ext xT) rfl (by omega) (by omega),Cq (n:=0) (size:=2) rT rfl (by omega) (by omega),
      fun e=>by simp [Value.ownBlock] at e;omega,fun e=>by simp [Value.ownBlock] at e;omega,fun k e1 e2=>by simp [Value.ownBlock] at e1 e2;omega⟩ ?_
  rintro⟨i,vP,vQ⟩ wr ⟨hi,hx,⟨a1,b1,rBr⟩,p,q,hpq,hP,hQ,sP,sQ,sPQ⟩
  dsimp only at hi hpq hP hQ sP sQ sPQ ⊢
  by_cases hlt:i<l.length
  · obtain⟨bl,off,rfl⟩:=hp (by omega)
    obtain⟨z,hz⟩:∃ z,l[i]?=some z:=⟨_,List.getElem?_eq_getElem hlt⟩
    have hat:=L9 (hv0.ext hx) hz
    (repeat' (first|(refine yN Z (fun wq xq=>?_);replace hat:=hat.ext xq;replace rBr:=rBr.ext xq;replace hx:=hx.trans xq;replace hP:=Ak hP xq;replace hQ:=Ak hQ xq)|refine E_dm (id:=10) 17 Aa (by kernel_rfl) Z ?_|refine yV Z Z (fun _ _ _=>A0 (m:=i) Z Z Z Z (by omega)) ?_|refine yV Z Z (fun wq _ xq=>A6 Z Z Z ((hat.ext xq).cellAt (j:=0) Z)) ?_|refine yV Z Z (fun wq _ xq=>A6 Z Z Z ((hat.ext xq).cellAt (j:=1) Z)) ?_|refine yV Z Z (fun wq _ xq=>A6 Z Z Z ((rBr.ext xq).cellAt (j:=0) Z)) ?_|refine yV Z Z (fun wq _ xq=>A6 Z Z Z ((rBr.ext xq).cellAt (j:=1) Z)) ?_|refine yV Z Z (fun _ _ _=>val_min Z Z Z) ?_|refine yV Z Z (fun _ _ _=>val_max Z Z Z) ?_|refine yV Z Z (fun _ _ _=>Af (vs:=[(0,int _),(1,int _)]) [int _,int _] rfl rfl rfl) ?_|refine eV Z Z (A0 (m:=i) Z Z Z Z (by omega)) ?_|refine eV Z Z (Ab Z Z Z hat rfl) ?_|(refine Ay (news:=spnC z) (Ak hP xS) (hx.trans xS) (fun _=>⟨_,_,rfl,rS.at⟩) Z Z Z Z Z Z Z Z Z (by omega) (by omega) (fun vJ wJ oJ xJ kJ hJ=>?_);have isP:=True.intro)|(refine Ay (news:=spnC z) (Ak hQ xS) (hx.trans xS) (fun _=>⟨_,_,rfl,rS.at⟩) Z Z Z Z Z Z Z Z Z (by omega) (by omega) (fun vJ wJ oJ xJ kJ hJ=>?_))|refine Sy ?_|refine Dy (fun hh=>?_) fun hh=>?_|refine yqZ ?_|refine yqX (fun hh=>?_) fun hh=>?_|refine eL Z Z Z Z Z Z Z Z (fun bS wS xS hbS rS=>?_)|refine E_dq Aa (by kernel_rfl) Z ?_))
    all_goals (first|(exfalso;omega)|skip)
    · have rJ:=kJ.row (rBr.ext xS) (fun e=>sP e.symm)
      have hQS:=Ak hQ xS
      have hbs:=(rBr.ext xS).lt
      refine Ad (i+1,vJ,vQ) ⟨rfl,rfl,rfl,rfl,rfl,trivial⟩ ⟨by dsimp only;omega,xJ,⟨_,_,rJ⟩,p++[z],q,by simp;omega,by simpa using oJ,hQS.kept kJ sPQ.symm.kept,?_,sQ,(sPQ.symm.app hQS hJ).symm⟩ (by dsimp only;omega)
      rcases hJ with e|e
      · rw [e];exact sP
      · rw [e];simp;omega
    · have rJ:=kJ.row (rBr.ext xS) (fun e=>sQ e.symm)
      have hPS:=Ak hP xS
      have hbs:=(rBr.ext xS).lt
      refine Ad (i+1,vP,vJ) ⟨rfl,rfl,rfl,rfl,rfl,trivial⟩ ⟨by dsimp only;omega,xJ,⟨_,_,rJ⟩,p,q++[z],by simp;omega,hPS.kept kJ sPQ.kept,by simpa using oJ,sP,?_,sPQ.app hPS hJ⟩ (by dsimp only;omega)
      rcases hJ with e|e
      · rw [e];exact sQ
      · rw [e];simp;omega
    · refine Ah (cs:=[int _,int _]) rBr hx (by omega) Z Z Z Z Z Z Z Z (Nat.le_refl _) (fun w9 r9 x9 k9=>?_)
      (repeat' (first|refine Sy ?_))
      refine Ad (i+1,vP,vQ) ⟨rfl,rfl,rfl,rfl,rfl,trivial⟩ ⟨by dsimp only;omega,x9,⟨_,_,r9⟩,p,q,by omega,hP.kept k9 (.inr sP),hQ.kept k9 (.inr sQ),sP,sQ,sPQ⟩ (by dsimp only;omega)
  · obtain⟨aQ,capQ,rfl,hcQ,hatQ⟩:=own_sl hQ
    (repeat' (first|refine eV Z Z (Ab Z Z Z rBr.at rfl) ?_|refine Sy ?_|refine Dy (fun hh=>?_) fun hh=>?_|refine eL Z Z Z Z Z Z Z Z (fun bS wS xS hbS rS=>?_)))
    all_goals (first|(exfalso;omega)|skip)
    refine Ay (news:=[int a1,int b1]) (Ak hP xS) (hx.trans xS) (fun _=>⟨_,_,rfl,rS.at⟩) Z Z Z Z Z Z Z Z Z (by omega) (by omega) (fun vJ wJ oJ xJ kJ hJ=>?_)
    have hQJ:=(Ak hQ xS).kept kJ sPQ.symm.kept
    obtain⟨a',cap',e,_,hatJ⟩:=own_sl hQJ
    cases e
    (repeat' (first|refine Sy ?_))
    refine Ay (news:=(q.map spnC).flatten) oJ xJ hatJ rfl rfl rfl rfl rfl ?_ ?_ rfl rfl (by omega) (by omega) (fun vK wK oK xK kK hK=>?_)
    · rw [F5 (k:=2) (by intro c hc;obtain⟨x,_,rfl⟩:=List.mem_map.1 hc;rfl),List.length_map]
    · exact AtsG.ones (G:=Tt) (w:=wJ) (xs:=q) (Hf wJ q)
    (repeat' (first|refine Sy ?_))
    refine A5 Z Z ⟨xK,p++[(⟨a1,b1⟩:Spn)]++q,by simp;omega,Ce (css:=(p++[(⟨a1,b1⟩:Spn)]++q).map spnC) (show wK.ownsRow w.heap.size 76 2 vK (p.length+1+q.length) _ by simpa [spnC] using oK) (Hf _ _) (by simp;omega) (by simp;omega)⟩
theorem Gv (a b:Int) (w:World):Calls Tryz.prog 204 #[.agg #[int a,int b]] w (Rt fun u w'=>(∃ b,u=.bool b)∧Ext w w'):=Ag (Ot a b w) fun _ _ h=>⟨⟨_,h.1⟩,h.2⟩
theorem without_any (l:List Spn) (v:Value) (a b:Int) (w:World) (hv:Sl w v l) (hlen:l.length≤109951162):Calls Tryz.prog 228 #[v,.agg #[int a,int b]] w (Rt fun u w'=>Ext w w'∧∃ ys:List Spn,ys.length≤2*l.length∧Sl w' u ys):=by
  refine A7 (n:=57) (args:=[v,.agg #[int a,int b]]) Tryz.func228 rfl Tryz.ntmps228 (by simp) ?_
  have hv0:=hv
  obtain⟨ap,cap,rfl,hc,hm,hp⟩:=hv.sl
  refine Ac ?_
  refine A8 ?_
  refine Aj Z Z Z Z (fun bB wB xB hbB rB=>?_)
  (repeat' (first|refine Sy ?_|refine eL Z Z Z Z Z Z Z Z (fun bS wS xS hbS rS=>?_)))
  refine Ae (ι:=Nat × Value) (fun x=>[(0,.slice ap l.length cap),(3,.pointer (some ⟨bB,0,none⟩)),(5,x.2),(6,int x.1)])
    (fun x wr=>x.1≤l.length∧Ext wB wr∧∃ p:List Spn,p.length≤2*x.1∧wr.ownsRow wB.heap.size 76 2 x.2 p.length (p.map spnC).flatten) (fun x=>l.length-x.1) (0,_)
    ⟨rfl,rfl,rfl,rfl,trivial⟩ ⟨Nat.zero_le _,xS,[],Nat.le_refl _,Cq (n:=0) (size:=2) rS rfl (by omega) (by omega)⟩ ?_
  rintro⟨i,vP⟩ wr ⟨hi,hx,p,hpl,hP⟩
  dsimp only at hi hx hpl hP ⊢
  have rBr:=rB.ext hx
  by_cases hlt:i<l.length
  · obtain⟨bl,off,rfl⟩:=hp (by omega)
    obtain⟨z,hz⟩:∃ z,l[i]?=some z:=⟨_,List.getElem?_eq_getElem hlt⟩
    have hat:=L9 (hv0.ext (xB.trans hx)) hz
    (repeat' (first|refine E_dm (id:=5) 15 Aa (by kernel_rfl) Z ?_|refine yV Z Z (fun _ _ _=>A0 (m:=i) Z Z Z Z (by omega)) ?_|refine yV Z Z (fun wq _ xq=>A6 Z Z Z ((hat.ext xq).cellAt (j:=0) Z)) ?_|refine yV Z Z (fun wq _ xq=>A6 Z Z Z ((hat.ext xq).cellAt (j:=1) Z)) ?_|refine yV Z Z (fun wq _ xq=>A6 Z Z Z ((rBr.ext xq).cellAt (j:=0) Z)) ?_|refine yV Z Z (fun _ _ _=>val_min Z Z Z) ?_|refine yV Z Z (fun _ _ _=>Af (vs:=[(0,int _),(1,int _)]) [int _,int _] rfl rfl rfl) ?_|refine RQ_alloc Z Z Z ?_|refine B8 (fun wq δ xq hR=>?_)|refine Sy ?_|refine Dy (fun hh=>?_) fun hh=>?_|refine yqZ ?_))
    obtain⟨b7,e7,hge7,r70⟩:=hR 7 _ rfl
    refine Ah (cs:=[int _,int _]) (off:=0) r70 xq hge7 rfl rfl rfl (show some (δ 7)=_ by rw [e7]) Z Z Z Z (Nat.le_refl _) (fun w7 r7 x7 k7=>?_)
    refine Kv ?_
    refine Ba ?_
    refine E.sub (M:=[(0,.slice (some ⟨bl,off,none⟩) l.length cap),(3,.pointer (some ⟨bB,0,none⟩)),(5,vP),(6,int i),(7,.pointer (some ⟨b7,0,none⟩))]) ⟨rfl,rfl,rfl,rfl,show some (δ 7)=_ by rw [e7],trivial⟩ ?_
    clear hR e7 δ
    have hat2:=hat.ext x7
    have rB2:=rBr.ext x7
    (repeat' (first|refine E_dm (id:=6) 15 Aa (by kernel_rfl) Z ?_|refine yV Z Z (fun _ _ _=>A0 (m:=i) Z Z Z Z (by omega)) ?_|refine yV Z Z (fun wq _ xq=>A6 Z Z Z ((hat2.ext xq).cellAt (j:=0) Z)) ?_|refine yV Z Z (fun wq _ xq=>A6 Z Z Z ((hat2.ext xq).cellAt (j:=1) Z)) ?_|refine yV Z Z (fun wq _ xq=>A6 Z Z Z ((rB2.ext xq).cellAt (j:=1) Z)) ?_|refine yV Z Z (fun _ _ _=>val_max Z Z Z) ?_|refine yV Z Z (fun _ _ _=>Af (vs:=[(0,int _),(1,int _)]) [int _,int _] rfl rfl rfl) ?_|refine RQ_alloc Z Z Z ?_|refine B8 (fun wq δ xq hR=>?_)|refine Sy ?_|refine yqZ ?_))
    obtain⟨b8,e8,hge8,r80⟩:=hR 8 _ rfl
    refine Ah (cs:=[int _,int _]) (off:=0) r80 xq hge8 rfl rfl rfl (show some (δ 8)=_ by rw [e8]) Z Z Z Z (Nat.le_refl _) (fun w8 r8 x8 k8=>?_)
    have r72:=r7.ext x8
    have hx2:=hx.trans (x7.trans x8)
    have hP2:=Ak hP (x7.trans x8)
    refine Kv ?_
    refine Ba ?_
    refine E.sub (M:=[(0,.slice (some ⟨bl,off,none⟩) l.length cap),(3,.pointer (some ⟨bB,0,none⟩)),(5,vP),(6,int i),(7,.pointer (some ⟨b7,0,none⟩)),(8,.pointer (some ⟨b8,0,none⟩))]) ⟨rfl,rfl,rfl,rfl,rfl,show some (δ 8)=_ by rw [e8],trivial⟩ ?_
    clear hR e8 δ
    obtain⟨m1,hm1⟩:∃ m1,m1=(if a<z.til then a else z.til):=⟨_,rfl⟩
    obtain⟨m2,hm2⟩:∃ m2,m2=(if b>z.frm then b else z.frm):=⟨_,rfl⟩
    have r7:Row w8 b7 76 [int z.frm,int m1]:=by rw [hm1];exact r72
    have r8:Row w8 b8 76 [int m2,int z.til]:=by rw [hm2];exact r8
    have hx:=hx2
    have hlt0:∀ k,vP.ownBlock=some k→k<wr.heap.size:=fun k h=>(hP.lt k h).2
    have hwb8:wr.heap.size≤b8:=by have:=xq.size;have:=x7.size;omega
    have hP:=hP2
    (repeat' (first|refine eV Z Z (Ab Z Z Z r7.at rfl) ?_|refine eV Z Z (Ab Z Z Z r8.at rfl) ?_|(refine A9 Z Z (A3 Z Z en204) (Gv _ _ _) (fun vC wC hC=>?_);obtain⟨⟨bb,rfl⟩,xC⟩:=hC;(try replace r7:=r7.ext xC);replace r8:=r8.ext xC;replace hx:=hx.trans xC;replace hP:=Ak hP xC)|(refine Ay (news:=[int _,int _]) (Ak hP xS) (hx.trans xS) (fun _=>⟨_,_,rfl,rS.at⟩) Z Z Z Z Z Z Z Z Z (by omega) (by omega) (fun vJ wJ oJ xJ kJ hJ=>?_);(first|replace r8:=kJ.row (r8.ext xS) (fun e=>by have:=hlt0 _ e.symm;omega)|skip);replace hP:=oJ;replace hx:=xJ)|refine Sy ?_|refine eL Z Z Z Z Z Z Z Z (fun bS wS xS hbS rS=>?_)|(refine E_cond Z (fun hg=>?_) (fun hg=>?_) <;> subst hg)))
    all_goals (first|(exfalso;omega)|skip)
    all_goals first
      | exact Ad (i+1,_) ⟨rfl,rfl,rfl,rfl,trivial⟩ ⟨by dsimp only;omega,hx,p,by simp;omega,hP⟩ (by dsimp only;omega)
      | exact Ad (i+1,_) ⟨rfl,rfl,rfl,rfl,trivial⟩ ⟨by dsimp only;omega,hx,p++[(⟨z.frm,m1⟩:Spn)],by simp;omega,by simpa [spnC] using hP⟩ (by dsimp only;omega)
      | exact Ad (i+1,_) ⟨rfl,rfl,rfl,rfl,trivial⟩ ⟨by dsimp only;omega,hx,p++[(⟨m2,z.til⟩:Spn)],by simp;omega,by simpa [spnC] using hP⟩ (by dsimp only;omega)
      | exact Ad (i+1,_) ⟨rfl,rfl,rfl,rfl,trivial⟩ ⟨by dsimp only;omega,hx,p++[(⟨z.frm,m1⟩:Spn)]++[(⟨m2,z.til⟩:Spn)],by simp;omega,by simpa [spnC] using hP⟩ (by dsimp only;omega)
  · have hi':i=l.length:=by omega
    (repeat' (first|refine Sy ?_|refine Dy (fun hh=>?_) fun hh=>?_))
    all_goals (first|(exfalso;omega)|skip)
    exact A5 Z Z ⟨xB.trans hx,p,by omega,Ce (css:=p.map spnC) hP (Hf _ _) Z (by omega)⟩
theorem sunion_any (l:List Spn) (v:Value) (w:World) (hv:Sl w v l) (hlen:l.length≤1099511626):Calls Tryz.prog 227 #[v] w (Rt fun u w'=>Ext w w'∧∃ ys:List Spn,ys.length≤l.length∧Sl w' u ys):=by
  refine A7 (n:=24) (args:=[v]) Tryz.func227 rfl Tryz.ntmps227 (by simp) ?_
  have hv0:=hv
  obtain⟨ap,cap,rfl,hc,hm,hp⟩:=hv.sl
  (repeat' (first|refine Sy ?_|refine eL Z Z Z Z Z Z Z Z (fun bS wS xS hbS rS=>?_)))
  refine Ae (ι:=Nat × Value) (fun x=>[(0,.slice ap l.length cap),(3,x.2),(4,int x.1)])
    (fun x wr=>x.1≤l.length∧Ext w wr∧∃ p:List Spn,p.length≤x.1∧Sl wr x.2 p) (fun x=>l.length-x.1) (0,_)
    ⟨rfl,rfl,rfl,trivial⟩ ⟨Nat.zero_le _,xS,[],Nat.le_refl _,Gb (xs:=([]:List Spn)) (css:=[]) rS trivial (Nat.le_refl _) (by simp)⟩ ?_
  rintro⟨i,vP⟩ wr ⟨hi,hx,p,hpl,hP⟩
  dsimp only at hi hx hpl hP ⊢
  by_cases hlt:i<l.length
  · obtain⟨bl,off,rfl⟩:=hp (by omega)
    obtain⟨z,hz⟩:∃ z,l[i]?=some z:=⟨_,List.getElem?_eq_getElem hlt⟩
    have hat:=L9 (hv0.ext hx) hz
    (repeat' (first|refine eV Z Z (A0 (m:=i) Z Z Z Z (by omega)) ?_|refine eV Z Z (Ab Z Z Z hat rfl) ?_|(refine A9 Z Z (A3 Z Z en204) (Gv _ _ _) (fun vC wC hC=>?_);obtain⟨⟨bb,rfl⟩,xC⟩:=hC;replace hat:=hat.ext xC;replace hx:=hx.trans xC;replace hP:=hP.ext xC)|(refine A9 Z Z (A3 Z Z en242) (insert_any p vP _ _ _ hP (by omega)) (fun vD wD hD=>?_);obtain⟨xD,ys,hyl,hys⟩:=hD)|refine Sy ?_|refine Dy (fun hh=>?_) fun hh=>?_|(refine E_cond Z (fun hg=>?_) (fun hg=>?_) <;> subst hg)))
    all_goals (first|(exfalso;omega)|skip)
    · exact Ad (i+1,vD) ⟨rfl,rfl,rfl,trivial⟩ ⟨by dsimp only;omega,hx.trans xD,ys,by dsimp only;omega,hys⟩ (by dsimp only;omega)
    · exact Ad (i+1,vP) ⟨rfl,rfl,rfl,trivial⟩ ⟨by dsimp only;omega,hx,p,by dsimp only;omega,hP⟩ (by dsimp only;omega)
  · (repeat' (first|refine Sy ?_|refine Dy (fun hh=>?_) fun hh=>?_))
    all_goals (first|(exfalso;omega)|skip)
    exact A5 Z Z ⟨hx,p,by omega,hP⟩
theorem minus2_any (l m:List Spn) (u v:Value) (w:World) (hu:Sl w u l) (hv:Sl w v m) (hlen:l.length≤2) (hm20:m.length≤20):Calls Tryz.prog 205 #[u,v] w (Rt fun r w'=>Ext w w'∧∃ ys:List Spn,Sl w' r ys):=by
  refine A7 (n:=27) (args:=[u,v]) Tryz.func205 rfl Tryz.ntmps205 (by simp) ?_
  have hv0:=hv
  obtain⟨ap,cap,rfl,hc,hm,hp⟩:=hv.sl
  (repeat' (first|(refine A9 Z Z (A3 Z Z en227) (sunion_any l u _ hu (by omega)) (fun vD wD hD=>?_);obtain⟨xD,zs,hzl,hzs⟩:=hD)|refine Sy ?_))
  refine Ae (ι:=Nat × Value) (fun x=>[(1,.slice ap m.length cap),(5,x.2),(6,int x.1)])
    (fun x wr=>x.1≤m.length∧Ext w wr∧∃ p:List Spn,p.length≤2*2 ^ x.1∧Sl wr x.2 p) (fun x=>m.length-x.1) (0,_)
    ⟨rfl,rfl,rfl,trivial⟩ ⟨Nat.zero_le _,xD,zs,by simp;omega,hzs⟩ ?_
  rintro⟨i,vP⟩ wr ⟨hi,hx,p,hpl,hP⟩
  dsimp only at hi hx hpl hP ⊢
  have hpow:2 ^ i≤2 ^ 20:=Nat.pow_le_pow_right (by omega) (by omega)
  by_cases hlt:i<m.length
  · obtain⟨bl,off,rfl⟩:=hp (by omega)
    obtain⟨z,hz⟩:∃ z,m[i]?=some z:=⟨_,List.getElem?_eq_getElem hlt⟩
    have hat:=L9 (hv0.ext hx) hz
    have hps:2 ^ (i+1)=2*2 ^ i:=by rw [Nat.pow_succ];omega
    (repeat' (first|refine eV Z Z (A0 (m:=i) Z Z Z Z (by omega)) ?_|refine eV Z Z (Ab Z Z Z hat rfl) ?_|(refine A9 Z Z (A3 Z Z en204) (Gv _ _ _) (fun vC wC hC=>?_);obtain⟨⟨bb,rfl⟩,xC⟩:=hC;replace hat:=hat.ext xC;replace hx:=hx.trans xC;replace hP:=hP.ext xC)|(refine A9 Z Z (A3 Z Z en228) (without_any p vP _ _ _ hP (by omega)) (fun vE wE hE=>?_);obtain⟨xE,ys,hyl,hys⟩:=hE)|refine Sy ?_|refine Dy (fun hh=>?_) fun hh=>?_|(refine E_cond Z (fun hg=>?_) (fun hg=>?_) <;> subst hg)))
    all_goals (first|(exfalso;omega)|skip)
    · exact Ad (i+1,vE) ⟨rfl,rfl,rfl,trivial⟩ ⟨by dsimp only;omega,hx.trans xE,ys,by dsimp only;rw [hps];omega,hys⟩ (by dsimp only;omega)
    · exact Ad (i+1,vP) ⟨rfl,rfl,rfl,trivial⟩ ⟨by dsimp only;omega,hx,p,by dsimp only;rw [hps];omega,hP⟩ (by dsimp only;omega)
  · (repeat' (first|refine Sy ?_|refine Dy (fun hh=>?_) fun hh=>?_))
    all_goals (first|(exfalso;omega)|skip)
    exact A5 Z Z ⟨hx,p,hP⟩
theorem covers_any (m:List Spn) (v:Value) (a b:Int) (w:World) (hv:Sl w v m) (hm20:m.length≤20):Calls Tryz.prog 176 #[v,.agg #[int a,int b]] w (Rt fun r w'=>(∃ b,r=.bool b)∧Ext w w'):=by
  refine A7 (n:=15) (args:=[v,.agg #[int a,int b]]) Tryz.func176 rfl Tryz.ntmps176 (by simp) ?_
  refine Ac ?_
  refine A8 ?_
  refine Aj Z Z Z Z (fun bB wB xB hbB rB=>?_)
  replace hv:=hv.ext xB
  (repeat' (first|refine eV Z Z (Ab (cs:=[int a,int b]) Z Z Z rB.at rfl) ?_|(refine A9 Z Z (A3 Z Z en204) (Gv _ _ _) (fun vC wC hC=>?_);obtain⟨⟨bb,rfl⟩,xC⟩:=hC;cases bb <;>(replace rB:=rB.ext xC;replace hv:=hv.ext xC;replace xB:=xB.trans xC))|(refine A9 Z Z (A3 Z Z en205) (minus2_any [(⟨a,b⟩:Spn)] m _ v _ (Gb (css:=[ [int a,int b] ]) (cap:=1) rS (Hf _ [(⟨a,b⟩:Spn)]) (Nat.le_refl _) (by simp)) (hv.ext xS) (by simp) hm20) (fun vD wD hD=>?_);obtain⟨xD,ys,hys⟩:=hD;obtain⟨aY,cY,rfl,_⟩:=hys.sl)|refine Sy ?_|refine Dy (fun hh=>?_) fun hh=>?_|refine eL Z Z Z Z Z Z Z Z (fun bS wS xS hbS rS=>?_)))
  all_goals (first|(exfalso;omega)|skip)
  all_goals first
    | exact A5 Z Z ⟨⟨_,rfl⟩,xB⟩
    | exact A5 Z Z ⟨⟨_,rfl⟩,xB.trans (xS.trans xD)⟩
end
end Go.Proofs.YtjicdgejhkgpgaaGreatDoor