/-
  Own text of the proof.
-/
import Derived.Test.YtjicdgejhkgpgaaGreatDoorYi
import Derived.Test.YtjicdgejhkgpgaaGreatDoorYf
import Derived.Test.YtjicdgejhkgpgaaGreatDoorYg
import Derived.Test.YtjicdgejhkgpgaaGreatDoorYh
set_option linter.all false
set_option maxHeartbeats 4000000
set_option maxRecDepth 8000
namespace Go.Proofs.YtjicdgejhkgpgaaGreatDoor
section
open Go.RowKit Go.En Go.Pv
instance:Flat Sns:=⟨fun _ _ _ _ _ _ h=>h⟩
instance:Flat Lnk:=⟨fun _ _ _ _ _ _ h=>h⟩
instance:Flat Rf:=⟨fun _ _ _ _ _ _ h=>h⟩
instance:Flat Ph:=⟨fun _ _ _ _ _ _ h=>h⟩
instance:Flat Cls:=⟨fun _ _ _ _ _ _ h=>h⟩
instance:Flat Stp:=⟨fun _ _ _ _ _ _ h=>h⟩
def Gn (B bB bA:Nat):Nat→Prop:=fun b=>B≤b∧b≠bB∧b≠bA
attribute [local irreducible] E EL K Val Enters Rt Calls bodyPost Code.wp RQ
theorem ecopy51_any (e:En) (b0:e.form.length≤1000000) (b1:e.alts.length≤1000000) (b1':∀ f∈e.alts,f.length≤1000000) (b2:e.senses.length≤1000000) (b3:e.links.length≤1000000) (b4:e.refs.length≤1000000) (X:List Value) (w:World) (h:Rep.at_ Tt w e X) :
    Calls Tryz.prog 51 #[.agg X.toArray] w (Rt fun u w'=>Ext w w'∧∃ Y:List Value,u=.agg Y.toArray∧Rep.at_ (fun b=>w.heap.size≤b) w' e Y):=by
  obtain⟨a0,c0,a1,c1,a2,c2,a3,c3,a4,c4,rfl,h0,h1,h2,h3,h4⟩:=C6 h
  refine A7 (n:=46) (args:=[.agg #[int e.id,.slice a0 e.form.length c0,int e.cls,.slice a1 e.alts.length c1,int e.main,.slice a2 e.senses.length c2,.slice a3 e.links.length c3,.slice a4 e.refs.length c4] ]) Tryz.func51 rfl Tryz.ntmps51 (by simp) ?_
  refine Ac ?_
  refine A8 ?_
  refine Ao Z Z Z Z (fun bB wB xB hbB rB=>?_)
  refine Ap Z Z Z (fun bA wA xA hbA rA=>?_)
  have hBl:=rB.lt
  replace rB:=rB.ext xA
  have hX:=xB.trans xA
  have hwB:w.heap.size≤bB:=by omega
  have hwA:w.heap.size≤bA:=by have:=xB.size;omega
  have hBA:bB≠bA:=by omega
  have hBu:=rB.lt
  have hAu:=rA.lt
  replace h0:SlG (fun b=>b≠bB∧b≠bA) wA _ _:=h0.move fun b _ hb=>⟨⟨by omega,by omega⟩,hX.block hb⟩
  replace h1:SlG (fun b=>b≠bB∧b≠bA) wA _ _:=h1.move fun b _ hb=>⟨⟨by omega,by omega⟩,hX.block hb⟩
  replace h2:SlG (fun b=>b≠bB∧b≠bA) wA _ _:=h2.move fun b _ hb=>⟨⟨by omega,by omega⟩,hX.block hb⟩
  replace h3:SlG (fun b=>b≠bB∧b≠bA) wA _ _:=h3.move fun b _ hb=>⟨⟨by omega,by omega⟩,hX.block hb⟩
  replace h4:SlG (fun b=>b≠bB∧b≠bA) wA _ _:=h4.move fun b _ hb=>⟨⟨by omega,by omega⟩,hX.block hb⟩
  refine Kv ?_
  refine Ba ?_
  (repeat' ((fail_if_success (refine Ac (x:=(Code.region 2 _ _)) ?_));first|(refine eL Z Z Z Z Z Z Z Z (fun bS wS xS hbS rS=>?_);have rBS:=rB.ext xS)|(refine Gr (G':=Gn w.heap.size bB bA) h0 xS rS (by omega) (fun b hb=>⟨by omega,by omega,by omega⟩) Z Z Z Z Z Z Z (by omega) (fun vJ wJ sJ xJ=>?_);obtain⟨af,cf,rfl,_,_,_⟩:=sJ.sl)|(refine Ah (cs:=[_]) (rB.ext xJ) (hX.trans xJ) hwB rfl rfl rfl rfl rfl rfl rfl rfl (by simp) (fun uN rN xN kN=>?_))|refine Ly ?_))
  replace rB:Row uN bB 65 [int e.id,.slice af e.form.length cf,int e.cls,.slice a1 e.alts.length c1,int e.main,.slice a2 e.senses.length c2,.slice a3 e.links.length c3,.slice a4 e.refs.length c4]:=rN
  replace rA:=kN.row (rA.ext xJ) (fun e=>by cases e;omega)
  replace hX:=xN
  replace h1:=(h1.ext xJ).move (kN.mv fun b hb e=>by cases e;exact hb.1 rfl)
  replace h2:=(h2.ext xJ).move (kN.mv fun b hb e=>by cases e;exact hb.1 rfl)
  replace h3:=(h3.ext xJ).move (kN.mv fun b hb e=>by cases e;exact hb.1 rfl)
  replace h4:=(h4.ext xJ).move (kN.mv fun b hb e=>by cases e;exact hb.1 rfl)
  replace h0:=sJ.move (kN.mv fun b hb e=>by cases e;exact hb.2.1 rfl)
  have hBu:=rB.lt
  have hAu:=rA.lt
  clear rN
  have g1:SlG (fun b=>(b≠bB∧b≠bA)∧b<uN.heap.size) uN (.slice a1 e.alts.length c1) e.alts:=h1.move fun b hb hlt=>⟨⟨hb,hlt⟩,rfl⟩
  have g0:=g1
  obtain⟨_,_,ee,_,hm,hpp⟩:=g1.sl
  cases ee
  (repeat' (first|refine Sy ?_|refine eL Z Z Z Z Z Z Z Z (fun bS wS xS hbS rS=>?_)))
  refine Ae (ι:=Nat × Value) (fun z=>[(1,.pointer (some ⟨bB,0,none⟩)),(2,.pointer (some ⟨bA,0,none⟩)),(3,z.2),(4,int z.1)])
    (fun z wr=>z.1≤e.alts.length∧Grow (Gn w.heap.size bB bA) uN 32 (e.alts.take z.1) z.2 wr) (fun z=>e.alts.length-z.1) (0,.slice (some ⟨bS,0,none⟩) 0 0)
    ⟨rfl,rfl,rfl,rfl,trivial⟩ ⟨Nat.zero_le _,Grow.nil rS xS (by omega)⟩ ?_
  rintro⟨i,ov⟩ wr ⟨hi,hgr⟩
  dsimp only at hi hgr ⊢
  have rBr:=rB.ext hgr.x
  by_cases hlt:i<e.alts.length
  · obtain⟨b,off,rfl⟩:=hpp (by omega)
    obtain⟨f,hfi⟩:∃ f,e.alts[i]?=some f:=⟨_,List.getElem?_eq_getElem hlt⟩
    have htk:e.alts.take (i+1)=e.alts.take i++[f]:=by
      obtain⟨h1,h2⟩:=List.getElem?_eq_some_iff.1 hfi
      rw [List.take_succ_eq_append_getElem h1,h2]
    have hti:(e.alts.take i).length=i:=by rw [List.length_take];omega
    have hfl:=b1' f (List.mem_of_getElem? hfi)
    obtain⟨fa,fc,hatf0,hff⟩:=Dh (g0.ext hgr.x) hfi
    have hcf:=hatf0.one
    have hus:=hgr.x.size
    (repeat' (first|(refine Dv (x:=f) (hgr.ext (xJ.trans xS)) rS ⟨_,rfl,sJ.ext xS⟩ rfl rfl rfl rfl rfl rfl rfl (by omega) (by omega) (fun vK wK hK=>?_))|(refine Gr (G':=Gq (Gn w.heap.size bB bA) ov) hff xS rS (by omega) (fun b hb=>⟨⟨by omega,by omega,by omega⟩,hgr.nbn hb⟩) Z Z Z Z Z Z Z (by omega) (fun vJ wJ sJ xJ=>?_);obtain⟨aJ,cJ,rfl,_,_,_⟩:=sJ.sl)|(refine eL Z Z Z Z Z Z Z Z (fun bS wS xS hbS rS=>?_);have rBS:=rBr.ext xS;have hcS:=Ext.cell xS hcf)|refine eV Z Z (A0 (m:=i) Z Z Z (by first|rfl|omega) (by omega)) ?_|refine Ly ?_|refine Dy (fun hh=>?_) fun hh=>?_|refine eL Z Z Z Z Z Z Z Z (fun bS wS xS hbS rS=>?_)))
    all_goals (try (exfalso;omega))
    exact Ad (i+1,vK) ⟨rfl,rfl,rfl,rfl,trivial⟩ ⟨by dsimp only;omega,by dsimp only;rw [htk];exact hK⟩ (by dsimp only;omega)
  · obtain rfl:i=e.alts.length:=by omega
    rw [List.take_length] at hgr
    have hxr:=hgr.x
    have hor:SlG (Gn w.heap.size bB bA) wr ov e.alts:=hgr.sl (fun b hb=>⟨by omega,by omega,by omega⟩) (by omega)
    obtain⟨ao,co,rfl,_,_,_⟩:=hor.sl
    replace rB:=rB.ext hxr
    replace rA:=rA.ext hxr
    replace hX:=hX.trans hxr
    replace h0:=h0.ext hxr
    replace h2:=h2.ext hxr
    replace h3:=h3.ext hxr
    replace h4:=h4.ext hxr
    (repeat' ((fail_if_success (refine Ac (x:=(Code.region 8 _ _)) ?_));first|(refine Ah (cs:=[_]) rB hX hwB rfl rfl rfl rfl rfl rfl rfl rfl (by simp) (fun uN rN xN kN=>?_))|refine Ly ?_|refine Dy (fun hh=>?_) fun hh=>?_|refine eL Z Z Z Z Z Z Z Z (fun bS wS xS hbS rS=>?_)))
    all_goals (try (exfalso;omega))
    replace rB:Row uN bB 65 [int e.id,.slice af e.form.length cf,int e.cls,.slice ao e.alts.length co,int e.main,.slice a2 e.senses.length c2,.slice a3 e.links.length c3,.slice a4 e.refs.length c4]:=rN
    replace rA:=kN.row rA (fun e=>by cases e;omega)
    replace hX:=xN
    replace h0:=h0.move (kN.mv fun b hb e=>by cases e;exact hb.2.1 rfl)
    replace h2:=h2.move (kN.mv fun b hb e=>by cases e;exact hb.1 rfl)
    replace h3:=h3.move (kN.mv fun b hb e=>by cases e;exact hb.1 rfl)
    replace h4:=h4.move (kN.mv fun b hb e=>by cases e;exact hb.1 rfl)
    replace hor:=hor.move (kN.mv fun b hb e=>by cases e;exact hb.2.1 rfl)
    have hBu:=rB.lt
    have hAu:=rA.lt
    clear rN hgr
    (repeat' ((fail_if_success (refine Ac (x:=(Code.region 9 _ _)) ?_));first|(refine eL Z Z Z Z Z Z Z Z (fun bS wS xS hbS rS=>?_);have rBS:=rB.ext xS)|(refine Gr (G':=Gn w.heap.size bB bA) h2 xS rS (by omega) (fun b hb=>⟨by omega,by omega,by omega⟩) Z Z Z Z Z Z Z (by omega) (fun vJ wJ sJ xJ=>?_);obtain⟨aq,cq,rfl,_,_,_⟩:=sJ.sl)|(refine Ah (cs:=[_]) (rB.ext xJ) (hX.trans xJ) hwB rfl rfl rfl rfl rfl rfl rfl rfl (by simp) (fun uN rN xN kN=>?_))|refine Ly ?_))
    replace rB:Row uN bB 65 [int e.id,.slice af e.form.length cf,int e.cls,.slice ao e.alts.length co,int e.main,.slice aq e.senses.length cq,.slice a3 e.links.length c3,.slice a4 e.refs.length c4]:=rN
    replace rA:=kN.row (rA.ext xJ) (fun e=>by cases e;omega)
    replace hX:=xN
    replace h0:=(h0.ext xJ).move (kN.mv fun b hb e=>by cases e;exact hb.2.1 rfl)
    replace hor:=(hor.ext xJ).move (kN.mv fun b hb e=>by cases e;exact hb.2.1 rfl)
    replace h3:=(h3.ext xJ).move (kN.mv fun b hb e=>by cases e;exact hb.1 rfl)
    replace h4:=(h4.ext xJ).move (kN.mv fun b hb e=>by cases e;exact hb.1 rfl)
    replace h2:=sJ.move (kN.mv fun b hb e=>by cases e;exact hb.2.1 rfl)
    have hBu:=rB.lt
    have hAu:=rA.lt
    clear rN
    (repeat' ((fail_if_success (refine Ac (x:=(Code.region 10 _ _)) ?_));first|(refine eL Z Z Z Z Z Z Z Z (fun bS wS xS hbS rS=>?_);have rBS:=rB.ext xS)|(refine Gr (G':=Gn w.heap.size bB bA) h3 xS rS (by omega) (fun b hb=>⟨by omega,by omega,by omega⟩) Z Z Z Z Z Z Z (by omega) (fun vJ wJ sJ xJ=>?_);obtain⟨al,cl,rfl,_,_,_⟩:=sJ.sl)|(refine Ah (cs:=[_]) (rB.ext xJ) (hX.trans xJ) hwB rfl rfl rfl rfl rfl rfl rfl rfl (by simp) (fun uN rN xN kN=>?_))|refine Ly ?_))
    replace rB:Row uN bB 65 [int e.id,.slice af e.form.length cf,int e.cls,.slice ao e.alts.length co,int e.main,.slice aq e.senses.length cq,.slice al e.links.length cl,.slice a4 e.refs.length c4]:=rN
    replace rA:=kN.row (rA.ext xJ) (fun e=>by cases e;omega)
    replace hX:=xN
    replace h0:=(h0.ext xJ).move (kN.mv fun b hb e=>by cases e;exact hb.2.1 rfl)
    replace hor:=(hor.ext xJ).move (kN.mv fun b hb e=>by cases e;exact hb.2.1 rfl)
    replace h2:=(h2.ext xJ).move (kN.mv fun b hb e=>by cases e;exact hb.2.1 rfl)
    replace h4:=(h4.ext xJ).move (kN.mv fun b hb e=>by cases e;exact hb.1 rfl)
    replace h3:=sJ.move (kN.mv fun b hb e=>by cases e;exact hb.2.1 rfl)
    have hBu:=rB.lt
    have hAu:=rA.lt
    clear rN
    (repeat' ((fail_if_success (refine Ac (x:=(Code.region 11 _ _)) ?_));first|(refine eL Z Z Z Z Z Z Z Z (fun bS wS xS hbS rS=>?_);have rBS:=rB.ext xS)|(refine Gr (G':=Gn w.heap.size bB bA) h4 xS rS (by omega) (fun b hb=>⟨by omega,by omega,by omega⟩) Z Z Z Z Z Z Z (by omega) (fun vJ wJ sJ xJ=>?_);obtain⟨ar,cr,rfl,_,_,_⟩:=sJ.sl)|(refine Ah (cs:=[_]) (rB.ext xJ) (hX.trans xJ) hwB rfl rfl rfl rfl rfl rfl rfl rfl (by simp) (fun uN rN xN kN=>?_))|refine Ly ?_))
    replace rB:Row uN bB 65 [int e.id,.slice af e.form.length cf,int e.cls,.slice ao e.alts.length co,int e.main,.slice aq e.senses.length cq,.slice al e.links.length cl,.slice ar e.refs.length cr]:=rN
    replace rA:=kN.row (rA.ext xJ) (fun e=>by cases e;omega)
    replace hX:=xN
    replace h0:=(h0.ext xJ).move (kN.mv fun b hb e=>by cases e;exact hb.2.1 rfl)
    replace hor:=(hor.ext xJ).move (kN.mv fun b hb e=>by cases e;exact hb.2.1 rfl)
    replace h2:=(h2.ext xJ).move (kN.mv fun b hb e=>by cases e;exact hb.2.1 rfl)
    replace h3:=(h3.ext xJ).move (kN.mv fun b hb e=>by cases e;exact hb.2.1 rfl)
    replace h4:=sJ.move (kN.mv fun b hb e=>by cases e;exact hb.2.1 rfl)
    have hBu:=rB.lt
    have hAu:=rA.lt
    clear rN
    (repeat' (first|(refine Ah (cs:=[int e.id,.slice af e.form.length cf,int e.cls,.slice ao e.alts.length co,int e.main,.slice aq e.senses.length cq,.slice al e.links.length cl,.slice ar e.refs.length cr]) rA hX hwA rfl rfl rfl rfl rfl rfl rfl rfl (Nat.le_refl _) (fun w9 r9 x9 k9=>?_))|refine Ly ?_))
    have mv:∀ b,Gn w.heap.size bB bA b→b<_→w.heap.size≤b∧_:=fun b hb hlt=>⟨hb.1,(k9.mv (G:=Gn w.heap.size bB bA) (fun b hb e=>by cases e;exact hb.2.2 rfl) b hb hlt).2⟩
    exact ret_c Z Z Z r9.at rfl ⟨x9,_,rfl,_,_,_,_,_,rfl,h0.move mv,hor.move mv,h2.move mv,h3.move mv,h4.move mv⟩
end
section
open Go.RowKit Go.En Go.Pv
instance:Rep Dc where
  sz:=7
  pos:=by decide
  at_ G w d cs:=∃ sv tv nv,cs=[int d.rid,str d.rname,int d.len,int d.day,sv,tv,nv]∧SlG G w sv d.sp∧SlG G w tv d.tiers∧SlG G w nv d.notes
  len h:=by obtain⟨sv,tv,nv,rfl,_⟩:=h;rfl
  one h:=by obtain⟨sv,tv,nv,rfl,⟨_,_,rfl,_⟩,⟨_,_,rfl,_⟩,⟨_,_,rfl,_⟩⟩:=h;rfl
  move h hm:=by obtain⟨sv,tv,nv,rfl,h1,h2,h3⟩:=h;exact⟨sv,tv,nv,rfl,h1.move hm,h2.move hm,h3.move hm⟩
theorem Dq {G:Nat→Prop} {w:World} {b off n cap:Nat} {xs:List Dc} (h:SlG G w (.slice (some ⟨b,off,none⟩) n cap) xs) {i:Nat} {d:Dc} (hx:xs[i]?=some d) :
    ∃ a1 c1 a2 c2 a3 c3,At w b (off+i*7) [int d.rid,str d.rname,int d.len,int d.day,.slice a1 d.sp.length c1,.slice a2 d.tiers.length c2,.slice a3 d.notes.length c3]∧Rep.at_ G w d [int d.rid,str d.rname,int d.len,int d.day,.slice a1 d.sp.length c1,.slice a2 d.tiers.length c2,.slice a3 d.notes.length c3]:=by
  obtain⟨cs,⟨sv,tv,nv,rfl,h1,h2,h3⟩,hat⟩:=h.elem hx
  obtain⟨a1,c1,rfl,_⟩:=h1.sl
  obtain⟨a2,c2,rfl,_⟩:=h2.sl
  obtain⟨a3,c3,rfl,_⟩:=h3.sl
  exact⟨a1,c1,a2,c2,a3,c3,hat,_,_,_,rfl,h1,h2,h3⟩
theorem dc_at {G:Nat→Prop} {w:World} {d:Dc} {X:List Value} (h:Rep.at_ G w d X):DcAt w (.agg X.toArray) d:=by
  obtain⟨sv,tv,nv,rfl,h1,h2,h3⟩:=h
  exact⟨sv,tv,nv,rfl,h1.any,h2.any,h3.any⟩
instance:Flat Tier:=⟨fun _ _ _ _ _ _ h=>h⟩
instance:Flat Note:=⟨fun _ _ _ _ _ _ h=>h⟩
attribute [local irreducible] E EL K Val Enters Rt Calls bodyPost Code.wp RQ
theorem dcopy50_any (d:Dc) (b0:d.sp.length≤1000000) (b1:d.tiers.length≤1000000) (b2:d.notes.length≤1000000) (X:List Value) (w:World) (h:Rep.at_ Tt w d X) :
    Calls Tryz.prog 50 #[.agg X.toArray] w (Rt fun u w'=>Ext w w'∧∃ Y:List Value,u=.agg Y.toArray∧Rep.at_ (fun b=>w.heap.size≤b) w' d Y):=by
  obtain⟨sv,tv,nv,rfl,h0,h1,h2⟩:=h
  obtain⟨a0,c0,rfl,_⟩:=h0.sl
  obtain⟨a1,c1,rfl,_⟩:=h1.sl
  obtain⟨a2,c2,rfl,_⟩:=h2.sl
  refine A7 (n:=21) (args:=[.agg #[int d.rid,str d.rname,int d.len,int d.day,.slice a0 d.sp.length c0,.slice a1 d.tiers.length c1,.slice a2 d.notes.length c2] ]) Tryz.func50 rfl Tryz.ntmps50 (by simp) ?_
  refine Ac ?_
  refine A8 ?_
  refine Ao Z Z Z Z (fun bB wB xB hbB rB=>?_)
  refine Ap Z Z Z (fun bA wA xA hbA rA=>?_)
  have hBl:=rB.lt
  replace rB:=rB.ext xA
  have hX:=xB.trans xA
  have hwB:w.heap.size≤bB:=by omega
  have hwA:w.heap.size≤bA:=by have:=xB.size;omega
  have hBA:bB≠bA:=by omega
  have hBu:=rB.lt
  have hAu:=rA.lt
  replace h0:SlG (fun b=>b≠bB∧b≠bA) wA _ _:=h0.move fun b _ hb=>⟨⟨by omega,by omega⟩,hX.block hb⟩
  replace h1:SlG (fun b=>b≠bB∧b≠bA) wA _ _:=h1.move fun b _ hb=>⟨⟨by omega,by omega⟩,hX.block hb⟩
  replace h2:SlG (fun b=>b≠bB∧b≠bA) wA _ _:=h2.move fun b _ hb=>⟨⟨by omega,by omega⟩,hX.block hb⟩
  refine Kv ?_
  refine Ba ?_
  (repeat' ((fail_if_success (refine Ac (x:=(Code.region 2 _ _)) ?_));first|(refine eL Z Z Z Z Z Z Z Z (fun bS wS xS hbS rS=>?_);have rBS:=rB.ext xS)|(refine Gr (G':=Gn w.heap.size bB bA) h0 xS rS (by omega) (fun b hb=>⟨by omega,by omega,by omega⟩) Z Z Z Z Z Z Z (by omega) (fun vJ wJ sJ xJ=>?_);obtain⟨af,cf,rfl,_,_,_⟩:=sJ.sl)|(refine Ah (cs:=[_]) (rB.ext xJ) (hX.trans xJ) hwB rfl rfl rfl rfl rfl rfl rfl rfl (by simp) (fun uN rN xN kN=>?_))|refine Ly ?_))
  replace rB:Row uN bB 72 [int d.rid,str d.rname,int d.len,int d.day,.slice af d.sp.length cf,.slice a1 d.tiers.length c1,.slice a2 d.notes.length c2]:=rN
  replace rA:=kN.row (rA.ext xJ) (fun e=>by cases e;omega)
  replace hX:=xN
  replace h1:=(h1.ext xJ).move (kN.mv fun b hb e=>by cases e;exact hb.1 rfl)
  replace h2:=(h2.ext xJ).move (kN.mv fun b hb e=>by cases e;exact hb.1 rfl)
  replace h0:=sJ.move (kN.mv fun b hb e=>by cases e;exact hb.2.1 rfl)
  have hBu:=rB.lt
  have hAu:=rA.lt
  clear rN
  (repeat' ((fail_if_success (refine Ac (x:=(Code.region 3 _ _)) ?_));first|(refine eL Z Z Z Z Z Z Z Z (fun bS wS xS hbS rS=>?_);have rBS:=rB.ext xS)|(refine Gr (G':=Gn w.heap.size bB bA) h1 xS rS (by omega) (fun b hb=>⟨by omega,by omega,by omega⟩) Z Z Z Z Z Z Z (by omega) (fun vJ wJ sJ xJ=>?_);obtain⟨ak,ck,rfl,_,_,_⟩:=sJ.sl)|(refine Ah (cs:=[_]) (rB.ext xJ) (hX.trans xJ) hwB rfl rfl rfl rfl rfl rfl rfl rfl (by simp) (fun uN rN xN kN=>?_))|refine Ly ?_))
  replace rB:Row uN bB 72 [int d.rid,str d.rname,int d.len,int d.day,.slice af d.sp.length cf,.slice ak d.tiers.length ck,.slice a2 d.notes.length c2]:=rN
  replace rA:=kN.row (rA.ext xJ) (fun e=>by cases e;omega)
  replace hX:=xN
  replace h0:=(h0.ext xJ).move (kN.mv fun b hb e=>by cases e;exact hb.2.1 rfl)
  replace h2:=(h2.ext xJ).move (kN.mv fun b hb e=>by cases e;exact hb.1 rfl)
  replace h1:=sJ.move (kN.mv fun b hb e=>by cases e;exact hb.2.1 rfl)
  have hBu:=rB.lt
  have hAu:=rA.lt
  clear rN
  (repeat' ((fail_if_success (refine Ac (x:=(Code.region 4 _ _)) ?_));first|(refine eL Z Z Z Z Z Z Z Z (fun bS wS xS hbS rS=>?_);have rBS:=rB.ext xS)|(refine Gr (G':=Gn w.heap.size bB bA) h2 xS rS (by omega) (fun b hb=>⟨by omega,by omega,by omega⟩) Z Z Z Z Z Z Z (by omega) (fun vJ wJ sJ xJ=>?_);obtain⟨an,cn,rfl,_,_,_⟩:=sJ.sl)|(refine Ah (cs:=[_]) (rB.ext xJ) (hX.trans xJ) hwB rfl rfl rfl rfl rfl rfl rfl rfl (by simp) (fun uN rN xN kN=>?_))|refine Ly ?_))
  replace rB:Row uN bB 72 [int d.rid,str d.rname,int d.len,int d.day,.slice af d.sp.length cf,.slice ak d.tiers.length ck,.slice an d.notes.length cn]:=rN
  replace rA:=kN.row (rA.ext xJ) (fun e=>by cases e;omega)
  replace hX:=xN
  replace h0:=(h0.ext xJ).move (kN.mv fun b hb e=>by cases e;exact hb.2.1 rfl)
  replace h1:=(h1.ext xJ).move (kN.mv fun b hb e=>by cases e;exact hb.2.1 rfl)
  replace h2:=sJ.move (kN.mv fun b hb e=>by cases e;exact hb.2.1 rfl)
  have hBu:=rB.lt
  have hAu:=rA.lt
  clear rN
  (repeat' (first|(refine Ah (cs:=[int d.rid,str d.rname,int d.len,int d.day,.slice af d.sp.length cf,.slice ak d.tiers.length ck,.slice an d.notes.length cn]) rA hX hwA rfl rfl rfl rfl rfl rfl rfl rfl (Nat.le_refl _) (fun w9 r9 x9 k9=>?_))|refine Ly ?_))
  have mv:∀ b,Gn w.heap.size bB bA b→b<_→w.heap.size≤b∧_:=fun b hb hlt=>⟨hb.1,(k9.mv (G:=Gn w.heap.size bB bA) (fun b hb e=>by cases e;exact hb.2.2 rfl) b hb hlt).2⟩
  exact ret_c Z Z Z r9.at rfl ⟨x9,_,rfl,_,_,_,rfl,h0.move mv,h1.move mv,h2.move mv⟩
theorem dscopy15_any (ds:List Dc) (hl:ds.length≤1000000) (hb:∀ d∈ds,d.sp.length≤1000000∧d.tiers.length≤1000000∧d.notes.length≤1000000) (v:Value) (w:World) (hv:Sl w v ds):Calls Tryz.prog 15 #[v] w (Rt fun u w'=>Ext w w'∧SlG (fun b=>w.heap.size≤b) w' u ds):=by
  have hv0:=hv
  obtain⟨a,c,rfl,_,hm,hpp⟩:=hv.sl
  refine A7 (n:=21) (args:=[.slice a ds.length c]) Tryz.func15 rfl Tryz.ntmps15 (by simp) ?_
  (repeat' (first|refine Sy ?_|refine eL Z Z Z Z Z Z Z Z (fun bS wS xS hbS rS=>?_)))
  refine Ae (ι:=Nat × Value) (fun z=>[(0,.slice a ds.length c),(3,z.2),(4,int z.1)]) (fun z wr=>z.1≤ds.length∧Grow (fun b=>w.heap.size≤b) w 72 (ds.take z.1) z.2 wr) (fun z=>ds.length-z.1) (0,.slice (some ⟨bS,0,none⟩) 0 0)
    ⟨rfl,rfl,rfl,trivial⟩ ⟨Nat.zero_le _,Grow.nil rS xS (by omega)⟩ ?_
  rintro⟨i,ov⟩ wr ⟨hi,hgr⟩
  dsimp only at hi hgr ⊢
  by_cases hlt:i<ds.length
  · obtain⟨b,off,rfl⟩:=hpp (by omega)
    obtain⟨d,hdi⟩:∃ d,ds[i]?=some d:=⟨_,List.getElem?_eq_getElem hlt⟩
    have htk:ds.take (i+1)=ds.take i++[d]:=by
      obtain⟨h1,h2⟩:=List.getElem?_eq_some_iff.1 hdi
      rw [List.take_succ_eq_append_getElem h1,h2]
    have hti:(ds.take i).length=i:=by rw [List.length_take];omega
    obtain⟨q1,q2,q3⟩:=hb d (List.mem_of_getElem? hdi)
    obtain⟨a1,c1,a2,c2,a3,c3,hat,hrep⟩:=Dq (hv0.ext hgr.x) hdi
    have hus:=hgr.x.size
    (repeat' (first|refine eV Z Z (A0 (m:=i) Z Z Z (by first|rfl|omega) (by omega)) ?_|(refine A9 Z Z (A3 Z Z en50) (dcopy50_any d q1 q2 q3 _ _ hrep) (fun vC wC hC=>?_);obtain⟨xC,Y,rfl,hY⟩:=hC;have hY2:Rep.at_ (Gq (fun b=>w.heap.size≤b) ov) wC d Y:=Rep.move hY (fun b hb _=>⟨⟨by omega,hgr.nbn hb⟩,rfl⟩);obtain⟨_,_,_,rfl,_⟩:=hY)|(refine Dv (x:=d) (hgr.ext (xC.trans xS)) rS (Rep.move hY2 xS.mv) Z Z Z Z Z Z Z (by omega) (by omega) (fun vK wK hK=>?_))|refine Ly ?_|refine Dy (fun hh=>?_) fun hh=>?_|refine eL Z Z Z Z Z Z Z Z (fun bS wS xS hbS rS=>?_)))
    all_goals (try (exfalso;omega))
    exact Ad (i+1,vK) ⟨rfl,rfl,rfl,trivial⟩ ⟨by dsimp only;omega,by dsimp only;rw [htk];exact hK⟩ (by dsimp only;omega)
  · obtain rfl:i=ds.length:=by omega
    rw [List.take_length] at hgr
    (repeat' (first|refine Sy ?_|refine Dy (fun hh=>?_) fun hh=>?_))
    all_goals (try (exfalso;omega))
    exact A5 Z Z ⟨hgr.x,hgr.sl (fun b hb=>hb) hm⟩
end
section
open Go.RowKit Go.En Go.Pv
theorem Fs {lex:List En} {id:Int} {e:En} (h:getE lex id=some e):∃ i,lex[i]?=some e∧e.id=id∧∀(j:Nat) (x:En),j<i→lex[j]?=some x→x.id≠id:=by
  unfold getE at h
  obtain⟨h1,i,hi,he,hall⟩:=List.find?_eq_some_iff_getElem.1 h
  refine⟨i,?_,by simpa using h1,fun j x hj hx=>?_⟩
  · rw [List.getElem?_eq_getElem hi,he]
  · obtain⟨hj',rfl⟩:=List.getElem?_eq_some_iff.1 hx
    simpa using hall j hj
theorem getE_none {lex:List En} {id:Int} (h:getE lex id=none):∀ x∈lex,x.id≠id:=by
  unfold getE at h
  rw [List.find?_eq_none] at h
  intro x hx;simpa using h x hx
def zeroE:List Value:=[int 0,.slice none 0 0,int 0,.slice none 0 0,int 0,.slice none 0 0,.slice none 0 0,.slice none 0 0]
attribute [local irreducible] E EL K Val Enters Rt Calls bodyPost Code.wp RQ
theorem Gh {lex:List En} {id:Int} {e:En} (hg:getE lex id=some e) (ev:Value) (w:World) (hv:Sl w ev lex) :
    ∃ X:List Value,Rep.at_ Tt w e X∧X.length=8∧∀ w',Ext w w'→Calls Tryz.prog 53 #[ev,int id] w' (Rt fun u w2=>u=.tuple #[.agg X.toArray,.bool true]∧Ext w' w2):=by
  obtain⟨k,hk,hid,hlow⟩:=Fs hg
  have hkl:=(List.getElem?_eq_some_iff.1 hk).1
  have hv0:=hv
  obtain⟨a,cap,rfl,hc,hm,hp⟩:=hv.sl
  obtain⟨b,off,rfl⟩:=hp (by omega)
  obtain⟨a0,c0,a1,c1,a2,c2,a3,c3,a4,c4,hat,hrep,_⟩:=B3 hv0 hk
  refine⟨_,hrep,rfl,fun w' xw=>?_⟩
  refine A7 (n:=25) (args:=[.slice (some ⟨b,off,none⟩) lex.length cap,int id]) Tryz.func53 rfl Tryz.ntmps53 (by simp) ?_
  refine Ac ?_
  refine A8 ?_
  refine Ap Z Z Z (fun bA wA xA hbA rA0=>?_)
  have hwB:w'.heap.size≤bA:=by omega
  (repeat' (first|refine Sy ?_))
  refine Ae (ι:=Nat) (fun i=>[(0,.slice (some ⟨b,off,none⟩) lex.length cap),(1,int id),(4,.pointer (some ⟨bA,0,none⟩)),(8,int lex.length),(9,int i)])
    (fun i wr=>i≤k∧Ext wA wr) (fun i=>k-i) 0
    ⟨rfl,rfl,rfl,rfl,rfl,trivial⟩ ⟨Nat.zero_le _,Ext.refl _⟩ ?_
  rintro i wr ⟨hi,hx⟩
  have hX:=xw.trans (xA.trans hx)
  by_cases e0:i=k
  · subst e0
    have hat':=hat.ext hX
    (repeat' (first|refine eV Z Z (A0 (m:=i) Z Z Z Z hkl) ?_|refine Ly ?_|refine Dy (fun hh=>?_) fun hh=>?_))
    all_goals (try (exfalso;omega))
    refine Ah (cs:=[_,_,_,_,_,_,_,_]) (rA0.ext hx) (xA.trans hx) hwB rfl rfl rfl rfl rfl rfl rfl rfl (Nat.le_refl _) (fun w9 r9 x9 k9=>?_)
    (repeat' (first|refine Sy ?_))
    exact Co Z Z Z r9.at rfl rfl ⟨rfl,x9⟩
  · obtain⟨x,hx1⟩:∃ x,lex[i]?=some x:=⟨_,List.getElem?_eq_getElem (by omega)⟩
    have hne:=hlow i x (by omega) hx1
    obtain⟨d0,f0,d1,f1,d2,f2,d3,f3,d4,f4,hat2,_⟩:=B3 (hv0.ext hX) hx1
    (repeat' (first|refine eV Z Z (A0 (m:=i) Z Z Z Z (by omega)) ?_|refine Ly ?_|refine Dy (fun hh=>?_) fun hh=>?_))
    all_goals (try (exfalso;omega))
    exact Ad (i+1) ⟨rfl,rfl,rfl,rfl,rfl,trivial⟩ ⟨by omega,hx⟩ (by omega)
theorem Gi {lex:List En} {id:Int} (hg:getE lex id=none) (ev:Value) (w:World) (hv:Sl w ev lex):Calls Tryz.prog 53 #[ev,int id] w (Rt fun u w2=>u=.tuple #[.agg zeroE.toArray,.bool false]∧Ext w w2):=by
  have hall:=getE_none hg
  have hv0:=hv
  obtain⟨a,cap,rfl,hc,hm,hp⟩:=hv.sl
  refine A7 (n:=25) (args:=[.slice a lex.length cap,int id]) Tryz.func53 rfl Tryz.ntmps53 (by simp) ?_
  refine Ac ?_
  refine A8 ?_
  refine Ap Z Z Z (fun bA wA xA hbA rA0=>?_)
  have hwB:w.heap.size≤bA:=by omega
  (repeat' (first|refine Sy ?_))
  refine Ae (ι:=Nat) (fun i=>[(0,.slice a lex.length cap),(1,int id),(4,.pointer (some ⟨bA,0,none⟩)),(8,int lex.length),(9,int i)])
    (fun i wr=>i≤lex.length∧Ext wA wr) (fun i=>lex.length-i) 0
    ⟨rfl,rfl,rfl,rfl,rfl,trivial⟩ ⟨Nat.zero_le _,Ext.refl _⟩ ?_
  rintro i wr ⟨hi,hx⟩
  have hX:=xA.trans hx
  by_cases hlt:i<lex.length
  · obtain⟨b,off,rfl⟩:=hp (by omega)
    obtain⟨x,hx1⟩:∃ x,lex[i]?=some x:=⟨_,List.getElem?_eq_getElem (by omega)⟩
    have hne:=hall x (List.mem_of_getElem? hx1)
    obtain⟨d0,f0,d1,f1,d2,f2,d3,f3,d4,f4,hat2,_⟩:=B3 (hv0.ext hX) hx1
    (repeat' (first|refine eV Z Z (A0 (m:=i) Z Z Z Z (by omega)) ?_|refine Ly ?_|refine Dy (fun hh=>?_) fun hh=>?_))
    all_goals (try (exfalso;omega))
    exact Ad (i+1) ⟨rfl,rfl,rfl,rfl,rfl,trivial⟩ ⟨by omega,hx⟩ (by omega)
  · (repeat' (first|refine eV Z Z (Af (vs:=[]) zeroE rfl rfl rfl) ?_|refine Sy ?_|refine Dy (fun hh=>?_) fun hh=>?_))
    all_goals (try (exfalso;omega))
    refine Ah (cs:=zeroE) (rA0.ext hx) (xA.trans hx) hwB rfl rfl rfl rfl rfl rfl rfl rfl (Nat.le_refl _) (fun w9 r9 x9 k9=>?_)
    (repeat' (first|refine Sy ?_))
    exact Co Z Z Z r9.at rfl rfl ⟨rfl,x9⟩
theorem I4 (e:En) (X:List Value) (w:World) (h:Rep.at_ Tt w e X) (hl:e.alts.length≤1000000):Calls Tryz.prog 165 #[.agg X.toArray] w (Rt fun u w'=>Ext w w'∧Sl w' u (Ai e)):=by
  obtain⟨fv,av,sv,lv,rv,rfl,hf,ha,_,_,_⟩:=h
  have hf0:=hf
  obtain⟨fa,fc,rfl,_,_,_⟩:=hf.sl
  have ha0:=ha
  obtain⟨aa,ac,rfl,_,_,_⟩:=ha.sl
  obtain⟨ss,s1,s2⟩:=ha0.css
  have fs:ss.flatten.length=e.alts.length*1:=AtsG.flat s1
  refine A7 (n:=9) (args:=[.agg #[int e.id,.slice fa e.form.length fc,int e.cls,.slice aa e.alts.length ac,int e.main,sv,lv,rv] ]) Tryz.func165 rfl Tryz.ntmps165 (by simp) ?_
  refine Ac ?_
  refine A8 ?_
  refine Aj Z Z Z Z (fun bX wX xX hbX rX0=>?_)
  have rX:Row wX bX 65 [int e.id,.slice fa e.form.length fc,int e.cls,.slice aa e.alts.length ac,int e.main,sv,lv,rv]:=rX0
  clear rX0
  (repeat' (first|(refine eL Z Z Z Z Z Z Z Z (fun bS wS xS hbS rS=>?_);replace rX:=rX.ext xS)|refine Ly ?_))
  have rS':Row wS bS 32 [.slice fa e.form.length fc]:=rS
  refine Ay (w0:=wX) (news:=ss.flatten) (Cq (n:=1) (size:=1) rS' rfl (by omega) (by omega)) xS (fun h0=>?_) Z Z Z Z Z fs (AtsG.ones s1) Z Z (by omega) (by omega) (fun vJ wJ oJ xJ kJ hJ=>?_)
  · obtain⟨b,so,e,_,hat⟩:=s2 (by omega)
    exact⟨b,so,e,hat.ext (xX.trans xS)⟩
  (repeat' (first|refine Sy ?_))
  refine A5 Z Z ⟨xX.trans xJ,?_⟩
  have hat:AtsG Tt wJ (Ai e) ([.slice fa e.form.length fc]::ss):=⟨⟨_,rfl,hf0.ext (xX.trans xJ)⟩,AtsG.ext s1 (xX.trans xJ)⟩
  exact Ce (xs:=Ai e) (css:=[.slice fa e.form.length fc]::ss) (show wJ.ownsRow wX.heap.size 32 1 vJ (1+e.alts.length) (([.slice fa e.form.length fc]::ss).flatten) from oJ) hat (by simp [Ai];omega) (by simp [Ai];omega)
theorem J6 (e:En) (X:List Value) (alt:Int) (w:World) (h:Rep.at_ Tt w e X) (hl:e.alts.length≤1000000):Calls Tryz.prog 198 #[.agg X.toArray,int alt] w (Rt fun u w'=>u=.bool (decide (0≤alt∧alt<((Ai e).length:Int)))∧Ext w w'):=by
  have h0:=h
  have hX8:=Rep.len h
  obtain⟨fv,av,sv,lv,rv,rfl,hf,ha,_,_,_⟩:=h
  refine A7 (n:=14) (args:=[.agg #[int e.id,fv,int e.cls,av,int e.main,sv,lv,rv],int alt]) Tryz.func198 rfl Tryz.ntmps198 (by simp) ?_
  refine Ac ?_
  refine A8 ?_
  refine Aj Z Z Z Z (fun bX wX xX hbX rX0=>?_)
  have rX:Row wX bX 65 [int e.id,fv,int e.cls,av,int e.main,sv,lv,rv]:=rX0
  clear rX0
  (repeat' (first|(refine A9 Z Z (A3 Z Z en165) (I4 e _ wX (Rep.move h0 xX.mv) hl) (fun vC wC hC=>?_);obtain⟨xC,hS⟩:=hC;obtain⟨sa,sc,rfl,_,_,_⟩:=hS.sl)|refine Ly ?_|refine Dy (fun hh=>?_) fun hh=>?_))
  all_goals (try (exfalso;omega))
  all_goals first
    | exact A5 Z Z ⟨by congr 1;first|exact(decide_eq_true (by omega)).symm|exact(decide_eq_false (by omega)).symm,xX.trans xC⟩
    | exact A5 Z Z ⟨by congr 1;exact(decide_eq_false (by omega)).symm,xX⟩
end
end Go.Proofs.YtjicdgejhkgpgaaGreatDoor