/-
  Own text of the proof.
-/
import Derived.Test.YtjicdgejhkgpgaaGreatDoorYh
import Derived.Test.YtjicdgejhkgpgaaGreatDoorYd
import Derived.Test.YtjicdgejhkgpgaaGreatDoorYe
import Derived.Test.YtjicdgejhkgpgaaGreatDoorYf
import Derived.Test.YtjicdgejhkgpgaaGreatDoorYg
set_option linter.all false
set_option maxHeartbeats 4000000
set_option maxRecDepth 8000
namespace Go.Proofs.YtjicdgejhkgpgaaGreatDoor
section
open Go.RowKit Go.En Go.Pv
instance:Rep Dc where
  sz:=7
  pos:=by decide
  at_ G w d cs:=∃ sv tv nv,cs=[int d.rid,str d.rname,int d.len,int d.day,sv,tv,nv]∧SlG G w sv d.sp∧SlG G w tv d.tiers∧SlG G w nv d.notes
  len h:=by obtain⟨sv,tv,nv,rfl,_⟩:=h;rfl
  one h:=by obtain⟨sv,tv,nv,rfl,⟨_,_,rfl,_⟩,⟨_,_,rfl,_⟩,⟨_,_,rfl,_⟩⟩:=h;rfl
  move h hm:=by obtain⟨sv,tv,nv,rfl,h1,h2,h3⟩:=h;exact⟨sv,tv,nv,rfl,h1.move hm,h2.move hm,h3.move hm⟩
theorem Q9 {G:Nat→Prop} {w:World} {b off n cap:Nat} {xs:List Dc} (h:SlG G w (.slice (some ⟨b,off,none⟩) n cap) xs) {i:Nat} {d:Dc} (hx:xs[i]?=some d) :
    ∃ a1 c1 a2 c2 a3 c3,At w b (off+i*7) [int d.rid,str d.rname,int d.len,int d.day,.slice a1 d.sp.length c1,.slice a2 d.tiers.length c2,.slice a3 d.notes.length c3]∧Rep.at_ G w d [int d.rid,str d.rname,int d.len,int d.day,.slice a1 d.sp.length c1,.slice a2 d.tiers.length c2,.slice a3 d.notes.length c3]:=by
  obtain⟨cs,⟨sv,tv,nv,rfl,h1,h2,h3⟩,hat⟩:=h.elem hx
  obtain⟨a1,c1,rfl,_⟩:=h1.sl
  obtain⟨a2,c2,rfl,_⟩:=h2.sl
  obtain⟨a3,c3,rfl,_⟩:=h3.sl
  exact⟨a1,c1,a2,c2,a3,c3,hat,_,_,_,rfl,h1,h2,h3⟩
theorem C5z {G:Nat→Prop} {w:World} {d:Dc} {X:List Value} (h:Rep.at_ G w d X):DcAt w (.agg X.toArray) d:=by
  obtain⟨sv,tv,nv,rfl,h1,h2,h3⟩:=h
  exact⟨sv,tv,nv,rfl,h1.any,h2.any,h3.any⟩
instance:Flat Tier:=⟨fun _ _ _ _ _ _ h=>h⟩
instance:Flat Note:=⟨fun _ _ _ _ _ _ h=>h⟩
attribute [local irreducible] E EL K Val Enters Rt Calls bodyPost Code.wp RQ
theorem B5o (d:Dc) (b0:d.sp.length≤1000000) (b1:d.tiers.length≤1000000) (b2:d.notes.length≤1000000) (X:List Value) (w:World) (h:Rep.at_ Tt w d X) :
    Calls Tryz.prog 50 #[.agg X.toArray] w (Rt fun u w'=>Ext w w'∧∃ Y:List Value,u=.agg Y.toArray∧Rep.at_ (fun b=>w.heap.size≤b) w' d Y):=by
  obtain⟨sv,tv,nv,rfl,h0,h1,h2⟩:=h
  obtain⟨a0,c0,rfl,_⟩:=h0.sl
  obtain⟨a1,c1,rfl,_⟩:=h1.sl
  obtain⟨a2,c2,rfl,_⟩:=h2.sl
  refine A6 (n:=21) (args:=[.agg #[int d.rid,str d.rname,int d.len,int d.day,.slice a0 d.sp.length c0,.slice a1 d.tiers.length c1,.slice a2 d.notes.length c2] ]) Tryz.func50 rfl Tryz.ntmps50 (by simp) ?_
  refine B4 ?_
  refine A9 ?_
  refine C2 Z Z Z Z (fun bB wB xB hbB rB=>?_)
  refine C3 Z Z Z (fun bA wA xA hbA rA=>?_)
  have hBl:=rB.lt
  replace rB:=rB.ext xA
  have hX:=xB.trans xA
  have hwB:w.heap.size≤bB:=by omega
  have hwA:w.heap.size≤bA:=by have:=xB.size;omega
  have hBA:bB≠bA:=by omega
  have hBu:=rB.lt
  have hAu:=rA.lt
  replace h0:SlG (fun b=>b≠bB∧b≠bA) wA _ _:=h0.move fun b _ hb=>⟨⟨by omega,by omega⟩,hX.block hb⟩
  replace h1:SlG (fun b=>b≠bB∧b≠bA) wA _ _:=h1.move fun b _ hb=>⟨⟨by omega,by omega⟩,hX.block hb⟩
  replace h2:SlG (fun b=>b≠bB∧b≠bA) wA _ _:=h2.move fun b _ hb=>⟨⟨by omega,by omega⟩,hX.block hb⟩
  refine A2b ?_
  refine G8 ?_
  (repeat' ((fail_if_success (refine B4 (x:=(Code.region 2 _ _)) ?_));first|(refine eL Z Z Z Z Z Z Z Z (fun bS wS xS hbS rS=>?_);have rBS:=rB.ext xS)|(refine S7 (G':=Gn w.heap.size bB bA) h0 xS rS (by omega) (fun b hb=>⟨by omega,by omega,by omega⟩) Z Z Z Z Z Z Z (by omega) (fun vJ wJ sJ xJ=>?_);obtain⟨af,cf,rfl,_,_,_⟩:=sJ.sl)|(refine B7 (cs:=[_]) (rB.ext xJ) (hX.trans xJ) hwB rfl rfl rfl rfl rfl rfl rfl rfl (by simp) (fun uN rN xN kN=>?_))|refine Ly ?_))
  replace rB:Row uN bB 72 [int d.rid,str d.rname,int d.len,int d.day,.slice af d.sp.length cf,.slice a1 d.tiers.length c1,.slice a2 d.notes.length c2]:=rN
  replace rA:=kN.row (rA.ext xJ) (fun e=>by cases e;omega)
  replace hX:=xN
  replace h1:=(h1.ext xJ).move (kN.mv fun b hb e=>by cases e;exact hb.1 rfl)
  replace h2:=(h2.ext xJ).move (kN.mv fun b hb e=>by cases e;exact hb.1 rfl)
  replace h0:=sJ.move (kN.mv fun b hb e=>by cases e;exact hb.2.1 rfl)
  have hBu:=rB.lt
  have hAu:=rA.lt
  clear rN
  (repeat' ((fail_if_success (refine B4 (x:=(Code.region 3 _ _)) ?_));first|(refine eL Z Z Z Z Z Z Z Z (fun bS wS xS hbS rS=>?_);have rBS:=rB.ext xS)|(refine S7 (G':=Gn w.heap.size bB bA) h1 xS rS (by omega) (fun b hb=>⟨by omega,by omega,by omega⟩) Z Z Z Z Z Z Z (by omega) (fun vJ wJ sJ xJ=>?_);obtain⟨ak,ck,rfl,_,_,_⟩:=sJ.sl)|(refine B7 (cs:=[_]) (rB.ext xJ) (hX.trans xJ) hwB rfl rfl rfl rfl rfl rfl rfl rfl (by simp) (fun uN rN xN kN=>?_))|refine Ly ?_))
  replace rB:Row uN bB 72 [int d.rid,str d.rname,int d.len,int d.day,.slice af d.sp.length cf,.slice ak d.tiers.length ck,.slice a2 d.notes.length c2]:=rN
  replace rA:=kN.row (rA.ext xJ) (fun e=>by cases e;omega)
  replace hX:=xN
  replace h0:=(h0.ext xJ).move (kN.mv fun b hb e=>by cases e;exact hb.2.1 rfl)
  replace h2:=(h2.ext xJ).move (kN.mv fun b hb e=>by cases e;exact hb.1 rfl)
  replace h1:=sJ.move (kN.mv fun b hb e=>by cases e;exact hb.2.1 rfl)
  have hBu:=rB.lt
  have hAu:=rA.lt
  clear rN
  (repeat' ((fail_if_success (refine B4 (x:=(Code.region 4 _ _)) ?_));first|(refine eL Z Z Z Z Z Z Z Z (fun bS wS xS hbS rS=>?_);have rBS:=rB.ext xS)|(refine S7 (G':=Gn w.heap.size bB bA) h2 xS rS (by omega) (fun b hb=>⟨by omega,by omega,by omega⟩) Z Z Z Z Z Z Z (by omega) (fun vJ wJ sJ xJ=>?_);obtain⟨an,cn,rfl,_,_,_⟩:=sJ.sl)|(refine B7 (cs:=[_]) (rB.ext xJ) (hX.trans xJ) hwB rfl rfl rfl rfl rfl rfl rfl rfl (by simp) (fun uN rN xN kN=>?_))|refine Ly ?_))
  replace rB:Row uN bB 72 [int d.rid,str d.rname,int d.len,int d.day,.slice af d.sp.length cf,.slice ak d.tiers.length ck,.slice an d.notes.length cn]:=rN
  replace rA:=kN.row (rA.ext xJ) (fun e=>by cases e;omega)
  replace hX:=xN
  replace h0:=(h0.ext xJ).move (kN.mv fun b hb e=>by cases e;exact hb.2.1 rfl)
  replace h1:=(h1.ext xJ).move (kN.mv fun b hb e=>by cases e;exact hb.2.1 rfl)
  replace h2:=sJ.move (kN.mv fun b hb e=>by cases e;exact hb.2.1 rfl)
  have hBu:=rB.lt
  have hAu:=rA.lt
  clear rN
  (repeat' (first|(refine B7 (cs:=[int d.rid,str d.rname,int d.len,int d.day,.slice af d.sp.length cf,.slice ak d.tiers.length ck,.slice an d.notes.length cn]) rA hX hwA rfl rfl rfl rfl rfl rfl rfl rfl (Nat.le_refl _) (fun w9 r9 x9 k9=>?_))|refine Ly ?_))
  have mv:∀ b,Gn w.heap.size bB bA b→b<_→w.heap.size≤b∧_:=fun b hb hlt=>⟨hb.1,(k9.mv (G:=Gn w.heap.size bB bA) (fun b hb e=>by cases e;exact hb.2.2 rfl) b hb hlt).2⟩
  exact A9m Z Z Z r9.at rfl ⟨x9,_,rfl,_,_,_,rfl,h0.move mv,h1.move mv,h2.move mv⟩
theorem A2z (ds:List Dc) (hl:ds.length≤1000000) (hb:∀ d∈ds,d.sp.length≤1000000∧d.tiers.length≤1000000∧d.notes.length≤1000000) (v:Value) (w:World) (hv:Sl w v ds):Calls Tryz.prog 15 #[v] w (Rt fun u w'=>Grow (fun b=>w.heap.size≤b) w 72 ds u w'):=by
  have hv0:=hv
  obtain⟨a,c,rfl,_,hm,hpp⟩:=hv.sl
  refine A6 (n:=21) (args:=[.slice a ds.length c]) Tryz.func15 rfl Tryz.ntmps15 (by simp) ?_
  (repeat' (first|refine Sy ?_|refine eL Z Z Z Z Z Z Z Z (fun bS wS xS hbS rS=>?_)))
  refine B0 (ι:=Nat × Value) (fun z=>[(0,.slice a ds.length c),(3,z.2),(4,int z.1)]) (fun z wr=>z.1≤ds.length∧Grow (fun b=>w.heap.size≤b) w 72 (ds.take z.1) z.2 wr) (fun z=>ds.length-z.1) (0,.slice (some ⟨bS,0,none⟩) 0 0)
    ⟨rfl,rfl,rfl,trivial⟩ ⟨Nat.zero_le _,Grow.nil rS xS (by omega)⟩ ?_
  rintro⟨i,ov⟩ wr ⟨hi,hgr⟩
  dsimp only at hi hgr ⊢
  by_cases hlt:i<ds.length
  · obtain⟨b,off,rfl⟩:=hpp (by omega)
    obtain⟨d,hdi⟩:∃ d,ds[i]?=some d:=⟨_,List.getElem?_eq_getElem hlt⟩
    have htk:ds.take (i+1)=ds.take i++[d]:=by
      obtain⟨h1,h2⟩:=List.getElem?_eq_some_iff.1 hdi
      rw [List.take_succ_eq_append_getElem h1,h2]
    have hti:(ds.take i).length=i:=by rw [List.length_take];omega
    obtain⟨q1,q2,q3⟩:=hb d (List.mem_of_getElem? hdi)
    obtain⟨a1,c1,a2,c2,a3,c3,hat,hrep⟩:=Q9 (hv0.ext hgr.x) hdi
    have hus:=hgr.x.size
    (repeat' (first|refine eV Z Z (A0 (m:=i) Z Z Z (by first|rfl|omega) (by omega)) ?_|(refine A8 Z Z (A5 Z Z en50) (B5o d q1 q2 q3 _ _ hrep) (fun vC wC hC=>?_);obtain⟨xC,Y,rfl,hY⟩:=hC;have hY2:Rep.at_ (Gq (fun b=>w.heap.size≤b) ov) wC d Y:=Rep.move hY (fun b hb _=>⟨⟨by omega,hgr.nbn hb⟩,rfl⟩);obtain⟨_,_,_,rfl,_⟩:=hY)|(refine M1 (x:=d) (hgr.ext (xC.trans xS)) rS (Rep.move hY2 xS.mv) Z Z Z Z Z Z Z (by omega) (by omega) (fun vK wK hK=>?_))|refine Ly ?_|refine Dy (fun hh=>?_) fun hh=>?_|refine eL Z Z Z Z Z Z Z Z (fun bS wS xS hbS rS=>?_)))
    all_goals (try (exfalso;omega))
    exact B3 (i+1,vK) ⟨rfl,rfl,rfl,trivial⟩ ⟨by dsimp only;omega,by dsimp only;rw [htk];exact hK⟩ (by dsimp only;omega)
  · obtain rfl:i=ds.length:=by omega
    rw [List.take_length] at hgr
    (repeat' (first|refine Sy ?_|refine Dy (fun hh=>?_) fun hh=>?_))
    all_goals (try (exfalso;omega))
    exact A4 Z Z hgr
theorem Y9 (ds:List Dc) (hl:ds.length≤1000000) (hb:∀ d∈ds,d.sp.length≤1000000∧d.tiers.length≤1000000∧d.notes.length≤1000000) (v:Value) (w:World) (hv:Sl w v ds):Calls Tryz.prog 15 #[v] w (Rt fun u w'=>Ext w w'∧SlG (fun b=>w.heap.size≤b) w' u ds):=
  C0 (A2z ds hl hb v w hv) (fun _ _ h=>⟨h.x,h.sl (fun b hb=>hb) (by omega)⟩)
end
section
open Go.RowKit Go.En Go.Pv
theorem C0m {lex:List En} {id:Int} {e:En} (h:getE lex id=some e):∃ i,lex[i]?=some e∧e.id=id∧∀(j:Nat) (x:En),j<i→lex[j]?=some x→x.id≠id:=by
  unfold getE at h
  obtain⟨h1,i,hi,he,hall⟩:=List.find?_eq_some_iff_getElem.1 h
  refine⟨i,?_,by simpa using h1,fun j x hj hx=>?_⟩
  · rw [List.getElem?_eq_getElem hi,he]
  · obtain⟨hj',rfl⟩:=List.getElem?_eq_some_iff.1 hx
    simpa using hall j hj
theorem A9w {lex:List En} {id:Int} (h:getE lex id=none):∀ x∈lex,x.id≠id:=by
  unfold getE at h
  rw [List.find?_eq_none] at h
  intro x hx;simpa using h x hx
def zeroE:List Value:=[int 0,.slice none 0 0,int 0,.slice none 0 0,int 0,.slice none 0 0,.slice none 0 0,.slice none 0 0]
attribute [local irreducible] E EL K Val Enters Rt Calls bodyPost Code.wp RQ
theorem B8d {lex:List En} {id:Int} {e:En} (hg:getE lex id=some e) (ev:Value) (w:World) (hv:Sl w ev lex) :
    ∃ X:List Value,Rep.at_ Tt w e X∧X.length=8∧∀ w',Ext w w'→Calls Tryz.prog 53 #[ev,int id] w' (Rt fun u w2=>u=.tuple #[.agg X.toArray,.bool true]∧Ext w' w2):=by
  obtain⟨k,hk,hid,hlow⟩:=C0m hg
  have hkl:=(List.getElem?_eq_some_iff.1 hk).1
  have hv0:=hv
  obtain⟨a,cap,rfl,hc,hm,hp⟩:=hv.sl
  obtain⟨b,off,rfl⟩:=hp (by omega)
  obtain⟨a0,c0,a1,c1,a2,c2,a3,c3,a4,c4,hat,hrep,_⟩:=D3 hv0 hk
  refine⟨_,hrep,rfl,fun w' xw=>?_⟩
  refine A6 (n:=25) (args:=[.slice (some ⟨b,off,none⟩) lex.length cap,int id]) Tryz.func53 rfl Tryz.ntmps53 (by simp) ?_
  refine B4 ?_
  refine A9 ?_
  refine C3 Z Z Z (fun bA wA xA hbA rA0=>?_)
  have hwB:w'.heap.size≤bA:=by omega
  (repeat' (first|refine Sy ?_))
  refine B0 (ι:=Nat) (fun i=>[(0,.slice (some ⟨b,off,none⟩) lex.length cap),(1,int id),(4,.pointer (some ⟨bA,0,none⟩)),(8,int lex.length),(9,int i)])
    (fun i wr=>i≤k∧Ext wA wr) (fun i=>k-i) 0
    ⟨rfl,rfl,rfl,rfl,rfl,trivial⟩ ⟨Nat.zero_le _,Ext.refl _⟩ ?_
  rintro i wr ⟨hi,hx⟩
  have hX:=xw.trans (xA.trans hx)
  by_cases e0:i=k
  · subst e0
    have hat':=hat.ext hX
    (repeat' (first|refine eV Z Z (A0 (m:=i) Z Z Z Z hkl) ?_|refine Ly ?_|refine Dy (fun hh=>?_) fun hh=>?_))
    all_goals (try (exfalso;omega))
    refine B7 (cs:=[_,_,_,_,_,_,_,_]) (rA0.ext hx) (xA.trans hx) hwB rfl rfl rfl rfl rfl rfl rfl rfl (Nat.le_refl _) (fun w9 r9 x9 k9=>?_)
    (repeat' (first|refine Sy ?_))
    exact M4 Z Z Z r9.at rfl rfl ⟨rfl,x9⟩
  · obtain⟨x,hx1⟩:∃ x,lex[i]?=some x:=⟨_,List.getElem?_eq_getElem (by omega)⟩
    have hne:=hlow i x (by omega) hx1
    obtain⟨d0,f0,d1,f1,d2,f2,d3,f3,d4,f4,hat2,_⟩:=D3 (hv0.ext hX) hx1
    (repeat' (first|refine eV Z Z (A0 (m:=i) Z Z Z Z (by omega)) ?_|refine Ly ?_|refine Dy (fun hh=>?_) fun hh=>?_))
    all_goals (try (exfalso;omega))
    exact B3 (i+1) ⟨rfl,rfl,rfl,rfl,rfl,trivial⟩ ⟨by omega,hx⟩ (by omega)
theorem B8e {lex:List En} {id:Int} (hg:getE lex id=none) (ev:Value) (w:World) (hv:Sl w ev lex):Calls Tryz.prog 53 #[ev,int id] w (Rt fun u w2=>u=.tuple #[.agg zeroE.toArray,.bool false]∧Ext w w2):=by
  have hall:=A9w hg
  have hv0:=hv
  obtain⟨a,cap,rfl,hc,hm,hp⟩:=hv.sl
  refine A6 (n:=25) (args:=[.slice a lex.length cap,int id]) Tryz.func53 rfl Tryz.ntmps53 (by simp) ?_
  refine B4 ?_
  refine A9 ?_
  refine C3 Z Z Z (fun bA wA xA hbA rA0=>?_)
  have hwB:w.heap.size≤bA:=by omega
  (repeat' (first|refine Sy ?_))
  refine B0 (ι:=Nat) (fun i=>[(0,.slice a lex.length cap),(1,int id),(4,.pointer (some ⟨bA,0,none⟩)),(8,int lex.length),(9,int i)])
    (fun i wr=>i≤lex.length∧Ext wA wr) (fun i=>lex.length-i) 0
    ⟨rfl,rfl,rfl,rfl,rfl,trivial⟩ ⟨Nat.zero_le _,Ext.refl _⟩ ?_
  rintro i wr ⟨hi,hx⟩
  have hX:=xA.trans hx
  by_cases hlt:i<lex.length
  · obtain⟨b,off,rfl⟩:=hp (by omega)
    obtain⟨x,hx1⟩:∃ x,lex[i]?=some x:=⟨_,List.getElem?_eq_getElem (by omega)⟩
    have hne:=hall x (List.mem_of_getElem? hx1)
    obtain⟨d0,f0,d1,f1,d2,f2,d3,f3,d4,f4,hat2,_⟩:=D3 (hv0.ext hX) hx1
    (repeat' (first|refine eV Z Z (A0 (m:=i) Z Z Z Z (by omega)) ?_|refine Ly ?_|refine Dy (fun hh=>?_) fun hh=>?_))
    all_goals (try (exfalso;omega))
    exact B3 (i+1) ⟨rfl,rfl,rfl,rfl,rfl,trivial⟩ ⟨by omega,hx⟩ (by omega)
  · (repeat' (first|refine eV Z Z (B6 (vs:=[]) zeroE rfl rfl rfl) ?_|refine Sy ?_|refine Dy (fun hh=>?_) fun hh=>?_))
    all_goals (try (exfalso;omega))
    refine B7 (cs:=zeroE) (rA0.ext hx) (xA.trans hx) hwB rfl rfl rfl rfl rfl rfl rfl rfl (Nat.le_refl _) (fun w9 r9 x9 k9=>?_)
    (repeat' (first|refine Sy ?_))
    exact M4 Z Z Z r9.at rfl rfl ⟨rfl,x9⟩
end
section
open Go.RowKit Go.En Go.Pv
def idxE (lex:List En) (id:Int):Int:=match lex.findIdx? (fun e=>e.id==id) with|some i=>(i:Int)|none => -1
theorem A0o {lex:List En} {id:Int} {e:En} (h:getE lex id=some e):∃ i:Nat,idxE lex id=(i:Int)∧lex[i]?=some e:=by
  obtain⟨i,hi,he,hall⟩:=C0m h
  refine⟨i,?_,hi⟩
  unfold idxE
  obtain⟨hl,hx⟩:=List.getElem?_eq_some_iff.1 hi
  have:lex.findIdx? (fun e=>e.id==id)=some i:=by
    rw [List.findIdx?_eq_some_iff_getElem]
    refine⟨hl,by rw [hx];simpa using he,fun j hj=>?_⟩
    have:=hall j _ hj (List.getElem?_eq_getElem (by omega))
    simpa using this
  rw [this]
theorem P5 {lex:List En} {id:Int} (h:getE lex id=none):idxE lex id = -1:=by
  unfold idxE
  have:lex.findIdx? (fun e=>e.id==id)=none:=by
    rw [List.findIdx?_eq_none_iff]
    intro x hx
    simpa using A9w h x hx
  rw [this]
def wayL (lex : List En) : Nat → Int → List Int
  | 0,_=>[]
  | k+1,id=>match getE lex id with
    | none=>[]
    | some e=>e.id::(if e.main=0 then [] else wayL lex k e.main)
attribute [local irreducible] E EL K Val Enters Rt Calls bodyPost Code.wp RQ
theorem A0r (lex : List En) (id : Int) (ev : Value) (w : World) (hv : Sl w ev lex) : Calls Tryz.prog 160 #[ev, int id] w (Rt fun u w' => u = int (idxE lex id) ∧ Ext w w') := by
  have hv0:=hv
  obtain⟨a,cap,rfl,hc,hm,hp⟩:=hv.sl
  refine A6 (n:=20) (args:=[.slice a lex.length cap,int id]) Tryz.func160 rfl Tryz.ntmps160 (by simp) ?_
  (repeat' (first|refine Sy ?_))
  refine B0 (ι:=Nat) (fun i=>[(0,.slice a lex.length cap),(1,int id),(5,int i)])
    (fun i wr=>i≤lex.length∧Ext w wr∧∀(j:Nat) (x:En),j<i→lex[j]?=some x→x.id≠id) (fun i=>lex.length-i) 0
    ⟨rfl,rfl,rfl,trivial⟩ ⟨Nat.zero_le _,Ext.refl _,fun j x hj=>absurd hj (by omega)⟩ ?_
  rintro i wr ⟨hi,hx,hall⟩
  by_cases hlt:i<lex.length
  · obtain⟨b,off,rfl⟩:=hp (by omega)
    obtain⟨x,hx1⟩:∃ x,lex[i]?=some x:=⟨_,List.getElem?_eq_getElem (by omega)⟩
    obtain⟨d0,f0,d1,f1,d2,f2,d3,f3,d4,f4,hat2,_⟩:=D3 (hv0.ext hx) hx1
    (repeat' (first|refine eV Z Z (A0 (m:=i) Z Z Z Z (by omega)) ?_|refine Ly ?_|refine Dy (fun hh=>?_) fun hh=>?_))
    all_goals (try (exfalso;omega))
    · have:idxE lex id=(i:Int):=by
        unfold idxE
        obtain⟨hl,he⟩:=List.getElem?_eq_some_iff.1 hx1
        have:lex.findIdx? (fun e=>e.id==id)=some i:=by
          rw [List.findIdx?_eq_some_iff_getElem]
          refine⟨hl,by rw [he];simpa using hh,fun j hj=>?_⟩
          have:=hall j _ hj (List.getElem?_eq_getElem (by omega))
          simpa using this
        rw [this]
      exact A4 Z Z ⟨by rw [this],hx⟩
    · have hne:¬ x.id=id:=hh
      refine B3 (i+1) ⟨rfl,rfl,rfl,trivial⟩ ⟨by omega,hx,fun j y hj hy=>?_⟩ (by omega)
      by_cases e:j=i
      · subst e;rw [hx1] at hy;cases hy;exact hne
      · exact hall j y (by omega) hy
  · have:idxE lex id = -1:=P5 (by
      unfold getE
      rw [List.find?_eq_none]
      intro x hx
      obtain⟨j,hj⟩:=List.getElem?_of_mem hx
      have:=hall j x (by have:=(List.getElem?_eq_some_iff.1 hj).1;omega) hj
      simpa using this)
    (repeat' (first|refine Sy ?_|refine Dy (fun hh=>?_) fun hh=>?_))
    all_goals (try (exfalso;omega))
    exact A4 Z Z ⟨by rw [this],hx⟩
theorem B6g (lex:List En) (id:Int) (ev:Value) (w:World) (hv:Sl w ev lex) (hl:lex.length≤1000000):Calls Tryz.prog 161 #[ev,int id] w (Rt fun u w'=>Ext w w'∧Sl w' u (wayL lex (lex.length+1) id)):=by
  have hv0:=hv
  obtain⟨a,cap,rfl,hc,hm,hp⟩:=hv.sl
  refine A6 (n:=42) (args:=[.slice a lex.length cap,int id]) Tryz.func161 rfl Tryz.ntmps161 (by simp) ?_
  (repeat' (first|(refine cqC (A0r lex id _ _ (hv0.ext xS)) C5t fun wC xC=>?_)|refine Sy ?_|refine eL Z Z Z Z Z Z Z Z (fun bS wS xS hbS rS=>?_)))
  refine B0 (ι:=Value × List Int × Int) (fun z=>[(0,.slice a lex.length cap),(5,z.1),(6,int (idxE lex z.2.2))])
    (fun z wr=>Ext w wr∧wr.ownsRow w.heap.size 3 1 z.1 z.2.1.length (z.2.1.map int)∧z.2.1.length≤lex.length+1∧wayL lex (lex.length+1) id=z.2.1++wayL lex (lex.length+1-z.2.1.length) z.2.2) (fun z=>lex.length+1-z.2.1.length) (_,[],id)
    ⟨rfl,rfl,rfl,trivial⟩ ⟨xS.trans xC,C7 (K9 (n:=0) (size:=1) rS rfl (by omega) (by omega)) xC,Nat.zero_le _,rfl⟩ ?_
  rintro⟨vO,o,q⟩ wr ⟨hx,hown,hol,hway⟩
  dsimp only at hx hown hol hway ⊢
  cases hq:getE lex q with
  | none=>
    rw [P5 hq]
    have h0:wayL lex (lex.length+1-o.length) q=[]:=by
      cases lex.length+1-o.length with
      | zero=>rfl
      | succ k=>rw [wayL,hq]
    rw [h0,List.append_nil] at hway
    (repeat' (first|refine Sy ?_|refine Dy (fun hh=>?_) fun hh=>?_))
    all_goals (try (exfalso;omega))
    rw [hway]
    exact A4 Z Z ⟨hx,N4 (css:=o.map fun z=>[int z]) (by rw [D8];exact hown) (H1 _ _) Z (by omega)⟩
  | some e=>
    obtain⟨k,hk,hke⟩:=A0o hq
    rw [hk]
    have hkl:=(List.getElem?_eq_some_iff.1 hke).1
    obtain⟨b,off,rfl⟩:=hp (by omega)
    obtain⟨va,vc,hvo⟩:∃ va vc,vO=.slice va o.length vc:=by
      rcases W0 hown with⟨h1,h2,_⟩|⟨b,cap,h1,_⟩
      · exact⟨none,0,by rw [h1,h2]⟩
      · exact⟨_,_,h1⟩
    subst hvo
    by_cases hfull:o.length=lex.length+1
    · have h0:wayL lex (lex.length+1-o.length) q=[]:=by rw [hfull,Nat.sub_self];rfl
      rw [h0,List.append_nil] at hway
      (repeat' (first|refine Sy ?_|refine Dy (fun hh=>?_) fun hh=>?_))
      all_goals (try (exfalso;omega))
      rw [hway]
      exact A4 Z Z ⟨hx,N4 (css:=o.map fun z=>[int z]) (by rw [D8];exact hown) (H1 _ _) Z (by omega)⟩
    · obtain⟨m,hm1⟩:∃ m,lex.length+1-o.length=m+1:=⟨lex.length-o.length,by omega⟩
      have hw1:wayL lex (m+1) q=e.id::(if e.main=0 then [] else wayL lex m e.main):=by rw [wayL,hq]
      rw [hm1,hw1] at hway
      obtain⟨d0,f0,d1,f1,d2,f2,d3,f3,d4,f4,hat2,_⟩:=D3 (hv0.ext hx) hke
      (repeat' (first|refine eV Z Z (A0 (m:=k) Z Z Z Z (by omega)) ?_|(refine eL Z Z Z Z Z Z Z Z (fun bS wS xS hbS rS=>?_))|(refine D5 (news:=[int e.id]) (C7 hown xS) (hx.trans xS) (fun _=>⟨_,_,rfl,rS.at⟩) Z Z Z Z Z Z Z Z Z (by omega) (by omega) (fun vJ wJ oJ xJ kJ hJ=>?_);obtain⟨d0',f0',d1',f1',d2',f2',d3',f3',d4',f4',hat3,_⟩:=D3 (hv0.ext xJ) hke)|(refine cqC (A0r lex e.main _ _ (hv0.ext xJ)) C5t fun wC xC=>?_)|refine Ly ?_|refine Dy (fun hh=>?_) fun hh=>?_))
      all_goals (try (exfalso;omega))
      · rw [if_pos (by assumption)] at hway
        rw [hway]
        exact A4 Z Z ⟨xJ,N4 (css:=(o++[e.id]).map fun z=>[int z]) (by rw [D8,List.map_append];exact oJ) (H1 _ _) (by simp) (by simp;omega)⟩
      · rw [if_neg (by assumption)] at hway
        refine B3 (vJ,o++[e.id],e.main) ⟨rfl,rfl,rfl,trivial⟩ ⟨xJ.trans xC,?_,?_,?_⟩ ?_
        · dsimp only
          have:=C7 oJ xC
          simpa using this
        · dsimp only;rw [List.length_append];simp;omega
        · dsimp only
          rw [hway,show lex.length+1-(o++[e.id]).length=m by rw [List.length_append];simp;omega]
          simp
        · dsimp only;rw [List.length_append];simp;omega
end
end Go.Proofs.YtjicdgejhkgpgaaGreatDoor