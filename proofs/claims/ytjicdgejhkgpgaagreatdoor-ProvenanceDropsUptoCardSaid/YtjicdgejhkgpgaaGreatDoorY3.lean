/-
  Own text of the proof.
-/
import Derived.Test.YtjicdgejhkgpgaaGreatDoorY2
import Derived.Test.YtjicdgejhkgpgaaGreatDoorYq
import Derived.Test.YtjicdgejhkgpgaaGreatDoorY1
import Derived.Test.YtjicdgejhkgpgaaGreatDoorYl
set_option linter.all false
set_option maxHeartbeats 8000000
set_option maxRecDepth 8000
namespace Go.Proofs.YtjicdgejhkgpgaaGreatDoor
section
open Go.RowKit Go.En Go.Pv
attribute [local irreducible] E EL K Val Enters Rt Calls bodyPost Code.wp RQ
theorem B8i (e:En) (X:List Value) (id:Int) (bI:Nat) (w:World) (h:Rep.at_ Tt w e X) (hI:w.cell? ⟨bI,0,none⟩=some (int id)):Calls Tryz.prog 89 #[.agg X.toArray,.pointer (some ⟨bI,0,none⟩)] w (Rt fun u w'=>u=.bool (decide (e.id=id))∧Ext w w'):=by
  obtain⟨a0,c0,a1,c1,a2,c2,a3,c3,a4,c4,rfl,_⟩:=K4 h
  refine A6 (n:=8) (args:=[.agg #[int e.id,.slice a0 e.form.length c0,int e.cls,.slice a1 e.alts.length c1,int e.main,.slice a2 e.senses.length c2,.slice a3 e.links.length c3,.slice a4 e.refs.length c4],.pointer (some ⟨bI,0,none⟩)]) Tryz.func89 rfl Tryz.ntmps89 (by simp) ?_
  have hX:=Ext.refl w
  have hcI:=hI
  by_cases he:e.id=id
  · rw [decide_eq_true he]
    (repeat' (first|(refine C2 Z Z Z Z (fun bX wX xX hbX rX=>?_);replace hX:=hX.trans xX;replace hcI:=Ext.cell xX hcI)|refine Ly ?_|refine Dy (fun hh=>?_) fun hh=>?_))
    all_goals (try (exfalso;omega))
    all_goals first
      | exact A4 Z Z ⟨rfl,hX⟩
      | exact absurd he (by assumption)
  · rw [decide_eq_false he]
    (repeat' (first|(refine C2 Z Z Z Z (fun bX wX xX hbX rX=>?_);replace hX:=hX.trans xX;replace hcI:=Ext.cell xX hcI)|refine Ly ?_|refine Dy (fun hh=>?_) fun hh=>?_))
    all_goals (try (exfalso;omega))
    all_goals first
      | exact A4 Z Z ⟨rfl,hX⟩
      | exact absurd (by assumption) he
theorem C5g {lex:List En} {id:Int} {i:Nat} {x:En} (hx:lex[i]?=some x) (he:x.id=id) (hall:∀(j:Nat) (y:En),j<i→lex[j]?=some y→y.id≠id):idxE lex id=(i:Int):=by
  unfold idxE
  obtain⟨hl,he2⟩:=List.getElem?_eq_some_iff.1 hx
  have:lex.findIdx? (fun e=>e.id==id)=some i:=by
    rw [List.findIdx?_eq_some_iff_getElem]
    refine⟨hl,by rw [he2];simpa using he,fun j hj=>?_⟩
    have:=hall j _ hj (List.getElem?_eq_getElem (by omega))
    simpa using this
  rw [this]
theorem idx_not {lex:List En} {id:Int} (hall:∀(j:Nat) (y:En),j<lex.length→lex[j]?=some y→y.id≠id):idxE lex id = -1:=P5 (by
  unfold getE
  rw [List.find?_eq_none]
  intro x hx
  obtain⟨j,hj⟩:=List.getElem?_of_mem hx
  have:=hall j x (List.getElem?_eq_some_iff.1 hj).1 hj
  simpa using this)
theorem A4u (lex:List En) (id:Int) (bI:Nat) (v:Value) (w:World) (hv:Sl w v lex) (hI:w.cell? ⟨bI,0,none⟩=some (int id)):Calls Tryz.prog 88 #[v,.func (.func 89) #[] #[.pointer (some ⟨bI,0,none⟩)] ] w (Rt fun u w'=>u=int (idxE lex id)∧Ext w w'):=by
  have hv0:=hv
  have hcI:=hI
  obtain⟨a,cap,rfl,hc,hm,hp⟩:=hv.sl
  refine A6 (n:=19) (args:=[.slice a lex.length cap,.func (.func 89) #[] #[.pointer (some ⟨bI,0,none⟩)] ]) Tryz.func88 rfl Tryz.ntmps88 (by simp) ?_
  (repeat' (first|refine Sy ?_))
  refine B0 (ι:=Nat) (fun i=>[(0,.slice a lex.length cap),(1,.func (.func 89) #[] #[.pointer (some ⟨bI,0,none⟩)]),(7,int lex.length),(8,int i)])
    (fun i wr=>i≤lex.length∧Ext w wr∧∀(j:Nat) (y:En),j<i→lex[j]?=some y→y.id≠id) (fun i=>lex.length-i) 0
    ⟨rfl,rfl,rfl,rfl,trivial⟩ ⟨Nat.zero_le _,Ext.refl _,fun j y hj=>absurd hj (by omega)⟩ ?_
  rintro i wr ⟨hi,hx,hno⟩
  replace hv0:=hv0.ext hx;replace hcI:=Ext.cell hx hcI
  by_cases hlt:i<lex.length
  · obtain⟨b,off,rfl⟩:=hp (by omega)
    obtain⟨x,hx1⟩:∃ x,lex[i]?=some x:=⟨_,List.getElem?_eq_getElem hlt⟩
    obtain⟨d0,f0,d1,f1,d2,f2,d3,f3,d4,f4,hat,hrep,_⟩:=D3 hv0 hx1
    have cF:=B8i x _ id bI wr hrep hcI
    by_cases hid:x.id=id
    · rw [decide_eq_true hid] at cF
      rw [C5g hx1 hid hno]
      (repeat' (first|refine eV Z Z (A0 (m:=i) Z Z Z (by first|rfl|omega) (by omega)) ?_|(refine A8 Z Z (L2 (cap:=[.pointer (some ⟨bI,0,none⟩)]) Z Z Z en89) cF (fun vC wC hC=>?_);obtain⟨rfl,xC⟩:=hC;replace hx:=hx.trans xC)|refine Ly ?_|refine Dy (fun hh=>?_) fun hh=>?_))
      all_goals (try (exfalso;omega))
      exact A4 Z Z ⟨rfl,hx⟩
    · rw [decide_eq_false hid] at cF
      (repeat' (first|refine eV Z Z (A0 (m:=i) Z Z Z (by first|rfl|omega) (by omega)) ?_|(refine A8 Z Z (L2 (cap:=[.pointer (some ⟨bI,0,none⟩)]) Z Z Z en89) cF (fun vC wC hC=>?_);obtain⟨rfl,xC⟩:=hC;replace hx:=hx.trans xC)|refine Ly ?_|refine Dy (fun hh=>?_) fun hh=>?_))
      all_goals (try (exfalso;omega))
      refine B3 (i+1) ⟨rfl,rfl,rfl,rfl,trivial⟩ ⟨by omega,hx,fun j y hj hy=>?_⟩ (by omega)
      by_cases e:j=i
      · subst e;rw [hx1] at hy;cases hy;exact hid
      · exact hno j y (by omega) hy
  · rw [idx_not (fun j y hj hy=>hno j y (by omega) hy)]
    (repeat' (first|refine Sy ?_|refine Dy (fun hh=>?_) fun hh=>?_))
    all_goals (try (exfalso;omega))
    exact A4 Z Z ⟨rfl,hx⟩
theorem A1b (lex:List En) (id:Int) (ev:Value) (w:World) (hv:Sl w ev lex) :
    ∃ X:List Value,Rep.at_ Tt w (entD lex id) X∧∀ w',Ext w w'→Calls Tryz.prog 48 #[ev,int id] w' (Rt fun u w2=>u=.tuple #[.agg X.toArray,.bool (getE lex id).isSome]∧Ext w' w2):=by
  have hv0:=hv
  obtain⟨a,cap,rfl,hc,hm,hp⟩:=hv.sl
  cases hg:getE lex id with
  | none=>
    refine⟨zeroE,by unfold entD;rw [hg];exact C3l w,fun w' xw=>?_⟩
    refine A6 (n:=17) (args:=[.slice a lex.length cap,int id]) Tryz.func48 rfl Tryz.ntmps48 (by simp) ?_
    refine B4 ?_
    refine A9 ?_
    refine C6 Z Z Z Z (fun bI wI xI hbI rI0=>?_)
    have rI:Row wI bI 3 [int id]:=rI0
    clear rI0
    refine C3 Z Z Z (fun bA wA xA hbA rA=>?_)
    replace rI:=rI.ext xA
    have hX:=xI.trans xA
    have hwB:w'.heap.size≤bA:=by have:=xI.size;omega
    have ci:=A4u lex id bI _ wA (hv0.ext (xw.trans hX)) (rI.cellAt (j:=0) rfl)
    rw [P5 hg] at ci
    (repeat' (first|refine eV Z Z (J6 (vs:=[.pointer (some ⟨bI,0,none⟩)]) Z Z) ?_|(refine cqC ci en88 fun wC xC=>?_;replace hX:=hX.trans xC;replace rA:=rA.ext xC)|refine eV Z Z (B6 (vs:=[]) zeroE rfl rfl rfl) ?_|(refine B7 (cs:=zeroE) rA hX hwB rfl rfl rfl rfl rfl rfl rfl rfl (Nat.le_refl _) (fun w9 r9 x9 k9=>?_))|refine Sy ?_|refine Dy (fun hh=>?_) fun hh=>?_))
    all_goals (try (exfalso;omega))
    exact M4 Z Z Z r9.at rfl rfl ⟨rfl,x9⟩
  | some e=>
    obtain⟨q,hq,hqe⟩:=A0o hg
    have hql:=(List.getElem?_eq_some_iff.1 hqe).1
    obtain⟨b,off,rfl⟩:=hp (by omega)
    obtain⟨d0,f0,d1,f1,d2,f2,d3,f3,d4,f4,hat,hrep,_⟩:=D3 hv0 hqe
    refine⟨_,by unfold entD;rw [hg];exact hrep,fun w' xw=>?_⟩
    refine A6 (n:=17) (args:=[.slice (some ⟨b,off,none⟩) lex.length cap,int id]) Tryz.func48 rfl Tryz.ntmps48 (by simp) ?_
    refine B4 ?_
    refine A9 ?_
    refine C6 Z Z Z Z (fun bI wI xI hbI rI0=>?_)
    have rI:Row wI bI 3 [int id]:=rI0
    clear rI0
    refine C3 Z Z Z (fun bA wA xA hbA rA=>?_)
    replace rI:=rI.ext xA
    have hX:=xI.trans xA
    replace hat:=hat.ext (xw.trans hX)
    have hwB:w'.heap.size≤bA:=by have:=xI.size;omega
    have ci:=A4u lex id bI _ wA (hv0.ext (xw.trans hX)) (rI.cellAt (j:=0) rfl)
    rw [hq] at ci
    (repeat' (first|refine eV Z Z (J6 (vs:=[.pointer (some ⟨bI,0,none⟩)]) Z Z) ?_|(refine cqC ci en88 fun wC xC=>?_;replace hX:=hX.trans xC;replace rA:=rA.ext xC;replace hat:=hat.ext xC)|refine eV Z Z (A0 (m:=q) Z Z Z (by first|rfl|omega) (by omega)) ?_|(refine B7 (cs:=[_,_,_,_,_,_,_,_]) rA hX hwB rfl rfl rfl rfl rfl rfl rfl rfl (Nat.le_refl _) (fun w9 r9 x9 k9=>?_))|refine Ly ?_|refine Dy (fun hh=>?_) fun hh=>?_))
    all_goals (try (exfalso;omega))
    exact M4 Z Z Z r9.at rfl rfl ⟨rfl,x9⟩
theorem A7l {ds:List Dc} {rec:Int} {d:Dc} (hg:docF ds rec=some d) (dv:Value) (w:World) (hv:Sl w dv ds) :
    ∃ X:List Value,Rep.at_ Tt w d X∧∀ w',Ext w w'→Calls Tryz.prog 34 #[dv,int rec] w' (Rt fun u w2=>u=.tuple #[.agg X.toArray,.bool true]∧Ext w' w2):=by
  obtain⟨k,hk,hid,hlow⟩:=A3x hg
  have hkl:=(List.getElem?_eq_some_iff.1 hk).1
  have hv0:=hv
  obtain⟨a,cap,rfl,hc,hm,hp⟩:=hv.sl
  obtain⟨b,off,rfl⟩:=hp (by omega)
  obtain⟨a1,c1,a2,c2,a3,c3,hat,hrep⟩:=Q9 hv0 hk
  refine⟨_,hrep,fun w' xw=>?_⟩
  refine A6 (n:=22) (args:=[.slice (some ⟨b,off,none⟩) ds.length cap,int rec]) Tryz.func34 rfl Tryz.ntmps34 (by simp) ?_
  refine B4 ?_
  refine A9 ?_
  refine C3 Z Z Z (fun bA wA xA hbA rA0=>?_)
  have hwB:w'.heap.size≤bA:=by omega
  (repeat' (first|refine Sy ?_))
  refine B0 (ι:=Nat) (fun i=>[(1,int rec),(4,.pointer (some ⟨bA,0,none⟩)),(8,.slice (some ⟨b,off,none⟩) ds.length cap),(9,int ds.length),(10,int i)])
    (fun i wr=>i≤k∧Ext wA wr) (fun i=>k-i) 0
    ⟨rfl,rfl,rfl,rfl,rfl,trivial⟩ ⟨Nat.zero_le _,Ext.refl _⟩ ?_
  rintro i wr ⟨hi,hx⟩
  have hX:=xw.trans (xA.trans hx)
  by_cases e0:i=k
  · subst e0
    have hat':=hat.ext hX
    have hxA:=xA.trans hx
    replace rA0:=rA0.ext hx
    (repeat' (first|(refine C1 Z Z Z Z Z Z Z Z Z Z (fun bV wV xV hbV rV=>?_);replace hxA:=hxA.trans xV;replace rA0:=rA0.ext xV)|refine eV Z Z (A0 (m:=i) Z Z Z (by first|rfl|omega) (by omega)) ?_|(refine B7 (cs:=[_,_,_,_,_,_,_]) rA0 hxA hwB rfl rfl rfl rfl rfl rfl rfl rfl (Nat.le_refl _) (fun w9 r9 x9 k9=>?_))|refine Ly ?_|refine Dy (fun hh=>?_) fun hh=>?_))
    all_goals (try (exfalso;omega))
    exact M4 Z Z Z r9.at rfl rfl ⟨rfl,x9⟩
  · obtain⟨x,hx1⟩:∃ x,ds[i]?=some x:=⟨_,List.getElem?_eq_getElem (by omega)⟩
    have hne:=hlow i x (by omega) hx1
    obtain⟨_,_,_,_,_,_,hat2,_⟩:=Q9 (hv0.ext hX) hx1
    (repeat' (first|(refine C1 Z Z Z Z Z Z Z Z Z Z (fun bV wV xV hbV rV=>?_);replace hx:=hx.trans xV)|refine eV Z Z (A0 (m:=i) Z Z Z (by first|rfl|omega) (by omega)) ?_|refine Ly ?_|refine Dy (fun hh=>?_) fun hh=>?_))
    all_goals (try (exfalso;omega))
    exact B3 (i+1) ⟨rfl,rfl,rfl,rfl,rfl,trivial⟩ ⟨by omega,hx⟩ (by omega)
theorem A1v {ds:List Dc} {rec:Int} (hg:docF ds rec=none) (dv:Value) (w:World) (hv:Sl w dv ds):Calls Tryz.prog 34 #[dv,int rec] w (Rt fun u w2=>u=.tuple #[.agg zeroD.toArray,.bool false]∧Ext w w2):=by
  have hall:=C2p hg
  have hv0:=hv
  obtain⟨a,cap,rfl,hc,hm,hp⟩:=hv.sl
  refine A6 (n:=22) (args:=[.slice a ds.length cap,int rec]) Tryz.func34 rfl Tryz.ntmps34 (by simp) ?_
  refine B4 ?_
  refine A9 ?_
  refine C3 Z Z Z (fun bA wA xA hbA rA0=>?_)
  have hwB:w.heap.size≤bA:=by omega
  (repeat' (first|refine Sy ?_))
  refine B0 (ι:=Nat) (fun i=>[(1,int rec),(4,.pointer (some ⟨bA,0,none⟩)),(8,.slice a ds.length cap),(9,int ds.length),(10,int i)])
    (fun i wr=>i≤ds.length∧Ext wA wr) (fun i=>ds.length-i) 0
    ⟨rfl,rfl,rfl,rfl,rfl,trivial⟩ ⟨Nat.zero_le _,Ext.refl _⟩ ?_
  rintro i wr ⟨hi,hx⟩
  have hX:=xA.trans hx
  by_cases hlt:i<ds.length
  · obtain⟨b,off,rfl⟩:=hp (by omega)
    obtain⟨x,hx1⟩:∃ x,ds[i]?=some x:=⟨_,List.getElem?_eq_getElem hlt⟩
    have hne:=hall x (List.mem_of_getElem? hx1)
    obtain⟨_,_,_,_,_,_,hat2,_⟩:=Q9 (hv0.ext hX) hx1
    (repeat' (first|(refine C1 Z Z Z Z Z Z Z Z Z Z (fun bV wV xV hbV rV=>?_);replace hx:=hx.trans xV)|refine eV Z Z (A0 (m:=i) Z Z Z (by first|rfl|omega) (by omega)) ?_|refine Ly ?_|refine Dy (fun hh=>?_) fun hh=>?_))
    all_goals (try (exfalso;omega))
    exact B3 (i+1) ⟨rfl,rfl,rfl,rfl,rfl,trivial⟩ ⟨by omega,hx⟩ (by omega)
  · (repeat' (first|refine eV Z Z (B6 (vs:=[]) zeroD rfl rfl rfl) ?_|refine Sy ?_|refine Dy (fun hh=>?_) fun hh=>?_))
    all_goals (try (exfalso;omega))
    refine B7 (cs:=zeroD) (rA0.ext hx) (xA.trans hx) hwB rfl rfl rfl rfl rfl rfl rfl rfl (Nat.le_refl _) (fun w9 r9 x9 k9=>?_)
    (repeat' (first|refine Sy ?_))
    exact M4 Z Z Z r9.at rfl rfl ⟨rfl,x9⟩
theorem B0g (ds:List Dc) (rec:Int) (dv:Value) (w:World) (hv:Sl w dv ds) :
    ∃ X:List Value,Rep.at_ Tt w (docD ds rec) X∧∀ w',Ext w w'→Calls Tryz.prog 34 #[dv,int rec] w' (Rt fun u w2=>u=.tuple #[.agg X.toArray,.bool (docF ds rec).isSome]∧Ext w' w2):=by
  cases h:docF ds rec with
  | none=>exact⟨zeroD,by unfold docD;rw [h];exact C3m w,fun w' x=>A1v h dv w' (hv.ext x)⟩
  | some d=>
    obtain⟨X,h1,h2⟩:=A7l h dv w hv
    exact⟨X,by unfold docD;rw [h];exact h1,h2⟩
theorem Z7 {ds:List Dc} (hL:LightDs ds) (r:Rf) (dv:Value) (w:World) (hv:Sl w dv ds):Calls Tryz.prog 35 #[dv,.agg #[int r.rcd,int r.note] ] w (Rt fun u w'=>u=S8 ds r∧Ext w w'):=by
  refine A6 (n:=24) (args:=[dv,.agg #[int r.rcd,int r.note] ]) Tryz.func35 rfl Tryz.ntmps35 (by simp) ?_
  refine B4 ?_
  refine A9 ?_
  refine C2 Z Z Z Z (fun bR wR xR hbR rR=>?_)
  refine C3 Z Z Z (fun bA wA xA hbA rA=>?_)
  replace rR:=rR.ext xA
  have hX:=xR.trans xA
  have hwB:w.heap.size≤bA:=by have:=xR.size;omega
  cases hg:docF ds r.rcd with
  | none=>
    rw [wd_none hg]
    have cg:=A1v hg dv wA (hv.ext hX)
    (repeat' (first|(refine cqC cg en34 fun wC xC=>?_;replace hX:=hX.trans xC;replace rR:=rR.ext xC;replace rA:=rA.ext xC)|(refine C1 (cs:=zeroD) Z Z Z Z Z Z Z Z Z Z (fun bN wN xN hbN rN=>?_);replace hX:=hX.trans xN;replace rA:=rA.ext xN)|refine eV Z Z (B6 (vs:=[]) [int 0,int 0] rfl rfl rfl) ?_|(refine B7 (cs:=[int 0,int 0]) rA hX hwB rfl rfl rfl rfl rfl rfl rfl rfl (Nat.le_refl _) (fun w9 r9 x9 k9=>?_))|refine Ly ?_))
    exact M4 Z Z Z r9.at rfl rfl ⟨rfl,x9⟩
  | some d=>
    rw [wd_some hg]
    obtain⟨X,hrep,cg⟩:=A7l hg dv w hv
    have cg1:=cg wA hX
    have hdl:=B0f hL hg
    obtain⟨sv,tv,nv,rfl,h1,h2,h3⟩:=hrep
    obtain⟨s1,s2,rfl,_⟩:=h1.sl
    obtain⟨t1,t2,rfl,_⟩:=h2.sl
    obtain⟨n1,n2,rfl,_⟩:=h3.sl
    have hdat:DcAt w (.agg #[int d.rid,str d.rname,int d.len,int d.day,.slice s1 d.sp.length s2,.slice t1 d.tiers.length t2,.slice n1 d.notes.length n2]) d:=⟨_,_,_,rfl,h1,h2,h3⟩
    (repeat' (first|(refine cqC cg1 en34 fun wC xC=>?_;replace hX:=hX.trans xC;replace rR:=rR.ext xC;replace rA:=rA.ext xC)|(refine C1 Z Z Z Z Z Z Z Z Z Z (fun bN wN xN hbN rN=>?_);replace hX:=hX.trans xN;replace rA:=rA.ext xN;replace rR:=rR.ext xN)|(refine cqC (C1j hdl _ r.note _ (hdat.ext hX)) en37 fun wC xC=>?_;replace hX:=hX.trans xC;replace rA:=rA.ext xC)|(refine B7 (cs:=[int (A2n d r.note).1,int (A2n d r.note).2]) rA hX hwB rfl rfl rfl rfl rfl rfl rfl rfl (Nat.le_refl _) (fun w9 r9 x9 k9=>?_))|refine Ly ?_))
    exact M4 Z Z Z r9.at rfl rfl ⟨rfl,x9⟩
end
section
open Go.RowKit Go.En Go.Pv
theorem B1u {A C:World} {r B:Nat} (g:A.grownBy C (some r)) (h:r<B):KeepUp B A C:=⟨g.size,fun k hB hk=>g.block k hk (fun e=>by cases e;omega)⟩
theorem A6v {B:Nat} {I Ix:List Int→World→Prop} {xs:List Int} {W:World}:¬ LetsOut (postX B I Ix xs W):=fun⟨_,_,h⟩=>h
theorem B5i {g:Lg} (hok:LangOK g) (id:Int):(entD g.lex id).senses.length≤5:=by
  unfold entD
  cases h:getE g.lex id with
  | none=>simp [A5s]
  | some e=>exact(hok.lex e (List.mem_of_find?_eq_some h)).2.2.2.2.2.2.2.1
theorem in_one {F:Fence} {m:Nat} {P:Program} {o:Oper} {Q:Post} {a:Act} {w:World} (hw:Region.wanted o (yielded #[o] a.tmps)=true) (h:Oper.wpIn F m P o a w (wpOpsIn F m P #[o] Q []) Q):wpOpsIn F m P #[o] Q [0] a w:=by
  have e:(#[o]:Array Oper)[0]?=some o:=rfl
  unfold wpOpsIn
  rw [e]
  dsimp only
  rw [if_pos hw]
  exact h
theorem B4n {m:Nat} {S:Value→World→Prop} {a:Act} {W:World} {bR D:Nat} {u:Value} (h4:a.tmps[4]?=some (.pointer (some ⟨bR,0,none⟩))) (hr:Row W bR 62 [u]) (hne:bR≠D) (hD:W.heap[D]?=some (.deferred (some []))) (hd:a.defers=[])
    (hS:∀ W',W.grownBy W' (some D)→S u W'):bodyPostM Fence.wide m Tryz.prog Tryz.f185 (Rt S) .ret { a with defers:={ target:=.collected D,args:=#[] }::a.defers } W:=by
  refine⟨by simp,.inl ⟨_,_,rfl,run_takeDeferred hD,?_⟩⟩
  rw [hd]
  have hg:=G2 W D (.deferred none)
  have hc:=(M6 hr hg hne).cellAt (j:=0) rfl
  exact⟨u,C1r rfl rfl h4 hc,u,rfl,hS _ hg⟩
attribute [local irreducible] E EL K Val Enters Rt Calls bodyPost Code.wp RQ EI YK bodyPostM
theorem A8i {g:Lg} (hok:LangOK g):C1a g.lex:=by
  intro id v w hv
  have hll:=hok.nlex
  have hget0:=fun id=>A1b g.lex id v w hv
  obtain⟨Xof,hXof⟩:=Classical.axiomOfChoice hget0
  have hv0:=hv
  obtain⟨la,lc,rfl,_,_,_⟩:=hv.sl
  refine C0 (S:=fun u w'=>Sl w' u (L6 g.lex id)∧Ext w w') ?_ (fun _ _ h=>⟨h.2,h.1⟩)
  refine C6e (m:=5) (n:=17) (args:=[.slice la g.lex.length lc,int id]) Tryz.func185 rfl Tryz.ntmps185 (by simp) ?_
  refine B4 ?_
  refine A9 ?_
  refine C3 Z Z Z (fun bR wR xR hbR rR0=>?_)
  have rR:Row wR bR 62 [.slice none 0 0]:=rR0
  clear rR0
  (repeat' ((fail_if_success (refine B4 (x:=(Code.block 0 _)) ?_));first|(refine A8 Z Z (A5 Z Z en218) (B6f id (.slice la g.lex.length lc) _) (fun vC wC hC=>?_);obtain⟨Bl,Bi,rfl,rl,ri,hne,hl1,hl2,xC⟩:=hC)|refine Sy ?_))
  have hRB:bR<wR.heap.size:=rR.lt
  have hCs:=xC.size
  have hlB:=rl.lt
  have hiB:=ri.lt
  have hXC:Ext w wC:=xR.trans xC
  replace rR:=rR.ext xC
  have hx0:w.heap.size≤bR:=by omega
  have hRs:=xR.size
  have hIp:∀(s:List Int) (A C:World) (r:Nat),(Ext w A∧Row A bR 62 [.slice none 0 0]∧∀ y∈s,(entD g.lex y).senses.length=0)→A.grownBy C (some r)→(r=Bi∨r=wC.heap.size+1)→(Ext w C∧Row C bR 62 [.slice none 0 0]∧∀ y∈s,(entD g.lex y).senses.length=0):=by
    rintro s A C r ⟨h1,h2,h3⟩ hg hr
    exact⟨R2 h1 hg (by omega),M6 h2 hg (by omega),h3⟩
  refine E_in (m:=5) (fun a ha=>?_)
  refine A3m rfl (by omega) (gf:=235) (lb:=#[.pointer (some ⟨Bl,0,none⟩),.pointer (some ⟨Bi,0,none⟩)]) (ha.ev (x:=.tmp 8) rfl) trivial en235 (Bid:=Bi) ri.lt
    (way_seq g.lex (by omega) id la lc w hv0 Xof (fun id=>(hXof id).1) (fun id w' hx=>(hXof id).2 w' hx) Bl Bi wC.heap.size wC (by omega) (by omega) rl.lt ri.lt hne (Nat.le_refl _) hXC rl ri) (fun _=>rfl)
    (fun s W=>Ext w W∧Row W bR 62 [.slice none 0 0]∧∀ y∈s,(entD g.lex y).senses.length=0)
    (fun s W=>Ext w W∧∃ u,Row W bR 62 [u]∧SlG (fun b=>wC.heap.size+2≤b) W u (L6 g.lex id)) hIp ?hIx ⟨hXC,rR,fun _ h=>by cases h⟩
    (fun x a' W'=>∃ b,St 17 [(4,.pointer (some ⟨bR,0,none⟩)),(5,.pointer (some ⟨b,0,none⟩))] a'∧Row W' b 65 (Xof x)∧wC.heap.size+2≤b) ?hAx ?assign ?body ?done ?stop
  case hIx=>
    rintro s A C ⟨h1,u,h2,h3⟩ hg
    exact⟨R2 h1 hg (by omega),u,M6 h2 hg (by omega),h3.move fun b hb hlt=>⟨hb,hg.block b hlt (fun e=>by cases e;omega)⟩⟩
  case hAx=>
    rintro x a' A C ⟨b,h1,h2,h3⟩ hg
    exact⟨b,h1,M6 h2 hg (by omega),h3⟩
  case assign=>
    intro l pre x W K hsz hi hpre hK
    obtain⟨e0,k0,e1,k1,e2,k2,e3,k3,e4,k4,hX,_⟩:=K4 (hXof x).1
    refine EI_run (A4d B4g rfl ?_) (ha.round (s:=9) rfl (.agg (Xof x).toArray))
    rw [hX]
    refine C1 Z Z Z Z Z Z Z Z Z Z (fun b wV xV hb rV=>?_)
    refine eN (K_of fun a' ha'=>hK a' wV xV (hIp _ _ _ Bi hi (A3w xV) (.inl rfl)) ⟨b,ha'.sub ⟨rfl,rfl,trivial⟩,?_,by omega⟩)
    rw [hX]
    exact rV
  case body=>
    rintro l pre x a' W hsz hi ⟨b,ha',rb,hb⟩ hpre
    obtain⟨hxW,hrW,hnone⟩:=hi
    obtain⟨e0,k0,e1,k1,e2,k2,e3,k3,e4,k4,hX,_,_,hsen,_⟩:=K4 (hXof x).1
    rw [hX] at rb
    have hs5:=B5i hok x
    have hsenW:=hsen.ext hxW
    refine EI_run (EI_block (EI_seq (A4d (R9 (T8 A6v)) rfl ?_))) ha'
    (repeat' (first|refine Ly ?_|refine Dy (fun hh=>?_) fun hh=>?_))
    all_goals refine C1e ?_
    · refine C3j rfl (EI_seq (A4d (R9 (T8 A6v)) rfl ?_))
      have cc:=fun wz (hz:Ext W wz)=>B2j (entD g.lex x).senses (.slice e2 (entD g.lex x).senses.length k2) wz (hsenW.ext hz).any (by omega)
      (repeat' (first|(refine A8 Z Z (A5 Z Z en219) (cc _ (Ext.refl _)) (fun vC wD hC=>?_);obtain⟨sC,xD⟩:=hC;obtain⟨qa,qc,rfl,_,_,_⟩:=sC.sl;have rW2:=hrW.ext xD;have hxW2:=hxW.trans xD;have hsD:=xD.size)|(refine B7 (cs:=[_]) rW2 hxW2 hx0 rfl rfl rfl rfl rfl rfl rfl rfl (Nat.le_refl _) (fun wU rU0 xU kU=>?_))|refine Ly ?_))
      refine C1e (EI_ret (A7u (K_of fun a2 _=>⟨?_,xU,_,rU0,?_⟩)))
      · exact(KeepUp.of_below xD).trans (B1u kU (by omega))
      · rw [B1a hpre hnone (by omega)]
        exact sC.move (fun b hb hlt=>⟨by omega,World.grownBy.block kU b hlt (fun e=>by cases e;omega)⟩)
    · refine C3k rfl (EI_skip (K_in (K_of fun a2 _=>⟨Below.refl _ _,hxW,hrW,fun y hy=>?_⟩)))
      rcases List.mem_append.1 hy with hy|hy
      · exact hnone y hy
      · obtain rfl:=List.mem_singleton.1 hy
        omega
  case done=>
    rintro W ⟨hxW,hrW,hnone⟩ hD
    have hs:=B3s hnone
    have hDl:=hrW.lt
    obtain⟨wS,hrun,rS,gS⟩:=B7f (P:=Tryz.prog) (t:=62) (v:=.slice none 0 0) (o:={ dst:=none,op:=Op.store 62 (Operand.tmp 4) (Operand.const (Value.slice none 0 0)),type:=0,pos:= "variant.go:75",after:=#[],guard:=none })
      (ρ:=({ tmps:=a.tmps,defers:={ target:=Target.collected wC.heap.size,args:=#[] }::a.defers }:Act).eval) rfl (show a.eval (.tmp 4)=_ from ha.ev (x:=.tmp 4) rfl) rfl rfl rfl hrW (Nat.le_refl _)
    show Code.wp _ _ _ _ _
    refine(wpIn_wide (n:=5)).1 (wpIn_seq (wpIn_region ?_))
    show wpOpsIn _ _ _ _ _ [0] _ _
    refine in_one rfl ?_
    refine⟨fun _ _=>trivial,?_⟩
    rw [Oper.semAt_eq _ _ _ (fun c e=>by cases e)]
    rw [hrun]
    unfold Oper.uponIn
    dsimp only [Act.put]
    unfold wpOpsIn
    show Code.wpIn _ _ _ _ _ _ _
    refine wpIn_ret ?_
    refine B4n (ha.get _ _ rfl) rS (by omega) ((gS.block _ (by have:=(Array.getElem?_eq_some_iff.1 hD).1;exact this) (fun e=>by cases e;omega)).trans hD) ha.nod (fun W' hg=>?_)
    rw [hs]
    exact⟨SlG.nil,R2 (R2 hxW gS (by omega)) hg (by omega)⟩
  case stop=>
    rintro pre W hpre ⟨hxW,u,hrW,hsu⟩ hD
    refine wpIn_ret ?_
    refine B4n (ha.get _ _ rfl) hrW (by omega) hD ha.nod (fun W' hg=>?_)
    exact⟨hsu.move (fun b hb hlt=>⟨trivial,hg.block b hlt (fun e=>by cases e;omega)⟩),R2 hxW hg (by omega)⟩
end
section
open Go.RowKit Go.En Go.Pv
theorem B5s {t u:List UInt8} {n:Nat} (hn:n≤t.length) (h:u=t.take n):begB t u=true∧u.length=n:=by
  have hl:u.length=n:=by rw [h,List.length_take,Nat.min_eq_left hn]
  exact⟨A3h.2 (by rw [hl,← h]),hl⟩
theorem B8y {us:List Unt} {t:List UInt8} {n i:Nat} {u:Unt} (hn:n≤t.length) (hbig:∀(j:Nat) (v:Unt),us[j]?=some v→begB t v.graph=true→v.graph.length≤n)
    (hlow:∀(j:Nat) (v:Unt),j<i→us[j]?=some v→v.graph≠t.take n) (hi:us[i]?=some u) (hu:u.graph=t.take n):A5c us t=some i:=by
  obtain⟨hb,hl⟩:=B5s hn hu
  refine A5b (C0w us t) ⟨(fun e=>by cases e),fun k e=>?_⟩
  cases e
  refine⟨u,hi,hb,fun j v hj hv=>?_⟩
  have h1:=hbig j v hj hv
  refine⟨by omega,fun hji=>?_⟩
  have h2:=hlow j v hji hj
  have h3:=A3h.1 hv
  by_cases e:v.graph.length=n
  · exfalso;apply h2;rw [← e];exact h3.symm
  · omega
theorem C2z {us:List Unt} {t:List UInt8} (hg:∀ u∈us,1≤u.graph.length) (h:∀(j:Nat) (v:Unt),us[j]?=some v→begB t v.graph=true→v.graph.length≤0):A5c us t=none:=by
  refine A5b (C0w us t) ⟨fun _ j v hj=>?_,fun k e=>by cases e⟩
  cases hb:begB t v.graph with
  | false=>rfl
  | true=>
    have:=h j v hj hb
    have:=hg v (List.mem_of_getElem? hj)
    omega
theorem C6j {us:List Unt} {t:List UInt8} {n:Nat} (hbig:∀(j:Nat) (v:Unt),us[j]?=some v→begB t v.graph=true→v.graph.length≤n+1)
    (hall:∀(j:Nat) (v:Unt),us[j]?=some v→v.graph≠t.take (n+1)):∀(j:Nat) (v:Unt),us[j]?=some v→begB t v.graph=true→v.graph.length≤n:=by
  intro j v hj hv
  have h1:=hbig j v hj hv
  by_cases e:v.graph.length=n+1
  · exfalso;apply hall j v hj;rw [← e];exact(A3h.1 hv).symm
  · omega
end
end Go.Proofs.YtjicdgejhkgpgaaGreatDoor