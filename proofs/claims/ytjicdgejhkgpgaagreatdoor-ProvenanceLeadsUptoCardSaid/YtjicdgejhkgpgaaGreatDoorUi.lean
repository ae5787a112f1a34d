/-
  Own text of the proof.
-/
import Derived.Test.YtjicdgejhkgpgaaGreatDoorUh
set_option linter.all false
set_option maxHeartbeats 8000000
set_option maxRecDepth 8000
namespace Go.Proofs.YtjicdgejhkgpgaaGreatDoor
section
open Go.RowKit Go.En Go.Pv
def Sm (G:Nat→Prop) (w w':World):Prop:=∀ b,G b→b<w.heap.size→w'.heap[b]?=w.heap[b]?
theorem Sm.ext {G:Nat→Prop} {w w':World} (x:Ext w w'):Sm G w w':=fun _ _ h=>x.block h
attribute [local irreducible] E EL K Val Enters Rt Calls bodyPost Code.wp RQ
theorem doc34_someG {G:Nat→Prop} {ds:List Dc} {rec:Int} {d:Dc} (hg:docF ds rec=some d) (dv:Value) (w:World) (hv:SlG G w dv ds) :
    ∃ X:List Value,Rep.at_ G w d X∧∀ w',Sm G w w'→Calls Tryz.prog 34 #[dv,int rec] w' (Rt fun u w2=>u=.tuple #[.agg X.toArray,.bool true]∧Ext w' w2):=by
  obtain⟨k,hk,hid,hlow⟩:=Jw hg
  have hkl:=(List.getElem?_eq_some_iff.1 hk).1
  have hv0:=hv
  obtain⟨a,cap,rfl,hc,hm,hp⟩:=hv.sl
  obtain⟨b,off,rfl⟩:=hp (by omega)
  obtain⟨a1,c1,a2,c2,a3,c3,hat,hrep⟩:=Dq hv0 hk
  have hGb:=(hv0.ats (by omega)).1
  have hbl:=hat.lt (by simp)
  refine⟨_,hrep,fun w' xw=>?_⟩
  have hat0:=At.same hat (xw b hGb hbl)
  have hv1:=hv0.move (G':=G) (fun q hq hlt=>⟨hq,xw q hq hlt⟩)
  refine A7 (n:=22) (args:=[.slice (some ⟨b,off,none⟩) ds.length cap,int rec]) Tryz.func34 rfl Tryz.ntmps34 (by simp) ?_
  refine Ac ?_
  refine A8 ?_
  refine Ap Z Z Z (fun bA wA xA hbA rA0=>?_)
  have hwB:w'.heap.size≤bA:=by omega
  (repeat' (first|refine Sy ?_))
  refine Ae (ι:=Nat) (fun i=>[(1,int rec),(4,.pointer (some ⟨bA,0,none⟩)),(8,.slice (some ⟨b,off,none⟩) ds.length cap),(9,int ds.length),(10,int i)])
    (fun i wr=>i≤k∧Ext wA wr) (fun i=>k-i) 0
    ⟨rfl,rfl,rfl,rfl,rfl,trivial⟩ ⟨Nat.zero_le _,Ext.refl _⟩ ?_
  rintro i wr ⟨hi,hx⟩
  have hX:=xA.trans hx
  by_cases e0:i=k
  · subst e0
    have hat':=hat0.ext hX
    have hxA:=xA.trans hx
    replace rA0:=rA0.ext hx
    (repeat' (first|(refine Am Z Z Z Z Z Z Z Z Z Z (fun bV wV xV hbV rV=>?_);replace hxA:=hxA.trans xV;replace rA0:=rA0.ext xV)|refine eV Z Z (A0 (m:=i) Z Z Z (by first|rfl|omega) (by omega)) ?_|(refine Ah (cs:=[_,_,_,_,_,_,_]) rA0 hxA hwB rfl rfl rfl rfl rfl rfl rfl rfl (Nat.le_refl _) (fun w9 r9 x9 k9=>?_))|refine Ly ?_|refine Dy (fun hh=>?_) fun hh=>?_))
    all_goals (try (exfalso;omega))
    exact Co Z Z Z r9.at rfl rfl ⟨rfl,x9⟩
  · obtain⟨x,hx1⟩:∃ x,ds[i]?=some x:=⟨_,List.getElem?_eq_getElem (by omega)⟩
    have hne:=hlow i x (by omega) hx1
    obtain⟨_,_,_,_,_,_,hat2,_⟩:=Dq (hv1.ext hX) hx1
    (repeat' (first|(refine Am Z Z Z Z Z Z Z Z Z Z (fun bV wV xV hbV rV=>?_);replace hx:=hx.trans xV)|refine eV Z Z (A0 (m:=i) Z Z Z (by first|rfl|omega) (by omega)) ?_|refine Ly ?_|refine Dy (fun hh=>?_) fun hh=>?_))
    all_goals (try (exfalso;omega))
    exact Ad (i+1) ⟨rfl,rfl,rfl,rfl,rfl,trivial⟩ ⟨by omega,hx⟩ (by omega)
theorem doc34_G {G:Nat→Prop} (ds:List Dc) (rec:Int) (dv:Value) (w:World) (hv:SlG G w dv ds) :
    ∃ X:List Value,Rep.at_ G w (docD ds rec) X∧∀ w',Sm G w w'→Calls Tryz.prog 34 #[dv,int rec] w' (Rt fun u w2=>u=.tuple #[.agg X.toArray,.bool (docF ds rec).isSome]∧Ext w' w2):=by
  cases h:docF ds rec with
  | none=>exact⟨zeroD,by unfold docD;rw [h];exact⟨_,_,_,rfl,SlG.nil,SlG.nil,SlG.nil⟩,fun w' x=>Kq h dv w' (hv.move fun b hb hlt=>⟨trivial,x b hb hlt⟩)⟩
  | some d=>
    obtain⟨X,h1,h2⟩:=doc34_someG h dv w hv
    exact⟨X,by unfold docD;rw [h];exact h1,h2⟩
structure DX where
  X:List Value
  hl:X.length=7
  h1:X.all Value.oneCell'=true
def RD (ds:List Dc) (rec:Int):(Nat→Prop)→Value × DX→World→Prop:=fun G y w=>Rep.at_ G w (docD ds rec) y.2.X∧∀ w',Sm G w w'→Calls Tryz.prog 34 #[y.1,int rec] w' (Rt fun u w2=>u=.tuple #[.agg y.2.X.toArray,.bool (docF ds rec).isSome]∧Ext w' w2)
theorem mvRD {ds:List Dc} {rec:Int}:Mv3 (RD ds rec):=fun G G' y w w' h hm=>⟨Rep.move h.1 hm,fun w2 h2=>h.2 w2 (fun b hb hlt=>by
  obtain⟨h3,h4⟩:=hm b hb hlt
  have hl:b<w'.heap.size:=by
    rw [Array.getElem?_eq_getElem hlt] at h4
    exact(Array.getElem?_eq_some_iff.1 h4).1
  exact(h2 b h3 hl).trans h4)⟩
def RC (ds:List Dc):(Nat→Prop)→Value→World→Prop:=fun G u w=>SlG G w u ds
theorem mvRC {ds:List Dc}:Mv3 (RC ds):=fun G G' y w w' h hm=>SlG.move h hm
theorem rd_call {ds:List Dc} (hL:LightDs ds) (rec:Int) (dv:Value) (w:World) (hv:Sl w dv ds):Calls Tryz.prog 15 #[dv] w (Rt fun u w'=>∃ y:Value × DX,u=y.1∧RD ds rec (fun b=>w.heap.size≤b) y w'∧Ext w w'):=
  Ag (I6 hL dv w hv) fun u w' h=>by
    obtain⟨X,h1,h2⟩:=doc34_G ds rec u w' h.2
    exact⟨(u,⟨X,Rep.len h1,Rep.one h1⟩),rfl,⟨h1,h2⟩,h.1⟩
theorem rc_call {ds:List Dc} (hL:LightDs ds) (dv:Value) (w:World) (hv:Sl w dv ds):Calls Tryz.prog 15 #[dv] w (Rt fun u w'=>∃ y:Value,u=y∧RC ds (fun b=>w.heap.size≤b) y w'∧Ext w w'):=
  Ag (I6 hL dv w hv) fun u w' h=>⟨u,rfl,h.2,h.1⟩
def dx0 (v:Value):Value × DX:=(v,⟨zeroD,rfl,rfl⟩)
theorem Sm.refl (G:Nat→Prop) (w:World):Sm G w w:=fun _ _ _=>rfl
end
section
open Go.RowKit Go.En Go.Pv
attribute [local irreducible] E EL K Val Enters Rt Calls bodyPost Code.wp RQ
end
section
open Go.RowKit Go.En Go.Pv
theorem leads_none {ds:List Dc} {r:Rf} (h:(docF ds r.rcd).isSome=false):Bf ds r=false∧(Cc ds r).1=0∧(Cc ds r).2=0:=by
  unfold Bf Cc
  cases h2:docF ds r.rcd with
  | none=>exact⟨rfl,rfl,rfl⟩
  | some _=>rw [h2] at h;cases h
theorem leads_get {ds:List Dc} (hL:LightDs ds) {r:Rf} {d:Dc} (h:docF ds r.rcd=some d):Bf ds r=(getF d.notes r.note).isSome:=by
  unfold Bf
  rw [h]
  dsimp only
  cases hg:getF d.notes r.note with
  | none=>rw [O4 hg]
  | some n=>
    have hd:=Df hL h
    have hm:=G3 hg
    obtain⟨i,hi⟩:=List.getElem?_of_mem hm
    obtain⟨t,k,hk,_,_⟩:=(hd.notes i n hi).placed
    obtain⟨m,h1,_⟩:=O3 hd k n hm hk
    have hid:n.id=r.note:=by have:=List.find?_some hg;simpa using this
    rw [← hid,h1];rfl
theorem att_role {ds:List Dc} (hL:LightDs ds) {g:Lg} {id:Int} {r:Rf} {d:Dc} {n:Note} (h:docF ds r.rcd=some d) (hn:getF d.notes r.note=some n) (ha:attF ds g id r=true):Mo d n=true:=by
  unfold attF at ha
  rw [h] at ha
  simp only [Bool.and_eq_true] at ha
  obtain⟨_,h2⟩:=ha
  rw [hn] at h2
  unfold witB at h2
  simp only [Bool.and_eq_true] at h2
  exact h2.1
theorem att_get {ds:List Dc} {g:Lg} {id:Int} {r:Rf} {d:Dc} (h:docF ds r.rcd=some d) (hn:getF d.notes r.note=none):attF ds g id r=false:=by
  unfold attF
  rw [h]
  dsimp only
  rw [hn];simp
attribute [local irreducible] E EL K Val Enters Rt Calls bodyPost Code.wp RQ
theorem law8_any (ds:List Dc) (hn:∀ d∈ds,Names d) (g:Lg) (hb:LgBd g) (hll:g.letters.length≤1048576) (id:Int) (r:Rf) (dv pv uv tv rv sv fv ev:Value) (w:World) (hT:Tabs w) (hv:Sl w dv ds) (hg:LangG Tt w g pv uv tv rv sv fv ev) :
    Calls Tryz.prog 8 #[dv,.agg #[pv,str g.oname,uv,tv,rv,int g.net.states,sv,fv,ev],int id,.agg #[int r.rcd,int r.note] ] w (Rt fun u w'=>u=.bool true∧Ext w w'):=by
  refine A7 (n:=105) (args:=[dv,.agg #[pv,str g.oname,uv,tv,rv,int g.net.states,sv,fv,ev],int id,.agg #[int r.rcd,int r.note] ]) Tryz.func8 rfl Tryz.ntmps8 (by simp) ?_
  refine Ac ?_
  refine A8 ?_
  refine Ao Z Z Z Z (fun bG wG xG hbG rG=>?_)
  refine Ao Z Z Z Z (fun bR wR xR hbR rR=>?_)
  replace rG:=rG.ext xR
  have hX:=xG.trans xR
  (repeat' ((fail_if_success (refine Ac (x:=(Code.region 3 _ _)) ?_));first|(refine A9 Z Z (A3 Z Z en12) (Gz ds hn g hb dv pv uv tv rv sv fv ev _ (hv.ext hX) (hg.ext hX)) (fun vC wC hC=>?_);obtain⟨⟨bl,rfl,hl⟩,xC⟩:=hC;replace hX:=hX.trans xC;replace rG:=rG.ext xC;replace rR:=rR.ext xC;cases bl)|(refine cqC (Bp _ (hT.ext hX)) en13 fun wA xA=>?_;replace hX:=hX.trans xA)|refine Ly ?_))
  all_goals (try (exfalso;omega))
  · exact A5 Z Z ⟨rfl,hX⟩
  obtain⟨hL,hok⟩:=hl rfl
  have hcp:=Nr hok hb hll
  refine Ac ?_
  refine E.sub (M:=[(0,dv),(2,int id),(5,.pointer (some ⟨bG,0,none⟩)),(7,.pointer (some ⟨bR,0,none⟩))]) ⟨rfl,rfl,rfl,rfl,trivial⟩ ?_
  obtain⟨ba,hba⟩:∃ b,attF ds g id r=b:=⟨_,rfl⟩
  refine E_dm 8 Aa (by kernel_rfl) Z ?_
  (repeat' (first|(refine Al (f:=15) (fun u w'=>Sl w' u ds) (fun _=>#[dv]) Z Z (fun _ _ _ _ xe h=>SlG.ext h xe) (fun _ _ _=>A3 Z Z en15) (fun wq _ xq _=>?_) ?_;exact Ag (I6 hL dv wq (hv.ext (hX.trans xq))) (fun _ _ hh=>⟨hh.2.any,hh.1⟩))|refine yV Z Z (fun wq _ xq=>Ab Z Z Z (rG.ext xq).at rfl) ?_|refine yV Z Z (fun wq _ xq=>Ab Z Z Z (rR.ext xq).at rfl) ?_|(refine Al (f:=16) (fun u w'=>∃ pv uv tv rv sv fv ev,u=.agg #[pv,str g.oname,uv,tv,rv,int g.net.states,sv,fv,ev]∧LangG Tt w' g pv uv tv rv sv fv ev) (fun _=>#[.agg #[pv,str g.oname,uv,tv,rv,int g.net.states,sv,fv,ev] ]) Z Z (fun _ _ _ _ xe h=>by obtain⟨pv,uv,tv,rv,sv,fv,ev,e,hl⟩:=h;exact⟨pv,uv,tv,rv,sv,fv,ev,e,hl.ext xe⟩) (fun _ _ _=>A3 Z Z en16) (fun wq _ xq _=>?_) ?_;exact Ag (De g hcp pv uv tv rv sv fv ev wq (hg.ext (hX.trans xq))) (fun _ _ hh=>⟨hh.2,hh.1⟩))|(refine B9 (f:=14) (v:=.bool ba) (fun δ=>#[δ 25,δ 27,int id,.agg #[int r.rcd,int r.note] ]) Z Z (fun _ _ _=>A3 Z Z en14) (fun wq δ xq hd=>?_) ?_;(obtain⟨pv',uv',tv',rv',sv',fv',ev',e,hl⟩:=hd 27 rfl _ rfl;rw [e];have:=Ci (D5 hL) g hok id r _ pv' uv' tv' rv' sv' fv' ev' wq (hd 25 rfl _ rfl) hl;rw [att_eq hL,hba] at this;exact this))|(refine B8 (fun wq δ xq hR=>?_);replace hX:=hX.trans xq;replace rG:=rG.ext xq;replace rR:=rR.ext xq;refine eN ?_;refine Ba ?_;skip)|refine Sy ?_|refine yqZ ?_))
  refine E.sub (M:=[(0,dv),(7,.pointer (some ⟨bR,0,none⟩)),(9,.bool ba)]) ⟨rfl,rfl,rfl,trivial⟩ ?_
  obtain⟨b1,hb1⟩:∃ b,(docF ds r.rcd).isSome=b:=⟨_,rfl⟩
  obtain⟨s1,hs1⟩:∃ z,(Cc ds r).1=z:=⟨_,rfl⟩
  obtain⟨s2,hs2⟩:∃ z,(Cc ds r).2=z:=⟨_,rfl⟩
  obtain⟨lb,hlb⟩:∃ b,Bf ds r=b:=⟨_,rfl⟩
  have hwd:Cz ds r=.tuple #[.agg #[int s1,int s2],.bool lb]:=by unfold Cz;rw [hs1,hs2,hlb]
  refine E_rel (id:=4) 7 8 1 10 36 (RC ds) mvRC dv (fun _=>[int s1,int s2])
    [.t 32 dv,.c 33 (fun y=>y),.t 34 (.agg #[int r.rcd,int r.note]),.d 35 (fun _=>.tuple #[.agg #[int s1,int s2],.bool lb]),.d 31 (fun _=>.tuple #[.agg #[int s1,int s2],.bool lb]),.d 36 (fun _=>.agg #[int s1,int s2]),.d 37 (fun _=>.bool lb),.n,.n,.d 11 (fun _=>.bool lb)]
    Aa (by kernel_rfl) rfl rfl rfl rfl rfl rfl rfl rfl (by kernel_rfl) (by decide) rfl (fun _=>rfl) (fun _=>rfl) (fun _=>rfl) rfl
    (fun y=>⟨vcV fun _ _=>zA Z Z,⟨15,#[dv],fun _ _=>A3 Z Z en15,fun wq xq=>rc_call hL dv wq (hv.ext (hX.trans xq))⟩,vcV fun wq xq=>(by first|exact A6 Z Z Z ((Row.ext (by assumption) xq).cellAt (by rfl))|exact Ab Z Z Z (Row.ext (by assumption) xq).at (by rfl)|exact A6 Z Z Z ((At.ext (by assumption) xq).cellAt (by rfl))|exact Ab Z Z Z (At.ext (by assumption) xq) (by rfl)|exact A6 Z Z Z (Ext.cell xq (by assumption))),
      vdC (fun _ _ _ _=>A3 Z Z en35) (fun wq G xq hR=>by have:=Fe hL r y wq (SlG.any hR);rw [hwd] at this;exact this),vdV fun _ _ _ _=>zA Z Z,vdV fun _ _ _ _=>zF Z Z Z,vdV fun _ _ _ _=>zF Z Z Z,vdV fun _ _ _ _=>zB Z Z,trivial⟩) (fun y bW wW GW xW hbW hGW hRW rW=>?_)
  replace hX:=hX.trans xW
  replace rR:=rR.ext xW
  refine Ba ?_
  refine Ac ?_
  refine E.sub (M:=[(0,dv),(7,.pointer (some ⟨bR,0,none⟩)),(9,.bool ba),(10,.pointer (some ⟨bW,0,none⟩)),(11,.bool lb)]) ⟨rfl,rfl,rfl,rfl,rfl,trivial⟩ ?_
  refine E_rel (id:=5) 8 9 1 12 44 (RD ds r.rcd) mvRD (dx0 dv) (fun y=>y.2.X)
    [.t 39 dv,.c 40 (fun y=>y.1),.t 41 (.pointer (some ⟨bR,0+0,none⟩)),.t 42 (int r.rcd),.d 43 (fun y=>.tuple #[.agg y.2.X.toArray,.bool b1]),.d 38 (fun y=>.tuple #[.agg y.2.X.toArray,.bool b1]),.d 44 (fun y=>.agg y.2.X.toArray),.d 45 (fun _=>.bool b1),.n,.n,.d 13 (fun _=>.bool b1)]
    Aa (by kernel_rfl) rfl rfl rfl rfl rfl rfl rfl rfl (by kernel_rfl) (by decide) rfl (fun _=>rfl) (fun y=>y.2.hl) (fun y=>y.2.h1) rfl
    (fun y=>⟨vcV fun _ _=>zA Z Z,⟨15,#[dv],fun _ _=>A3 Z Z en15,fun wq xq=>rd_call hL r.rcd dv wq (hv.ext (hX.trans xq))⟩,vcV fun _ _=>zH Z Z,vcV fun wq xq=>(by first|exact A6 Z Z Z ((Row.ext (by assumption) xq).cellAt (by rfl))|exact Ab Z Z Z (Row.ext (by assumption) xq).at (by rfl)|exact A6 Z Z Z ((At.ext (by assumption) xq).cellAt (by rfl))|exact Ab Z Z Z (At.ext (by assumption) xq) (by rfl)|exact A6 Z Z Z (Ext.cell xq (by assumption))),
      vdC (fun _ _ _ _=>A3 Z Z en34) (fun wq G xq hR=>by have:=hR.2 wq (Sm.refl _ _);rw [hb1] at this;exact this),vdV fun _ _ _ _=>zA Z Z,vdV fun _ _ _ _=>zF Z Z Z,vdV fun _ _ _ _=>zF Z Z Z,vdV fun _ _ _ _=>zB Z Z,trivial⟩) (fun y bD wD GD xD hbD hGD hRD rD=>?_)
  obtain⟨a1,c1,a2,c2,a3,c3,eX,s1D,s2D,s3D⟩:=Jy hRD.1
  have hrD:=hRD.1
  rw [eX] at rD hrD
  replace hX:=hX.trans xD
  replace rR:=rR.ext xD
  replace rW:=rW.ext xD
  refine Ba ?_
  refine E.sub (M:=[(7,.pointer (some ⟨bR,0,none⟩)),(9,.bool ba),(10,.pointer (some ⟨bW,0,none⟩)),(11,.bool lb),(12,.pointer (some ⟨bD,0,none⟩)),(13,.bool b1)]) ⟨rfl,rfl,rfl,rfl,rfl,rfl,trivial⟩ ?_
  cases hdf:docF ds r.rcd with
  | none=>
    have h1f:b1=false:=by rw [← hb1,hdf];rfl
    have hln:=leads_none (ds:=ds) (r:=r) (by rw [hdf];rfl)
    have h2f:lb=false:=by rw [← hlb];exact hln.1
    have h3f:s1=0:=by rw [← hs1];exact hln.2.1
    have h4f:s2=0:=by rw [← hs2];exact hln.2.2
    have h5f:ba=false:=by rw [← hba];exact att_doc (by rw [hdf];rfl)
    subst h1f h2f h3f h4f h5f
    (repeat' (first|refine eV Z Z (Af (vs:=[]) [int 0,int 0] rfl rfl rfl) ?_|refine eV Z Z (Fp Ol (Mh 0 0) Z Z Z) ?_|(refine cqC (Bp _ (hT.ext hX)) en13 fun wA xA=>?_;replace hX:=hX.trans xA)|refine Ly ?_))
    all_goals (try (exfalso;omega))
    exact A5 Z Z ⟨rfl,hX⟩
  | some d=>
    have h1t:b1=true:=by rw [← hb1,hdf];rfl
    subst h1t
    have hdl:=Df hL hdf
    have hdD:docD ds r.rcd=d:=by unfold docD;rw [hdf];rfl
    rw [hdD] at rD hrD s1D s2D s3D
    have hxD:=Ext.refl wD
    have hdat:DcAt wD _ d:=dc_at (rep_any hrD)
    have c37:=fun wz (hz:Ext wD wz)=>M5 hdl _ r.note wz (hdat.ext hz)
    rw [← wd_some hdf,hwd] at c37
    have c36:=fun wz (hz:Ext wD wz)=>Ij d _ r.note wz (hdat.ext hz)
    rw [Nv] at c36
    have hlg:=leads_get hL hdf
    obtain⟨N,hN⟩:∃ N,N=Cf d.notes r.note:=⟨_,rfl⟩
    rw [← hN] at c36
    cases lb with
    | false=>
      have hgn:getF d.notes r.note=none:=by
        rw [hlb] at hlg
        cases hg:getF d.notes r.note with
        | none=>rfl
        | some _=>rw [hg] at hlg;cases hlg
      have h5f:ba=false:=by rw [← hba];exact att_get hdf hgn
      subst h5f
      (repeat' (first|(refine cqC (c37 _ hxD) en37 fun wC xC=>?_;replace hX:=hX.trans xC;replace hxD:=hxD.trans xC;replace rR:=rR.ext xC;replace rW:=rW.ext xC;replace rD:=rD.ext xC)|(refine Am (t:=76) Z Z Z Z Z Z Z Z Z Z (fun bT wT xT hbT rT=>?_);replace hX:=hX.trans xT;replace hxD:=hxD.trans xT;replace rR:=rR.ext xT;replace rW:=rW.ext xT;replace rD:=rD.ext xT)|(refine cqC (c36 _ hxD) en36 fun wC xC=>?_;replace hX:=hX.trans xC;replace hxD:=hxD.trans xC;replace rR:=rR.ext xC;replace rW:=rW.ext xC;replace rD:=rD.ext xC;replace rT:=rT.ext xC)|(refine Am (t:=80) Z Z Z Z Z Z Z Z Z Z (fun bN wN xN hbN rN=>?_);replace hX:=hX.trans xN;replace hxD:=hxD.trans xN;replace rR:=rR.ext xN;replace rW:=rW.ext xN;replace rD:=rD.ext xN;replace rT:=rT.ext xN)|refine eV (v:=.bool true) Z Z (Lu rfl rfl rfl) ?_|refine eV Z Z (Fp Ol (Mh s1 s2) Z Z Z) ?_|(refine cqC (Bp _ (hT.ext hX)) en13 fun wA xA=>?_;replace hX:=hX.trans xA)|refine Ly ?_))
      all_goals (try (exfalso;omega))
      exact A5 Z Z ⟨rfl,hX⟩
    | true=>
      rw [hlb] at hlg
      obtain⟨n,hg⟩:=Option.isSome_iff_exists.1 hlg.symm
      have hNn:N=n:=by rw [hN];unfold Cf;rw [hg];rfl
      obtain⟨i,hi⟩:=List.getElem?_of_mem (G3 hg)
      obtain⟨t,k,hk,ht,_⟩:=(hdl.notes i n hi).placed
      have hkl:=(List.getElem?_eq_some_iff.1 ht).1
      obtain⟨_,_,ee,_,_,htp⟩:=s2D.sl
      cases ee
      obtain⟨tb,tof,rfl⟩:=htp (by omega)
      have hatT:=Cg s2D.any ht
      have hword:ba=true→t.role=2:=fun h=>by
        have:=att_role hL hdf hg (hba.trans h)
        unfold Mo at this
        rw [hk,Int.toNat_natCast,ht] at this
        exact of_decide_eq_true this
      subst hNn
      have hword2:ba=false∨t.role=2:=by cases ba with|false=>exact .inl rfl|true=>exact .inr (hword rfl)
      clear hword
      cases ba
      · (repeat' (first|(refine cqC (c37 _ hxD) en37 fun wC xC=>?_;replace hX:=hX.trans xC;replace hxD:=hxD.trans xC;replace rR:=rR.ext xC;replace rW:=rW.ext xC;replace rD:=rD.ext xC;replace hatT:=hatT.ext xC)|(refine Am (t:=76) Z Z Z Z Z Z Z Z Z Z (fun bT wT xT hbT rT=>?_);replace hX:=hX.trans xT;replace hxD:=hxD.trans xT;replace rR:=rR.ext xT;replace rW:=rW.ext xT;replace rD:=rD.ext xT;replace hatT:=hatT.ext xT)|(refine cqC (c36 _ hxD) en36 fun wC xC=>?_;replace hX:=hX.trans xC;replace hxD:=hxD.trans xC;replace rR:=rR.ext xC;replace rW:=rW.ext xC;replace rD:=rD.ext xC;replace rT:=rT.ext xC;replace hatT:=hatT.ext xC)|(refine Am (t:=80) Z Z Z Z Z Z Z Z Z Z (fun bN wN xN hbN rN=>?_);replace hX:=hX.trans xN;replace hxD:=hxD.trans xN;replace rR:=rR.ext xN;replace rW:=rW.ext xN;replace rD:=rD.ext xN;replace rT:=rT.ext xN;replace hatT:=hatT.ext xN)|refine eV Z Z (A0 (m:=k) Z Z Z (by first|rfl|omega) (by omega)) ?_|refine eV (v:=.bool true) Z Z (Lu rfl rfl rfl) ?_|refine eV Z Z (Fp Ol (Mh s1 s2) Z Z Z) ?_|(refine cqC (Bp _ (hT.ext hX)) en13 fun wA xA=>?_;replace hX:=hX.trans xA)|refine Ly ?_|refine Dy (fun hh=>?_) fun hh=>?_))
        all_goals (try (exfalso;omega))
        all_goals exact A5 Z Z ⟨rfl,hX⟩
      · have h2r:t.role=2:=hword2.resolve_left (by decide)
        (repeat' (first|(refine cqC (c37 _ hxD) en37 fun wC xC=>?_;replace hX:=hX.trans xC;replace hxD:=hxD.trans xC;replace rR:=rR.ext xC;replace rW:=rW.ext xC;replace rD:=rD.ext xC;replace hatT:=hatT.ext xC)|(refine Am (t:=76) Z Z Z Z Z Z Z Z Z Z (fun bT wT xT hbT rT=>?_);replace hX:=hX.trans xT;replace hxD:=hxD.trans xT;replace rR:=rR.ext xT;replace rW:=rW.ext xT;replace rD:=rD.ext xT;replace hatT:=hatT.ext xT)|(refine cqC (c36 _ hxD) en36 fun wC xC=>?_;replace hX:=hX.trans xC;replace hxD:=hxD.trans xC;replace rR:=rR.ext xC;replace rW:=rW.ext xC;replace rD:=rD.ext xC;replace rT:=rT.ext xC;replace hatT:=hatT.ext xC)|(refine Am (t:=80) Z Z Z Z Z Z Z Z Z Z (fun bN wN xN hbN rN=>?_);replace hX:=hX.trans xN;replace hxD:=hxD.trans xN;replace rR:=rR.ext xN;replace rW:=rW.ext xN;replace rD:=rD.ext xN;replace rT:=rT.ext xN;replace hatT:=hatT.ext xN)|refine eV Z Z (A0 (m:=k) Z Z Z (by first|rfl|omega) (by omega)) ?_|refine eV (v:=.bool true) Z Z (Lu rfl rfl rfl) ?_|refine eV Z Z (Fp Ol (Mh s1 s2) Z Z Z) ?_|(refine cqC (Bp _ (hT.ext hX)) en13 fun wA xA=>?_;replace hX:=hX.trans xA)|refine Ly ?_|refine Dy (fun hh=>?_) fun hh=>?_))
        all_goals (try (exfalso;omega))
        all_goals exact A5 Z Z ⟨rfl,hX⟩
end
end Go.Proofs.YtjicdgejhkgpgaaGreatDoor