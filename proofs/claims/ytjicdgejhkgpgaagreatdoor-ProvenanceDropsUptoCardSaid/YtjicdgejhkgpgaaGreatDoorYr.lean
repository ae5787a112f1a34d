/-
  Own text of the proof.
-/
import Derived.Test.YtjicdgejhkgpgaaGreatDoorYq
import Derived.Test.YtjicdgejhkgpgaaGreatDoorYf
import Derived.Test.YtjicdgejhkgpgaaGreatDoorYp
import Derived.Test.YtjicdgejhkgpgaaGreatDoorYm
import Derived.Test.YtjicdgejhkgpgaaGreatDoorYi
import Derived.Test.YtjicdgejhkgpgaaGreatDoorYe
set_option linter.all false
set_option maxHeartbeats 4000000
set_option maxRecDepth 8000
namespace Go.Proofs.YtjicdgejhkgpgaaGreatDoor
section
open Go.RowKit Go.En Go.Pv
attribute [local irreducible] E EL K Val Enters Rt Calls bodyPost Code.wp RQ
theorem A8s (lex : List En) (h12 : ∀ e ∈ lex, e.links.length ≤ 12) (hn : lex.length ≤ 5) (ev : Value) (w : World) (hv : Sl w ev lex) : Calls Tryz.prog 122 #[ev] w (Rt fun u w' => (∃ z : Int, u = int z) ∧ Ext w w') := by
  have hv0:=hv
  obtain⟨a,cap,rfl,hc,hm,hp⟩:=hv.sl
  refine A6 (n:=91) (args:=[.slice a lex.length cap]) Tryz.func122 rfl Tryz.ntmps122 (by simp) ?_
  (repeat' (first|refine Sy ?_))
  refine B0 (ι:=Nat) (fun i=>[(0,.slice a lex.length cap),(3,int i)]) (fun i wr=>i≤lex.length∧Ext w wr) (fun i=>lex.length-i) 0
    ⟨rfl,rfl,trivial⟩ ⟨Nat.zero_le _,Ext.refl _⟩ ?_
  rintro i wr ⟨hi,hx⟩
  replace hv0:=hv0.ext hx
  by_cases hlt:i<lex.length
  · obtain⟨b,off,rfl⟩:=hp (by omega)
    obtain⟨e,hei⟩:∃ e,lex[i]?=some e:=⟨_,List.getElem?_eq_getElem hlt⟩
    (repeat' (first|refine Sy ?_|refine Dy (fun hh=>?_) fun hh=>?_))
    all_goals (try (exfalso;omega))
    refine B0 (ι:=Nat) (fun k=>[(0,.slice (some ⟨b,off,none⟩) lex.length cap),(3,int i),(4,int k)]) (fun k wk=>k≤e.links.length∧Ext wr wk) (fun k=>e.links.length-k) 0
      ⟨rfl,rfl,rfl,trivial⟩ ⟨Nat.zero_le _,Ext.refl _⟩ ?_
    rintro k wk ⟨hk,hxk⟩
    replace hx:=hx.trans hxk;replace hv0:=hv0.ext hxk
    obtain⟨d0,f0,d1,f1,d2,f2,d3,f3,d4,f4,hat,_,_,_,_,hlk,_⟩:=D3 hv0 hei
    obtain⟨_,_,ee,_,hlm,hlp⟩:=hlk.sl
    cases ee
    by_cases hkl:k<e.links.length
    · obtain⟨lb,lo,rfl⟩:=hlp (by omega)
      obtain⟨x,hxi⟩:∃ x,e.links[k]?=some x:=⟨_,List.getElem?_eq_getElem hkl⟩
      have hatx:=W6 hlk hxi
      cases hg:getE lex x.to with
      | none=>
        have cf:=fun wz hz=>P8 lex x.to (.slice (some ⟨b,off,none⟩) lex.length cap) wz hz
        rw [P5 hg] at cf
        obtain⟨iv,hiv⟩:∃ iv,invF x.kind=iv:=⟨_,rfl⟩
        have ci:=fun wz=>A6y x.kind wz
        rw [hiv] at ci
        (repeat' (first|(refine C1 Z Z Z Z Z Z Z Z Z Z (fun bE wE xE hbE rE=>?_);replace hx:=hx.trans xE;replace hv0:=hv0.ext xE;replace hat:=hat.ext xE;replace hatx:=hatx.ext xE)|refine eV Z Z (A0 (m:=i) Z Z Z (by first|rfl|omega) (by omega)) ?_|refine eV Z Z (A0 (m:=k) Z Z Z (by first|rfl|omega) (by omega)) ?_|(refine cqC (ci _) C5u fun wC xC=>?_;replace hx:=hx.trans xC;replace hv0:=hv0.ext xC;replace hat:=hat.ext xC;replace hatx:=hatx.ext xC;replace rE:=rE.ext xC)|(refine cqC (cf _ hv0) A7k fun wC xC=>?_;replace hx:=hx.trans xC;replace hv0:=hv0.ext xC;replace hat:=hat.ext xC;replace hatx:=hatx.ext xC;replace rE:=rE.ext xC)|refine Ly ?_|refine Dy (fun hh=>?_) fun hh=>?_))
        all_goals (try (exfalso;omega))
        all_goals exact A4 Z Z ⟨⟨_,rfl⟩,hx⟩
      | some y=>
        obtain⟨q,hq,hqe⟩:=A0o hg
        have hql:=(List.getElem?_eq_some_iff.1 hqe).1
        have cf:=fun wz hz=>P8 lex x.to (.slice (some ⟨b,off,none⟩) lex.length cap) wz hz
        rw [hq] at cf
        obtain⟨iv,hiv⟩:∃ iv,invF x.kind=iv:=⟨_,rfl⟩
        have ci:=fun wz=>A6y x.kind wz
        rw [hiv] at ci
        obtain⟨g0,j0,g1,j1,g2,j2,g3,j3,g4,j4,haty,hrepy,_⟩:=D3 hv0 hqe
        obtain⟨X,hX⟩:∃ X,X=[int y.id,.slice g0 y.form.length j0,int y.cls,.slice g1 y.alts.length j1,int y.main,.slice g2 y.senses.length j2,.slice g3 y.links.length j3,.slice g4 y.refs.length j4]:=⟨_,rfl⟩
        rw [← hX] at hrepy
        have ch:=fun wz (xz:Ext wk wz)=>B8a y ⟨iv,e.id⟩ X wz (A1u hrepy xz)
        rw [hX] at ch
        obtain⟨bh,hbh⟩:∃ bh,decide ((⟨iv,e.id⟩:Lnk)∈y.links)=bh:=⟨_,rfl⟩
        rw [hbh] at ch
        have hxk0:=Ext.refl wk
        cases bh
        all_goals (repeat' (first|(refine C1 Z Z Z Z Z Z Z Z Z Z (fun bE wE xE hbE rE=>?_);replace hx:=hx.trans xE;replace hxk0:=hxk0.trans xE;replace hv0:=hv0.ext xE;replace hat:=hat.ext xE;replace hatx:=hatx.ext xE;replace haty:=haty.ext xE)|refine eV Z Z (A0 (m:=i) Z Z Z (by first|rfl|omega) (by omega)) ?_|refine eV Z Z (A0 (m:=k) Z Z Z (by first|rfl|omega) (by omega)) ?_|refine yV Z Z (fun _ _ _=>A0 (m:=i) Z Z Z (by first|rfl|omega) (by omega)) ?_|refine yV Z Z (fun _ _ _=>A0 (m:=q) Z Z Z (by first|rfl|omega) (by omega)) ?_|(refine cqC (ci _) C5u fun wC xC=>?_;replace hx:=hx.trans xC;replace hxk0:=hxk0.trans xC;replace hv0:=hv0.ext xC;replace hat:=hat.ext xC;replace hatx:=hatx.ext xC;replace haty:=haty.ext xC;replace rE:=rE.ext xC)|(refine cqC (cf _ hv0) A7k fun wC xC=>?_;replace hx:=hx.trans xC;replace hxk0:=hxk0.trans xC;replace hv0:=hv0.ext xC;replace hat:=hat.ext xC;replace hatx:=hatx.ext xC;replace haty:=haty.ext xC;replace rE:=rE.ext xC)|refine C4 Z Z (fun _ _ _=>A5 Z Z C5u) (fun wz _=>ci wz) ?_|refine C4 Z Z (fun _ _ _=>A5 Z Z en157) (fun wz xz=>ch wz (hxk0.trans xz)) ?_|refine yV Z Z (fun _ _ _=>B6 (vs:=[(0,int iv),(1,int e.id)]) [int iv,int e.id] rfl rfl rfl) ?_|refine Ly ?_|refine Dy (fun hh=>?_) fun hh=>?_|refine yqY ?_|refine yqZ ?_|refine E_dq B5 (by kernel_rfl) Z ?_|refine yN Z (fun wq xq=>?_)))
        all_goals (try (exfalso;omega))
        all_goals first
          | exact A4 Z Z ⟨⟨_,rfl⟩,hx⟩
          | exact A4 Z Z ⟨⟨_,rfl⟩,hx.trans xq⟩
          | exact B3 (k+1) ⟨rfl,rfl,rfl,trivial⟩ ⟨by omega,hxk.trans (hxk0.trans xq)⟩ (by omega)
    · (repeat' (first|refine eV Z Z (A0 (m:=i) Z Z Z (by first|rfl|omega) (by omega)) ?_|refine Ly ?_|refine Dy (fun hh=>?_) fun hh=>?_))
      all_goals (try (exfalso;omega))
      exact B3 (i+1) ⟨rfl,rfl,trivial⟩ ⟨by omega,hx⟩ (by omega)
  · (repeat' (first|refine Sy ?_|refine Dy (fun hh=>?_) fun hh=>?_))
    all_goals (try (exfalso;omega))
    refine B0 (ι:=Nat) (fun i=>[(0,.slice a lex.length cap),(7,int i)]) (fun i wk=>i≤lex.length∧Ext wr wk) (fun i=>lex.length-i) 0
      ⟨rfl,rfl,trivial⟩ ⟨Nat.zero_le _,Ext.refl _⟩ ?_
    rintro i wk ⟨hi,hxk⟩
    replace hx:=hx.trans hxk;replace hv0:=hv0.ext hxk
    by_cases hlt:i<lex.length
    · obtain⟨b,off,rfl⟩:=hp (by omega)
      obtain⟨e,hei⟩:∃ e,lex[i]?=some e:=⟨_,List.getElem?_eq_getElem hlt⟩
      obtain⟨d0,f0,d1,f1,d2,f2,d3,f3,d4,f4,hat,_⟩:=D3 hv0 hei
      obtain⟨b1,hb1⟩:∃ b1,decide (e.id∈V3 lex e.id 2)=b1:=⟨_,rfl⟩
      obtain⟨b2,hb2⟩:∃ b2,decide (e.id∈V3 lex e.id 4)=b2:=⟨_,rfl⟩
      cases b1
      all_goals (cases b2)
      all_goals (repeat' (first|refine yV Z Z (fun _ _ _=>A0 (m:=i) Z Z Z (by first|rfl|omega) (by omega)) ?_|refine C8 (f:=159) (fun u w'=>Sl w' u (V3 lex e.id 2)) (fun _=>#[.slice (some ⟨b,off,none⟩) lex.length cap,int e.id,int 2]) Z Z (fun _ _ _ _ xe h=>SlG.ext h xe) (fun _ _ _=>A5 Z Z en159) (fun wq _ xq _=>C0 (A2s lex h12 hn e.id 2 _ wq (hv0.ext xq)) (fun _ _ hh=>hh)) ?_|refine C8 (f:=159) (fun u w'=>Sl w' u (V3 lex e.id 4)) (fun _=>#[.slice (some ⟨b,off,none⟩) lex.length cap,int e.id,int 4]) Z Z (fun _ _ _ _ xe h=>SlG.ext h xe) (fun _ _ _=>A5 Z Z en159) (fun wq _ xq _=>C0 (A2s lex h12 hn e.id 4 _ wq (hv0.ext xq)) (fun _ _ hh=>hh)) ?_|(refine H2 (f:=158) (v:=.bool true) (fun δ=>#[δ 69,int e.id]) Z Z (fun _ _ _=>A5 Z Z C0r) (fun wq δ xq hd=>?_) ?_;(have:=A1a (V3 lex e.id 2) e.id _ wq (hd 69 rfl _ rfl);rw [hb1] at this;exact this))|(refine H2 (f:=158) (v:=.bool false) (fun δ=>#[δ 69,int e.id]) Z Z (fun _ _ _=>A5 Z Z C0r) (fun wq δ xq hd=>?_) ?_;(have:=A1a (V3 lex e.id 2) e.id _ wq (hd 69 rfl _ rfl);rw [hb1] at this;exact this))|(refine H2 (f:=158) (v:=.bool true) (fun δ=>#[δ 83,int e.id]) Z Z (fun _ _ _=>A5 Z Z C0r) (fun wq δ xq hd=>?_) ?_;(have:=A1a (V3 lex e.id 4) e.id _ wq (hd 83 rfl _ rfl);rw [hb2] at this;exact this))|(refine H2 (f:=158) (v:=.bool false) (fun δ=>#[δ 83,int e.id]) Z Z (fun _ _ _=>A5 Z Z C0r) (fun wq δ xq hd=>?_) ?_;(have:=A1a (V3 lex e.id 4) e.id _ wq (hd 83 rfl _ rfl);rw [hb2] at this;exact this))|refine J4 (fun wq δ xq hR=>?_)|refine Sy ?_|refine Dy (fun hh=>?_) fun hh=>?_|refine yqY ?_|refine yqZ ?_|refine E_dq B5 (by kernel_rfl) Z ?_|refine yO Z Z ?_))
      all_goals (try (exfalso;omega))
      all_goals first
        | exact A4 Z Z ⟨⟨_,rfl⟩,hx.trans xq⟩
        | exact B3 (i+1) ⟨rfl,rfl,trivial⟩ ⟨by omega,hxk.trans xq⟩ (by omega)
    · (repeat' (first|refine Sy ?_|refine Dy (fun hh=>?_) fun hh=>?_))
      all_goals (try (exfalso;omega))
      exact A4 Z Z ⟨⟨_,rfl⟩,hx⟩
theorem A8b (lex : List En) (hn : lex.length ≤ 5) (ev : Value) (w : World) (hv : Sl w ev lex) : Calls Tryz.prog 123 #[ev] w (Rt fun u w' => (∃ z : Int, u = int z) ∧ Ext w w') := by
  have hv0:=hv
  obtain⟨a,cap,rfl,hc,hm,hp⟩:=hv.sl
  refine A6 (n:=44) (args:=[.slice a lex.length cap]) Tryz.func123 rfl Tryz.ntmps123 (by simp) ?_
  (repeat' (first|refine Sy ?_))
  refine B0 (ι:=Nat) (fun i=>[(0,.slice a lex.length cap),(3,int i)]) (fun i wr=>i≤lex.length∧Ext w wr) (fun i=>lex.length-i) 0
    ⟨rfl,rfl,trivial⟩ ⟨Nat.zero_le _,Ext.refl _⟩ ?_
  rintro i wr ⟨hi,hx⟩
  replace hv0:=hv0.ext hx
  by_cases hlt:i<lex.length
  · obtain⟨b,off,rfl⟩:=hp (by omega)
    obtain⟨e,hei⟩:∃ e,lex[i]?=some e:=⟨_,List.getElem?_eq_getElem hlt⟩
    obtain⟨d0,f0,d1,f1,d2,f2,d3,f3,d4,f4,hat,_⟩:=D3 hv0 hei
    (repeat' (first|refine eV Z Z (A0 (m:=i) Z Z Z (by first|rfl|omega) (by omega)) ?_|(refine cqC (A0r lex e.main _ _ hv0) C5t fun wC xC=>?_;replace hx:=hx.trans xC)|refine Ly ?_|refine Dy (fun hh=>?_) fun hh=>?_))
    all_goals (try (exfalso;omega))
    all_goals first
      | exact A4 Z Z ⟨⟨_,rfl⟩,hx⟩
      | exact B3 (i+1) ⟨rfl,rfl,trivial⟩ ⟨by omega,hx⟩ (by omega)
  · (repeat' (first|refine Sy ?_|refine Dy (fun hh=>?_) fun hh=>?_))
    all_goals (try (exfalso;omega))
    refine B0 (ι:=Nat) (fun i=>[(0,.slice a lex.length cap),(4,int i)]) (fun i wk=>i≤lex.length∧Ext wr wk) (fun i=>lex.length-i) 0
      ⟨rfl,rfl,trivial⟩ ⟨Nat.zero_le _,Ext.refl _⟩ ?_
    rintro i wk ⟨hi,hxk⟩
    replace hx:=hx.trans hxk;replace hv0:=hv0.ext hxk
    by_cases hlt:i<lex.length
    · obtain⟨b,off,rfl⟩:=hp (by omega)
      obtain⟨e,hei⟩:∃ e,lex[i]?=some e:=⟨_,List.getElem?_eq_getElem hlt⟩
      obtain⟨d0,f0,d1,f1,d2,f2,d3,f3,d4,f4,hat,_⟩:=D3 hv0 hei
      (repeat' (first|refine eV Z Z (A0 (m:=i) Z Z Z (by first|rfl|omega) (by omega)) ?_|(refine A8 Z Z (A5 Z Z en161) (B6g lex e.id _ _ hv0 (by omega)) (fun vC wC hC=>?_);obtain⟨xC,sC⟩:=hC;obtain⟨wa,wc,rfl,_,_,_⟩:=sC.sl;replace hx:=hx.trans xC;replace hxk:=hxk.trans xC)|refine Ly ?_|refine Dy (fun hh=>?_) fun hh=>?_))
      all_goals (try (exfalso;omega))
      all_goals first
        | exact A4 Z Z ⟨⟨_,rfl⟩,hx⟩
        | exact B3 (i+1) ⟨rfl,rfl,trivial⟩ ⟨by omega,hxk⟩ (by omega)
    · (repeat' (first|refine Sy ?_|refine Dy (fun hh=>?_) fun hh=>?_))
      all_goals (try (exfalso;omega))
      exact A4 Z Z ⟨⟨_,rfl⟩,hx⟩
end
section
open Go.RowKit Go.En Go.Pv
attribute [local irreducible] E EL K Val Enters Rt Calls bodyPost Code.wp RQ
def entP (segs:List Ph) (e:En):Prop:=C3n segs e∧e.senses.length≤5∧e.links.length≤12∧e.refs.length≤12
theorem A8v (segs:List Ph) (e:En) (hg:∀ x∈e.senses,x.gloss.length≤1048576) (pv:Value) (X:List Value) (w:World) (hp:Sl w pv segs) (h:Rep.at_ Tt w e X):Calls Tryz.prog 153 #[.agg #[pv],.agg X.toArray] w (Rt fun u w'=>(∃ z:Int,u=int z∧(z=0→entP segs e))∧Ext w w'):=by
  obtain⟨a0,c0,a1,c1,a2,c2,a3,c3,a4,c4,rfl,h0,h1,h2,h3,h4⟩:=K4 h
  refine A6 (n:=27) (args:=[.agg #[pv],.agg #[int e.id,.slice a0 e.form.length c0,int e.cls,.slice a1 e.alts.length c1,int e.main,.slice a2 e.senses.length c2,.slice a3 e.links.length c3,.slice a4 e.refs.length c4] ]) Tryz.func153 rfl Tryz.ntmps153 (by simp) ?_
  have hX:=Ext.refl w
  refine B4 ?_
  refine A9 ?_
  refine C2 Z Z Z Z (fun bP wP xP hbP rP=>?_)
  replace hX:=hX.trans xP;replace hp:=hp.ext xP;replace h4:=h4.ext xP
  replace h:=A1u h xP
  (repeat' (first|(refine C2 Z Z Z Z (fun bX wX xX hbX rX=>?_);replace hX:=hX.trans xX;replace hp:=hp.ext xX;replace h4:=h4.ext xX;replace rP:=rP.ext xX;replace h:=A1u h xX)|(refine A8 Z Z (A5 Z Z en191) (B0n segs e pv _ _ hp h) (fun vC wC hC=>?_);obtain⟨⟨z1,rfl,hz1⟩,xC⟩:=hC;replace hX:=hX.trans xC;replace hp:=hp.ext xC;replace h4:=h4.ext xC;replace rP:=rP.ext xC;replace rX:=rX.ext xC);replace h:=A1u h xC|(refine A8 Z Z (A5 Z Z en192) (A8h e hg _ _ h) (fun vC wC hC=>?_);obtain⟨⟨z2,rfl,hz2⟩,xC⟩:=hC;replace hX:=hX.trans xC;replace hp:=hp.ext xC;replace h4:=h4.ext xC;replace rP:=rP.ext xC;replace rX:=rX.ext xC);replace h:=A1u h xC|(refine A8 Z Z (A5 Z Z en193) (B1r e _ _ h) (fun vC wC hC=>?_);obtain⟨⟨z3,rfl,hz3⟩,xC⟩:=hC;replace hX:=hX.trans xC;replace hp:=hp.ext xC;replace h4:=h4.ext xC;replace rP:=rP.ext xC;replace rX:=rX.ext xC);replace h:=A1u h xC|(refine cqC (B7j e.refs _ _ h4) en99 fun wC xC=>?_;replace hX:=hX.trans xC)|refine Ly ?_|refine Dy (fun hh=>?_) fun hh=>?_))
  all_goals first
    | exact A4 Z Z ⟨⟨_,rfl,fun h=>absurd h (by assumption)⟩,hX⟩
    | skip
  refine A4 Z Z ⟨⟨_,rfl,fun hz=>?_⟩,hX⟩
  have g1:z1=0:=by omega
  have g2:z2=0:=by omega
  have g3:z3=0:=by omega
  refine⟨hz1 g1,hz2 g2,hz3 g3,?_⟩
  by_cases h12:12<e.refs.length
  · rw [if_pos h12] at hz;cases hz
  · omega
theorem A7d (lex:List En) (id:Int) (ev:Value) (w:World) (hv:Sl w ev lex):Calls Tryz.prog 154 #[ev,int id] w (Rt fun u w'=>u=.bool (getE lex id).isSome∧Ext w w'):=by
  refine A6 (n:=14) (args:=[ev,int id]) Tryz.func154 rfl Tryz.ntmps154 (by simp) ?_
  have hX:=Ext.refl w
  cases hg:getE lex id with
  | none=>
    have cg:=B8e hg ev w hv
    (repeat' (first|(refine cqC cg en53 fun wC xC=>?_;replace hX:=hX.trans xC)|(refine C1 (cs:=zeroE) Z Z Z Z Z Z Z Z Z Z (fun bN wN xN hbN rN=>?_);replace hX:=hX.trans xN)|refine Sy ?_))
    exact A4 Z Z ⟨rfl,hX⟩
  | some e=>
    obtain⟨X,hrep0,_,cg0⟩:=B8d hg ev w hv
    obtain⟨a0,c0,a1,c1,a2,c2,a3,c3,a4,c4,rfl,_⟩:=K4 hrep0
    have cg:=cg0 w (Ext.refl _)
    (repeat' (first|(refine cqC cg en53 fun wC xC=>?_;replace hX:=hX.trans xC)|(refine C1 Z Z Z Z Z Z Z Z Z Z (fun bN wN xN hbN rN=>?_);replace hX:=hX.trans xN)|refine Sy ?_))
    exact A4 Z Z ⟨rfl,hX⟩
def lexP (segs:List Ph) (lex:List En):Prop:=(∀ e∈lex,entP segs e)∧∀(i:Nat) (a b:En),lex[i]?=some a→lex[i+1]?=some b→a.id<b.id
theorem A8r (segs : List Ph) (lex : List En) (hg : ∀ e ∈ lex, ∀ x ∈ e.senses, x.gloss.length ≤ 1048576) (pv ev : Value) (w : World) (hp : Sl w pv segs) (hv : Sl w ev lex) : Calls Tryz.prog 121 #[.agg #[pv], ev] w (Rt fun u w' => (∃ z : Int, u = int z ∧ (z = 0 → lexP segs lex)) ∧ Ext w w') := by
  have hv0:=hv
  obtain⟨a,c,rfl,_,hm,hpp⟩:=hv.sl
  refine A6 (n:=87) (args:=[.agg #[pv],.slice a lex.length c]) Tryz.func121 rfl Tryz.ntmps121 (by simp) ?_
  have hX:=Ext.refl w
  (repeat' (first|(refine C2 Z Z Z Z (fun bX wX xX hbX rX=>?_);replace hX:=hX.trans xX;replace hv0:=hv0.ext xX;replace hp:=hp.ext xX)|refine Sy ?_|refine Dy (fun hh=>?_) fun hh=>?_))
  all_goals (try (exfalso;omega))
  · exact A4 Z Z ⟨⟨_,rfl,fun h=>absurd h (by decide)⟩,hX⟩
  refine B0 (ι:=Nat) (fun i=>[(1,.slice a lex.length c),(2,.pointer (some ⟨bX,0,none⟩)),(13,int lex.length),(14,int i)]) (fun i wr=>i≤lex.length∧Ext wX wr∧(∀(j:Nat) (e:En),j<i→lex[j]?=some e→entP segs e)∧∀(j:Nat) (a b:En),j+1<i→lex[j]?=some a→lex[j+1]?=some b→a.id<b.id) (fun i=>lex.length-i) 0
    ⟨rfl,rfl,rfl,rfl,trivial⟩ ⟨Nat.zero_le _,Ext.refl _,fun _ _ h=>absurd h (by omega),fun _ _ _ h=>absurd h (by omega)⟩ ?_
  rintro i wr ⟨hi,hx,hall,hup⟩
  replace rX:=rX.ext hx;replace hX:=hX.trans hx;replace hv0:=hv0.ext hx;replace hp:=hp.ext hx
  by_cases hlt:i<lex.length
  · obtain ⟨b, off, rfl⟩ := hpp (by omega)
    obtain⟨e,hei⟩:∃ e,lex[i]?=some e:=⟨_,List.getElem?_eq_getElem hlt⟩
    obtain⟨d0,f0,d1,f1,d2,f2,d3,f3,d4,f4,hat,hrep,_⟩:=D3 hv0 hei
    have cc:=fun wz (xz:Ext wr wz)=>A8v segs e (hg e (List.mem_of_getElem? hei)) pv _ wz (hp.ext xz) (A1u hrep xz)
    (repeat' (first|refine yV Z Z (fun _ _ _=>A0 (m:=i) Z Z Z (by first|rfl|omega) (by omega)) ?_|(refine N7 (fun u _=>∃ z:Int,u=int z∧(z=0→entP segs e)) Z Z (fun _ _ _ _ _ h=>h) (fun w δ _ hs=>⟨δ 22,M2 Z Z,hs 22 (by decide) _ rfl⟩) ?_)|refine C8 (f:=153) (fun u w'=>∃ z:Int,u=int z∧(z=0→entP segs e)) (fun _=>#[.agg #[pv],.agg #[int e.id,.slice d0 e.form.length f0,int e.cls,.slice d1 e.alts.length f1,int e.main,.slice d2 e.senses.length f2,.slice d3 e.links.length f3,.slice d4 e.refs.length f4] ]) Z Z (fun _ _ _ _ xe h=>h) (fun _ _ _=>A5 Z Z en153) (fun wq _ xq _=>C0 (cc wq xq) (fun _ _ hh=>by first|exact⟨hh.1,hh.2⟩|exact⟨hh.2,hh.1⟩)) ?_|refine Sy ?_|refine Dy (fun hh=>?_) fun hh=>?_|refine yqY ?_|refine yqZ ?_|refine E_dq B5 (by kernel_rfl) Z ?_))
    all_goals (try (exfalso;omega))
    refine J4 (fun wq δ xq hR=>?_)
    obtain⟨z,hz,hzP⟩:=hR 6 _ rfl
    obtain⟨z2,hz2,_⟩:=hR 22 _ rfl
    simp only [mat,vG]
    rw [hz,hz2]
    replace rX:=rX.ext xq;replace hX:=hX.trans xq;replace hx:=hx.trans xq;replace hv0:=hv0.ext xq;replace hp:=hp.ext xq;replace hat:=hat.ext xq
    by_cases hz0:z=0
    · have hE:=hzP hz0
      subst hz0
      by_cases h0:i=0
      · subst h0
        (repeat' (first|refine yV Z Z (fun _ _ _=>A0 (m:=0) Z Z Z (by first|rfl|omega) (by omega)) ?_|refine Sy ?_|refine Dy (fun hh=>?_) fun hh=>?_|refine yqY ?_|refine yqZ ?_|refine yqX (fun hh=>?_) fun hh=>?_|refine E_dq B5 (by kernel_rfl) Z ?_|refine yN Z (fun wq xq=>?_)|refine yO Z Z ?_))
        all_goals (try (exfalso;omega))
        all_goals first
          | exact absurd rfl (by assumption)
          | skip
        refine B3 (0+1) ⟨rfl,rfl,rfl,rfl,trivial⟩ ⟨by omega,hx.trans xq,fun j e' hj hj'=>?_,fun j _ _ hj=>absurd hj (by omega)⟩ (by omega)
        obtain rfl:j=0:=by omega
        rw [hei] at hj';cases hj';exact hE
      · obtain⟨p,hpi⟩:∃ p,lex[i-1]?=some p:=⟨_,List.getElem?_eq_getElem (by omega)⟩
        obtain⟨_,_,_,_,_,_,_,_,_,_,hatp,_⟩:=D3 hv0 hpi
        (repeat' (first|refine yV Z Z (fun _ _ _=>A0 (m:=i) Z Z Z (by first|rfl|omega) (by omega)) ?_|refine yV Z Z (fun _ _ _=>A0 (m:=i-1) Z Z Z (by first|rfl|omega) (by omega)) ?_|refine Sy ?_|refine Dy (fun hh=>?_) fun hh=>?_|refine yqY ?_|refine yqZ ?_|refine yqX (fun hh=>?_) fun hh=>?_|refine E_dq B5 (by kernel_rfl) Z ?_|refine yN Z (fun wq xq=>?_)|refine yO Z Z ?_))
        all_goals (try (exfalso;omega))
        all_goals first
          | exact absurd rfl (by assumption)
          | exact A4 Z Z ⟨⟨_,rfl,fun h=>absurd h (by decide)⟩,hX.trans xq⟩
          | skip
        refine B3 (i+1) ⟨rfl,rfl,rfl,rfl,trivial⟩ ⟨by omega,hx.trans xq,fun j e' hj hj'=>?_,fun j a' b' hj hj1 hj2=>?_⟩ (by omega)
        · by_cases e2:j=i
          · subst e2;rw [hei] at hj';cases hj';exact hE
          · exact hall j e' (by omega) hj'
        · by_cases e2:j+1=i
          · subst e2
            rw [hei] at hj2;cases hj2
            rw [show j+1-1=j by omega,hj1] at hpi;cases hpi
            omega
          · exact hup j a' b' (by omega) hj1 hj2
    · (repeat' (first|refine Sy ?_|refine Dy (fun hh=>?_) fun hh=>?_))
      all_goals first
        | exact absurd hz0 (by assumption)
        | exact A4 Z Z ⟨⟨_,rfl,fun h=>absurd h hz0⟩,hX⟩
  · have hP:lexP segs lex:=⟨fun e he=>by
        obtain⟨j,hj⟩:=List.getElem?_of_mem he
        exact hall j e (by have:=(List.getElem?_eq_some_iff.1 hj).1;omega) hj,fun j a b h1 h2=>hup j a b (by have:=(List.getElem?_eq_some_iff.1 h2).1;omega) h1 h2⟩
    clear hall hup
    (repeat' (first|refine Sy ?_|refine Dy (fun hh=>?_) fun hh=>?_))
    all_goals (try (exfalso;omega))
    refine B0 (ι:=Nat) (fun i=>[(1,.slice a lex.length c),(44,int lex.length),(45,int i)]) (fun i wk=>i≤lex.length∧Ext wr wk) (fun i=>lex.length-i) 0
      ⟨rfl,rfl,rfl,trivial⟩ ⟨Nat.zero_le _,Ext.refl _⟩ ?_
    rintro i wk ⟨hi,hxk⟩
    have hxr:=hxk
    replace hX:=hX.trans hxk;replace hv0:=hv0.ext hxk
    by_cases hlt:i<lex.length
    · obtain⟨b,off,rfl⟩:=hpp (by omega)
      obtain⟨e,hei⟩:∃ e,lex[i]?=some e:=⟨_,List.getElem?_eq_getElem hlt⟩
      obtain⟨d0,f0,d1,f1,d2,f2,d3,f3,d4,f4,hat,_,_,_,_,hlk,_⟩:=D3 hv0 hei
      obtain⟨_,_,ee,_,hlm,hlp⟩:=hlk.sl
      cases ee
      have hv1:=hv0
      have hat1:=hat
      have hlk1:=hlk
      have hX1:=hX
      have cm:=fun wz hz=>A7d lex e.main (.slice (some ⟨b,off,none⟩) lex.length c) wz hz
      obtain⟨bm,hbm⟩:∃ b,(getE lex e.main).isSome=b:=⟨_,rfl⟩
      rw [hbm] at cm
      cases bm
      all_goals (repeat' (first|refine eV Z Z (A0 (m:=i) Z Z Z (by first|rfl|omega) (by omega)) ?_|(refine cqC (cm _ hv0) en154 fun wC xC=>?_;replace hX:=hX.trans xC;replace hxk:=hxk.trans xC;replace hv0:=hv0.ext xC;replace hat:=hat.ext xC;replace hlk:=hlk.ext xC)|refine Ly ?_|refine Dy (fun hh=>?_) fun hh=>?_))
      all_goals (try (exfalso;omega))
      all_goals first
        | exact A4 Z Z ⟨⟨_,rfl,fun h=>absurd h (by decide)⟩,hX⟩
        | skip
      all_goals
        refine B0 (ι:=Nat) (fun k=>[(1,.slice (some ⟨b,off,none⟩) lex.length c),(7,int i),(44,int lex.length),(45,int i),(69,int e.links.length),(70,int k)]) (fun k wn=>k≤e.links.length∧Ext wk wn) (fun k=>e.links.length-k) 0
          ⟨rfl,rfl,rfl,rfl,rfl,rfl,trivial⟩ ⟨Nat.zero_le _,by first|exact xC|exact Ext.refl _⟩ ?_
        rintro k wn ⟨hk,hxn⟩
        replace hv1:=hv1.ext hxn;replace hat1:=hat1.ext hxn;replace hlk1:=hlk1.ext hxn;replace hX1:=hX1.trans hxn
        by_cases hlk2:k<e.links.length
        · obtain⟨lb,lo,rfl⟩:=hlp (by omega)
          obtain⟨x,hxi⟩:∃ x,e.links[k]?=some x:=⟨_,List.getElem?_eq_getElem hlk2⟩
          have hatx:=W6 hlk1 hxi
          have cn:=fun wz hz=>A7d lex x.to (.slice (some ⟨b,off,none⟩) lex.length c) wz hz
          obtain⟨bn,hbn⟩:∃ b,(getE lex x.to).isSome=b:=⟨_,rfl⟩
          rw [hbn] at cn
          cases bn
          all_goals (repeat' (first|refine eV Z Z (A0 (m:=i) Z Z Z (by first|rfl|omega) (by omega)) ?_|refine eV Z Z (A0 (m:=k) Z Z Z (by first|rfl|omega) (by omega)) ?_|(refine A8 Z Z (A5 Z Z en154) (cn _ hv1) (fun vC wD hC=>?_);obtain⟨rfl,xD⟩:=hC;replace hX1:=hX1.trans xD;replace hxn:=hxn.trans xD)|refine Ly ?_|refine Dy (fun hh=>?_) fun hh=>?_))
          all_goals (try (exfalso;omega))
          all_goals first
            | exact A4 Z Z ⟨⟨_,rfl,fun h=>absurd h (by decide)⟩,hX1⟩
            | exact B3 (k+1) ⟨rfl,rfl,rfl,rfl,rfl,rfl,trivial⟩ ⟨by omega,hxn⟩ (by omega)
        · (repeat' (first|refine Sy ?_|refine Dy (fun hh=>?_) fun hh=>?_))
          all_goals (try (exfalso;omega))
          exact B3 (i+1) ⟨rfl,rfl,rfl,trivial⟩ ⟨by omega,hxr.trans hxn⟩ (by omega)
    · (repeat' (first|refine Sy ?_|refine Dy (fun hh=>?_) fun hh=>?_))
      all_goals (try (exfalso;omega))
      exact A4 Z Z ⟨⟨_,rfl,fun _=>hP⟩,hX⟩
end
section
open Go.RowKit Go.En Go.Pv
theorem ints146:Ints Tryz.prog 146 3 3:=⟨by kernel_rfl,by kernel_rfl,by kernel_rfl,by kernel_rfl,Tryz.underlying3⟩
def stpP (N:Net) (x:Stp):Prop:=0≤x.frm∧x.frm<N.states∧0≤x.to∧x.to<N.states∧1≤x.cls∧x.cls≤20
attribute [local irreducible] E EL K Val Enters Rt Calls bodyPost Code.wp RQ
theorem B7s (N:Net) (sv fv:Value) (w:World) (hs:Sl w sv N.steps) (hf:Sl w fv N.final):Calls Tryz.prog 120 #[.agg #[int N.states,sv,fv] ] w (Rt fun u w'=>(∃ e:Int,u=int e∧(e=0→NetOK N))∧Ext w w'):=by
  have hs0:=hs
  have hf0:=hf
  obtain⟨sa,sc,rfl,_,hsm,hsp⟩:=hs.sl
  obtain⟨fa,fc,rfl,_,hfm,hfp⟩:=hf.sl
  refine A6 (n:=98) (args:=[.agg #[int N.states,.slice sa N.steps.length sc,.slice fa N.final.length fc] ]) Tryz.func120 rfl Tryz.ntmps120 (by simp) ?_
  have hX:=Ext.refl w
  (repeat' (first|(refine C2 Z Z Z Z (fun bX wX xX hbX rX=>?_);replace hX:=hX.trans xX;replace hs0:=hs0.ext xX;replace hf0:=hf0.ext xX)|refine Ly ?_|refine Dy (fun hh=>?_) fun hh=>?_))
  all_goals (try (exfalso;omega))
  all_goals first
    | exact A4 Z Z ⟨⟨_,rfl,fun h=>absurd h (by decide)⟩,hX⟩
    | skip
  have hn:1≤N.states∧N.states≤24:=by omega
  refine B0 (ι:=Nat) (fun i=>[(1,.pointer (some ⟨bX,0,none⟩)),(3,int i)]) (fun i wr=>i≤N.steps.length∧Ext wX wr∧∀(j:Nat) (x:Stp),j<i→N.steps[j]?=some x→stpP N x) (fun i=>N.steps.length-i) 0
    ⟨rfl,rfl,trivial⟩ ⟨Nat.zero_le _,Ext.refl _,fun _ _ h=>absurd h (by omega)⟩ ?_
  rintro i wr ⟨hi,hx,hall⟩
  replace rX:=rX.ext hx;replace hX:=hX.trans hx;replace hs0:=hs0.ext hx;replace hf0:=hf0.ext hx
  by_cases hlt:i<N.steps.length
  · obtain⟨sb,so,rfl⟩:=hsp (by omega)
    obtain⟨x,hxi⟩:∃ x,N.steps[i]?=some x:=⟨_,List.getElem?_eq_getElem hlt⟩
    have hat:=A6d hs0 hxi
    have hXr:=Ext.refl wr
    obtain⟨b1,hb1⟩:∃ b,A1q N.states x.frm=b:=⟨_,rfl⟩
    obtain⟨b2,hb2⟩:∃ b,A1q N.states x.to=b:=⟨_,rfl⟩
    have c1:=fun wz=>X6 N.states x.frm (.slice (some ⟨sb,so,none⟩) N.steps.length sc) (.slice fa N.final.length fc) wz
    have c2:=fun wz=>X6 N.states x.to (.slice (some ⟨sb,so,none⟩) N.steps.length sc) (.slice fa N.final.length fc) wz
    rw [hb1] at c1
    rw [hb2] at c2
    cases b1
    all_goals (cases b2)
    all_goals (repeat' (first|(refine C1 Z Z Z Z Z Z Z Z Z Z (fun bE wE xE hbE rE=>?_);replace hX:=hX.trans xE;replace hXr:=hXr.trans xE;replace rX:=rX.ext xE;replace hs0:=hs0.ext xE;replace hf0:=hf0.ext xE;replace hat:=hat.ext xE)|refine eV Z Z (A0 (m:=i) Z Z Z (by first|rfl|omega) (by omega)) ?_|(refine cqC (c1 _) C5v fun wC xC=>?_;replace hX:=hX.trans xC;replace hXr:=hXr.trans xC;replace rX:=rX.ext xC;replace rE:=rE.ext xC;replace hs0:=hs0.ext xC;replace hf0:=hf0.ext xC;replace hat:=hat.ext xC)|(refine cqC (c2 _) C5v fun wC xC=>?_;replace hX:=hX.trans xC;replace hXr:=hXr.trans xC;replace rX:=rX.ext xC;replace rE:=rE.ext xC;replace hs0:=hs0.ext xC;replace hf0:=hf0.ext xC;replace hat:=hat.ext xC)|refine Ly ?_|refine Dy (fun hh=>?_) fun hh=>?_))
    all_goals (try (exfalso;omega))
    all_goals first
      | exact A4 Z Z ⟨⟨_,rfl,fun h=>absurd h (by decide)⟩,hX⟩
      | skip
    unfold A1q at hb1 hb2
    rw [decide_eq_true_eq] at hb1 hb2
    have hpx:1≤x.cls∧x.cls≤20:=by omega
    refine B0 (ι:=Nat) (fun k=>[(1,.pointer (some ⟨bX,0,none⟩)),(3,int i),(4,.pointer (some ⟨bE,0,none⟩)),(5,int k)]) (fun k wk=>k≤i∧Ext wC wk) (fun k=>i-k) 0
      ⟨rfl,rfl,rfl,rfl,trivial⟩ ⟨Nat.zero_le _,Ext.refl _⟩ ?_
    rintro k wk ⟨hk,hxk⟩
    replace rX:=rX.ext hxk;replace hX:=hX.trans hxk;replace hXr:=hXr.trans hxk;replace hs0:=hs0.ext hxk;replace hf0:=hf0.ext hxk;replace rE:=rE.ext hxk
    by_cases hlk:k<i
    · obtain⟨y,hyk⟩:∃ y,N.steps[k]?=some y:=⟨_,List.getElem?_eq_getElem (by omega)⟩
      have haty:=A6d hs0 hyk
      (repeat' (first|refine yV Z Z (fun _ _ _=>A0 (m:=k) Z Z Z (by first|rfl|omega) (by omega)) ?_|refine yD Z Z (fun _ _ _=>S9 [y.frm,y.cls,y.to] [x.frm,x.cls,x.to] ints146 rfl rfl rfl rfl rfl rfl rfl) (fun hh=>?_) (fun hh=>?_)|refine Sy ?_|refine Dy (fun hh=>?_) fun hh=>?_|refine yqY ?_|refine yqZ ?_|refine E_dq B5 (by kernel_rfl) Z ?_|refine yN Z (fun wq xq=>?_)))
      all_goals (try (exfalso;omega))
      all_goals first
        | exact A4 Z Z ⟨⟨_,rfl,fun h=>absurd h (by decide)⟩,hX.trans xq⟩
        | exact B3 (k+1) ⟨rfl,rfl,rfl,rfl,trivial⟩ ⟨by omega,hxk.trans xq⟩ (by omega)
    · (repeat' (first|refine Sy ?_|refine Dy (fun hh=>?_) fun hh=>?_))
      all_goals (try (exfalso;omega))
      refine B3 (i+1) ⟨rfl,rfl,trivial⟩ ⟨by omega,hx.trans hXr,fun j y hj hy=>?_⟩ (by omega)
      by_cases e:j=i
      · subst e;rw [hxi] at hy;cases hy
        exact⟨hb1.1,hb1.2,hb2.1,hb2.2,hpx.1,hpx.2⟩
      · exact hall j y (by omega) hy
  · have hall':∀ x∈N.steps,stpP N x:=fun x hx=>by
      obtain⟨q,hq⟩:=List.getElem?_of_mem hx
      exact hall q x (by have:=(List.getElem?_eq_some_iff.1 hq).1;omega) hq
    clear hall
    (repeat' (first|refine Ly ?_|refine Dy (fun hh=>?_) fun hh=>?_))
    all_goals (try (exfalso;omega))
    refine B0 (ι:=Nat) (fun i=>[(1,.pointer (some ⟨bX,0,none⟩)),(6,int i)]) (fun i wk=>1≤i∧Ext wr wk) (fun i=>N.final.length-i) 1
      ⟨rfl,rfl,trivial⟩ ⟨Nat.le_refl _,Ext.refl _⟩ ?_
    rintro i wk ⟨hi,hxk⟩
    replace rX:=rX.ext hxk;replace hX:=hX.trans hxk;replace hs0:=hs0.ext hxk;replace hf0:=hf0.ext hxk
    by_cases hlt:i<N.final.length
    · obtain⟨fb,fo,rfl⟩:=hfp (by omega)
      obtain⟨x,hxi⟩:∃ x,N.final[i]?=some x:=⟨_,List.getElem?_eq_getElem hlt⟩
      obtain⟨y,hyi⟩:∃ y,N.final[i-1]?=some y:=⟨_,List.getElem?_eq_getElem (by omega)⟩
      have hat:=(Go.Pv.int_elem hf0 hxi).one
      have haty:=(Go.Pv.int_elem hf0 hyi).one
      (repeat' (first|refine yV Z Z (fun _ _ _=>A0 (m:=i) Z Z Z Z (by omega)) ?_|refine yV Z Z (fun _ _ _=>A0 (m:=i-1) Z Z Z (by omega) (by omega)) ?_|refine Ly ?_|refine Dy (fun hh=>?_) fun hh=>?_|refine yqY ?_|refine yqZ ?_|refine yqX (fun hh=>?_) fun hh=>?_|refine E_dq B5 (by kernel_rfl) Z ?_|refine yN Z (fun wq xq=>?_)))
      all_goals (try (exfalso;omega))
      all_goals first
        | exact A4 Z Z ⟨⟨_,rfl,fun h=>absurd h (by decide)⟩,hX.trans xq⟩
        | exact B3 (i+1) ⟨rfl,rfl,trivial⟩ ⟨by omega,hxk.trans xq⟩ (by omega)
    · (repeat' (first|refine Ly ?_|refine Dy (fun hh=>?_) fun hh=>?_))
      all_goals (try (exfalso;omega))
      refine B0 (ι:=Nat) (fun i=>[(1,.pointer (some ⟨bX,0,none⟩)),(7,int i)]) (fun i wz=>i≤N.final.length∧Ext wk wz∧∀(j:Nat) (q:Int),j<i→N.final[j]?=some q→0≤q∧q<N.states) (fun i=>N.final.length-i) 0
        ⟨rfl,rfl,trivial⟩ ⟨Nat.zero_le _,Ext.refl _,fun _ _ h=>absurd h (by omega)⟩ ?_
      rintro i wz ⟨hi,hxz,hq⟩
      replace rX:=rX.ext hxz;replace hX:=hX.trans hxz;replace hs0:=hs0.ext hxz;replace hf0:=hf0.ext hxz
      by_cases hlt:i<N.final.length
      · obtain⟨fb,fo,rfl⟩:=hfp (by omega)
        obtain⟨x,hxi⟩:∃ x,N.final[i]?=some x:=⟨_,List.getElem?_eq_getElem hlt⟩
        have hat:=(Go.Pv.int_elem hf0 hxi).one
        obtain⟨b1,hb1⟩:∃ b,A1q N.states x=b:=⟨_,rfl⟩
        have c1:=fun wz (_:Ext wz wz)=>X6 N.states x (.slice sa N.steps.length sc) (.slice (some ⟨fb,fo,none⟩) N.final.length fc) wz
        rw [hb1] at c1
        cases b1
        all_goals (repeat' (first|refine yV Z Z (fun _ _ _=>A0 (m:=i) Z Z Z (by first|rfl|omega) (by omega)) ?_|refine C4 Z Z (fun _ _ _=>A5 Z Z C5v) (fun wq _=>c1 wq (Ext.refl _)) ?_|refine Ly ?_|refine Dy (fun hh=>?_) fun hh=>?_|refine yqY ?_|refine yqZ ?_|refine E_dq B5 (by kernel_rfl) Z ?_|refine yN Z (fun wq xq=>?_)))
        all_goals (try (exfalso;omega))
        all_goals first
          | exact A4 Z Z ⟨⟨_,rfl,fun h=>absurd h (by decide)⟩,hX.trans xq⟩
          | skip
        unfold A1q at hb1
        rw [decide_eq_true_eq] at hb1
        refine B3 (i+1) ⟨rfl,rfl,trivial⟩ ⟨by omega,hxz.trans xq,fun j y hj hy=>?_⟩ (by omega)
        by_cases e:j=i
        · subst e;rw [hxi] at hy;cases hy;exact hb1
        · exact hq j y (by omega) hy
      · (repeat' (first|refine Ly ?_|refine Dy (fun hh=>?_) fun hh=>?_))
        all_goals (try (exfalso;omega))
        refine A4 Z Z ⟨⟨_,rfl,fun _=>⟨hn.1,hn.2,fun x hx=>hall' x hx,fun q hm=>?_⟩⟩,hX⟩
        obtain⟨j,hj⟩:=List.getElem?_of_mem hm
        exact hq j q (by have:=(List.getElem?_eq_some_iff.1 hj).1;omega) hj
end
end Go.Proofs.YtjicdgejhkgpgaaGreatDoor