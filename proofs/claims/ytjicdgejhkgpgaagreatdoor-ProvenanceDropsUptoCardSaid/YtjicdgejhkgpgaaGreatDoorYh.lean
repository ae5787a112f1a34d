/-
  Own text of the proof.
-/
import Derived.Test.YtjicdgejhkgpgaaGreatDoorYg
import Derived.Test.YtjicdgejhkgpgaaGreatDoorYf
set_option linter.all false
set_option maxHeartbeats 4000000
set_option maxRecDepth 8000
namespace Go.Proofs.YtjicdgejhkgpgaaGreatDoor
open Go.RowKit Go.En Go.Pv
theorem K4 {G:Nat→Prop} {w:World} {e:En} {X:List Value} (h:Rep.at_ G w e X):∃ a0 c0 a1 c1 a2 c2 a3 c3 a4 c4,X=[int e.id,.slice a0 e.form.length c0,int e.cls,.slice a1 e.alts.length c1,int e.main,.slice a2 e.senses.length c2,.slice a3 e.links.length c3,.slice a4 e.refs.length c4]∧SlG G w (.slice a0 e.form.length c0) e.form∧SlG G w (.slice a1 e.alts.length c1) e.alts∧SlG G w (.slice a2 e.senses.length c2) e.senses∧SlG G w (.slice a3 e.links.length c3) e.links∧SlG G w (.slice a4 e.refs.length c4) e.refs:=by
  obtain⟨formv,altsv,sensesv,linksv,refsv,rfl,h0,h1,h2,h3,h4⟩:=h
  obtain⟨a0,c0,rfl,_,_,_⟩:=h0.sl
  obtain⟨a1,c1,rfl,_,_,_⟩:=h1.sl
  obtain⟨a2,c2,rfl,_,_,_⟩:=h2.sl
  obtain⟨a3,c3,rfl,_,_,_⟩:=h3.sl
  obtain⟨a4,c4,rfl,_,_,_⟩:=h4.sl
  exact⟨a0,c0,a1,c1,a2,c2,a3,c3,a4,c4,rfl,h0,h1,h2,h3,h4⟩
theorem A1u {w w':World} {e:En} {X:List Value} (h:Rep.at_ Tt w e X) (x:Ext w w'):Rep.at_ Tt w' e X:=Rep.move h (fun b hb hlt=>⟨trivial,x.block hlt⟩)
attribute [local irreducible] E EL K Val Enters Rt Calls bodyPost Code.wp RQ
theorem A8h (e : En) (hg : ∀ x ∈ e.senses, x.gloss.length ≤ 1048576) (X : List Value) (w : World) (h : Rep.at_ Tt w e X) : Calls Tryz.prog 192 #[.agg X.toArray] w (Rt fun u w' => (∃ z : Int, u = int z ∧ (z = 0 → e.senses.length ≤ 5)) ∧ Ext w w') := by
  obtain⟨a0,c0,a1,c1,a2,c2,a3,c3,a4,c4,rfl,h0,h1,h2,h3,h4⟩:=K4 h
  have hv:=h2
  obtain⟨_,_,ee,_,hm,hpp⟩:=h2.sl
  cases ee
  refine A6 (n:=52) (args:=[.agg #[int e.id,.slice a0 e.form.length c0,int e.cls,.slice a1 e.alts.length c1,int e.main,.slice a2 e.senses.length c2,.slice a3 e.links.length c3,.slice a4 e.refs.length c4] ]) Tryz.func192 rfl Tryz.ntmps192 (by simp) ?_
  have hX:=Ext.refl w
  obtain⟨bi,hbi⟩:∃ b,D0 e.main=b:=⟨_,rfl⟩
  have ci:=fun wz=>M9 e.main wz
  rw [hbi] at ci
  cases bi
  all_goals (repeat' (first|(refine C2 Z Z Z Z (fun bX wX xX hbX rX=>?_);replace hX:=hX.trans xX;replace hv:=hv.ext xX)|(refine cqC (ci _) en61 fun wC xC=>?_;replace hX:=hX.trans xC;replace hv:=hv.ext xC;replace rX:=rX.ext xC)|refine Ly ?_|refine Dy (fun hh=>?_) fun hh=>?_))
  all_goals (try (exfalso;omega))
  all_goals first
    | exact A4 Z Z ⟨⟨_,rfl,fun h=>absurd h (by decide)⟩,hX⟩
    | skip
  all_goals
    have h5:e.senses.length≤5:=by omega
    refine B0 (ι:=Nat) (fun i=>[(1,.pointer (some ⟨bX,0,none⟩)),(3,int i)]) (fun i wr=>i≤e.senses.length∧Ext (by first|exact wC|exact wX) wr) (fun i=>e.senses.length-i) 0
      ⟨rfl,rfl,trivial⟩ ⟨Nat.zero_le _,Ext.refl _⟩ ?_
    rintro i wr ⟨hi,hx⟩
    replace rX:=rX.ext hx;replace hX:=hX.trans hx;replace hv:=hv.ext hx
    by_cases hlt:i<e.senses.length
    · obtain⟨b,off,rfl⟩:=hpp (by omega)
      obtain⟨x,hxi⟩:∃ x,e.senses[i]?=some x:=⟨_,List.getElem?_eq_getElem hlt⟩
      have hat:=B3o hv hxi
      have cs:=fun wq (xq:Ext wr wq)=>B1b (e.senses.take i) x (hg x (List.mem_of_getElem? hxi)) (.slice (some ⟨b,off,none⟩) i c2) wq (SlG.take (hv.ext xq) (by omega))
      (repeat' (first|refine yV Z Z (fun _ _ _=>A0 (m:=i) Z Z Z (by first|rfl|omega) (by omega)) ?_|refine yV Z Z (fun _ _ _=>Z9 (b:=i) Z Z Z Z (by omega)) ?_|(refine N7 (fun u _=>∃ z:Int,u=int z) Z Z (fun _ _ _ _ _ h=>h) (fun w δ _ hs=>⟨δ 48,M2 Z Z,hs 48 (by decide) _ rfl⟩) ?_)|refine C8 (f:=222) (fun u w'=>∃ z:Int,u=int z) (fun _=>#[.slice (some ⟨b,off,none⟩) i c2,.agg #[str x.gloss,str x.dfn] ]) Z Z (fun _ _ _ _ xe h=>h) (fun _ _ _=>A5 Z Z en222) (fun wq _ xq _=>C0 (cs wq xq) (fun _ _ hh=>by first|exact⟨hh.1,hh.2⟩|exact⟨hh.2,hh.1⟩)) ?_|refine Ly ?_|refine Dy (fun hh=>?_) fun hh=>?_|refine yqY ?_|refine yqZ ?_|refine E_dq B5 (by kernel_rfl) Z ?_))
      all_goals (try (exfalso;omega))
      all_goals
        refine J4 (fun wq δ xq hR=>?_)
        obtain⟨z,hz⟩:=hR 4 _ rfl
        obtain⟨z2,hz2⟩:=hR 48 _ rfl
        simp only [mat,vG]
        rw [hz,hz2]
        (repeat' (first|refine Sy ?_|refine Dy (fun hh=>?_) fun hh=>?_))
        all_goals (try (exfalso;omega))
        all_goals first
          | exact A4 Z Z ⟨⟨_,rfl,fun h=>absurd h (by assumption)⟩,hX.trans xq⟩
          | exact B3 (i+1) ⟨rfl,rfl,trivial⟩ ⟨by omega,hx.trans xq⟩ (by omega)
    · (repeat' (first|refine Ly ?_|refine Dy (fun hh=>?_) fun hh=>?_))
      all_goals (try (exfalso;omega))
      exact A4 Z Z ⟨⟨_,rfl,fun _=>h5⟩,hX⟩
theorem B1r (e : En) (X : List Value) (w : World) (h : Rep.at_ Tt w e X) : Calls Tryz.prog 193 #[.agg X.toArray] w (Rt fun u w' => (∃ z : Int, u = int z ∧ (z = 0 → e.links.length ≤ 12)) ∧ Ext w w') := by
  obtain⟨a0,c0,a1,c1,a2,c2,a3,c3,a4,c4,rfl,h0,h1,h2,h3,h4⟩:=K4 h
  have hv:=h3
  obtain⟨_,_,ee,_,hm,hpp⟩:=h3.sl
  cases ee
  refine A6 (n:=76) (args:=[.agg #[int e.id,.slice a0 e.form.length c0,int e.cls,.slice a1 e.alts.length c1,int e.main,.slice a2 e.senses.length c2,.slice a3 e.links.length c3,.slice a4 e.refs.length c4] ]) Tryz.func193 rfl Tryz.ntmps193 (by simp) ?_
  have hX:=Ext.refl w
  (repeat' (first|(refine C2 Z Z Z Z (fun bX wX xX hbX rX=>?_);replace hX:=hX.trans xX;replace hv:=hv.ext xX)|refine Ly ?_|refine Dy (fun hh=>?_) fun hh=>?_))
  all_goals (try (exfalso;omega))
  all_goals first
    | exact A4 Z Z ⟨⟨_,rfl,fun h=>absurd h (by decide)⟩,hX⟩
    | skip
  have h5:e.links.length≤12:=by omega
  refine B0 (ι:=Nat) (fun i=>[(1,.pointer (some ⟨bX,0,none⟩)),(3,int i)]) (fun i wr=>i≤e.links.length∧Ext wX wr) (fun i=>e.links.length-i) 0
    ⟨rfl,rfl,trivial⟩ ⟨Nat.zero_le _,Ext.refl _⟩ ?_
  rintro i wr ⟨hi,hx⟩
  replace rX:=rX.ext hx;replace hX:=hX.trans hx;replace hv:=hv.ext hx
  by_cases hlt:i<e.links.length
  · obtain⟨b,off,rfl⟩:=hpp (by omega)
    obtain⟨x,hxi⟩:∃ x,e.links[i]?=some x:=⟨_,List.getElem?_eq_getElem hlt⟩
    have hat:=W6 hv hxi
    obtain⟨bi,hbi⟩:∃ b,D0 x.to=b:=⟨_,rfl⟩
    have ci:=fun wz=>M9 x.to wz
    rw [hbi] at ci
    by_cases h0:i=0
    · subst h0
      cases bi
      all_goals (repeat' (first|(refine C1 Z Z Z Z Z Z Z Z Z Z (fun bE wE xE hbE rE=>?_);replace hx:=hx.trans xE;replace hX:=hX.trans xE;replace hv:=hv.ext xE;replace rX:=rX.ext xE;replace hat:=hat.ext xE)|refine eV Z Z (A0 (m:=0) Z Z Z (by first|rfl|omega) (by omega)) ?_|(refine cqC (ci _) en61 fun wC xC=>?_;replace hx:=hx.trans xC;replace hX:=hX.trans xC;replace hv:=hv.ext xC;replace rX:=rX.ext xC;replace hat:=hat.ext xC;replace rE:=rE.ext xC)|refine Ly ?_|refine Dy (fun hh=>?_) fun hh=>?_|refine yqY ?_|refine yqZ ?_|refine yqX (fun hh=>?_) fun hh=>?_|refine E_dq B5 (by kernel_rfl) Z ?_|refine yN Z (fun wq xq=>?_)|refine yO Z Z ?_))
      all_goals (try (exfalso;omega))
      all_goals first
        | exact A4 Z Z ⟨⟨_,rfl,fun h=>absurd h (by decide)⟩,hX⟩
        | exact A4 Z Z ⟨⟨_,rfl,fun h=>absurd h (by decide)⟩,hX.trans xq⟩
        | exact B3 (0+1) ⟨rfl,rfl,trivial⟩ ⟨by omega,hx.trans xq⟩ (by omega)
    · obtain⟨y,hyi⟩:∃ y,e.links[i-1]?=some y:=⟨_,List.getElem?_eq_getElem (by omega)⟩
      have haty:=W6 hv hyi
      cases bi
      all_goals (repeat' (first|(refine C1 Z Z Z Z Z Z Z Z Z Z (fun bE wE xE hbE rE=>?_);replace hx:=hx.trans xE;replace hX:=hX.trans xE;replace hv:=hv.ext xE;replace rX:=rX.ext xE;replace hat:=hat.ext xE;replace haty:=haty.ext xE)|refine eV Z Z (A0 (m:=i) Z Z Z (by first|rfl|omega) (by omega)) ?_|refine yV Z Z (fun _ _ _=>A0 (m:=i-1) Z Z Z (by first|rfl|omega) (by omega)) ?_|(refine cqC (ci _) en61 fun wC xC=>?_;replace hx:=hx.trans xC;replace hX:=hX.trans xC;replace hv:=hv.ext xC;replace rX:=rX.ext xC;replace hat:=hat.ext xC;replace haty:=haty.ext xC;replace rE:=rE.ext xC)|refine Ly ?_|refine Dy (fun hh=>?_) fun hh=>?_|refine yqY ?_|refine yqZ ?_|refine yqX (fun hh=>?_) fun hh=>?_|refine E_dq B5 (by kernel_rfl) Z ?_|refine yN Z (fun wq xq=>?_)|refine yO Z Z ?_))
      all_goals (try (exfalso;omega))
      all_goals first
        | exact A4 Z Z ⟨⟨_,rfl,fun h=>absurd h (by decide)⟩,hX⟩
        | exact A4 Z Z ⟨⟨_,rfl,fun h=>absurd h (by decide)⟩,hX.trans xq⟩
        | exact B3 (i+1) ⟨rfl,rfl,trivial⟩ ⟨by omega,hx.trans xq⟩ (by omega)
  · (repeat' (first|refine Ly ?_|refine Dy (fun hh=>?_) fun hh=>?_))
    all_goals (try (exfalso;omega))
    exact A4 Z Z ⟨⟨_,rfl,fun _=>h5⟩,hX⟩
end Go.Proofs.YtjicdgejhkgpgaaGreatDoor
namespace Go.En
open Go.RowKit
class Flat (α:Type) [Rep α]:Prop where
  flat:∀(G G':Nat→Prop) (w w':World) (x:α) (cs:List Value),Rep.at_ G w x cs→Rep.at_ G' w' x cs
theorem AtsG.flat' {α:Type} [Rep α] [Flat α] {G G':Nat→Prop} {w w':World} {xs:List α} {css:List (List Value)} (h:AtsG G w xs css):AtsG G' w' xs css:=AllAt.mono (fun _ _ h=>Flat.flat _ _ _ _ _ _ h) h
instance:Flat Int:=⟨fun _ _ _ _ _ _ h=>h⟩
instance:Flat Txt:=⟨fun _ _ _ _ _ _ h=>h⟩
section
variable {P : Program} {n : Nat} {ops rest : List Oper} {Q : Post} {L : List (Nat × Value)} {w : World} {o : Oper}
theorem S7 {α:Type} [Rep α] [Flat α] {d:Nat} {t e:TypeId} {s x:Operand} {z:Value} {size bytes:Nat} [ut:UT P t (.slice e)] [ti:TI P e z size bytes] {G G':Nat→Prop} {u:World} {bS m c:Nat} {a:Option Addr} {ys:List α}
    (hs:SlG G u (.slice a m c) ys) (hx0:Ext u w) (hr:Row w bS e []) (hb:u.heap.size≤bS) (hG:∀ b,u.heap.size≤b→G' b) (hg:gst ops L o=some true) (hd:odst n o.dst=some d) (ho:o.op=.call { callee:=.builtin .append,args:=#[s,x],argTypes:=#[t,t] })
    (hsv:ev L s=some (.slice (some ⟨bS,0,none⟩) 0 0)) (hx:ev L x=some (.slice a m c)) (hz:z.cells.size=size) (hsz:Nat.beq size (Rep.sz α)=true) (hmax:ys.length*bytes≤140737488355328)
    (k:∀ v' w',SlG G' w' v' ys→Ext u w'→EL P n ops Q rest ((d,v')::L) w'):EL P n ops Q (o::rest) L w:=by
  have e0:=Nat.eq_of_beq_eq_true hsz
  subst e0
  have hm:m=ys.length:=by obtain⟨_,_,e,_,_,_⟩:=hs.sl;cases e;rfl
  subst hm
  obtain⟨css,s1,s2⟩:=hs.css
  have hl:=AtsG.flat s1
  have hle:ys.length≤140737488355328:=by obtain⟨_,_,_,_,h,_⟩:=hs.sl;exact h
  have hp:0<Rep.sz α:=Rep.pos
  refine D5 (w0:=u) (news:=css.flatten) (q:=ys.length) (c:=c) (K9 (n:=0) (size:=Rep.sz α) hr (by simp) hb (by omega)) hx0 (fun h0=>?_) hg hd ho hsv hx hl (AtsG.ones s1) hz (Nat.ble_eq_true_of_le hp) (by simpa using hmax) (by omega) (fun vJ wJ oJ xJ kJ hJ=>?_)
  · obtain⟨b,so,e,_,hat⟩:=s2 (by rw [hl];exact Nat.mul_pos h0 hp)
    exact⟨b,so,e,hat.ext hx0⟩
  · exact k vJ wJ (L1 (B:=u.heap.size) (css:=css) (by simpa using oJ) (AtsG.flat' s1) hG rfl hle) xJ
end
def Gq (Gx:Nat→Prop) (ov:Value):Nat→Prop:=fun b=>Gx b∧Nb ov b
def Grow {α:Type} [Rep α] (Gx:Nat→Prop) (u0:World) (e:TypeId) (xs:List α) (ov:Value) (w:World):Prop:=
  Ext u0 w∧∃ css,w.ownsRow u0.heap.size e (Rep.sz α) ov xs.length css.flatten∧AtsG (Gq Gx ov) w xs css
section
variable {α : Type} [Rep α] {Gx : Nat → Prop} {u0 w w' : World} {e : TypeId} {xs : List α} {ov : Value}
theorem Grow.nil {b:Nat} (hr:Row w b e []) (x:Ext u0 w) (hb:u0.heap.size≤b):Grow (α:=α) Gx u0 e [] (.slice (some ⟨b,0,none⟩) 0 0) w:=
  ⟨x,[],K9 (n:=0) (size:=Rep.sz α) hr (by simp) hb (by omega),trivial⟩
theorem Grow.none:Grow (α:=α) Gx w e [] (.slice none 0 0) w:=⟨Ext.refl _,[],⟨by simp,.inl ⟨rfl,rfl⟩⟩,trivial⟩
theorem Grow.x (h:Grow Gx u0 e xs ov w):Ext u0 w:=h.1
theorem Grow.ext (h:Grow Gx u0 e xs ov w) (x:Ext w w'):Grow Gx u0 e xs ov w':=by
  obtain⟨h1,css,h2,h3⟩:=h
  exact⟨h1.trans x,css,C7 h2 x,AtsG.ext h3 x⟩
theorem Grow.nbn (h:Grow Gx u0 e xs ov w) {b:Nat} (hb:w.heap.size≤b):Nb ov b:=fun e'=>by
  obtain⟨_,css,h2,_⟩:=h
  have:=(h2.lt b e'.symm).2;omega
theorem Grow.sl (h:Grow Gx u0 e xs ov w) (hg:∀ b,u0.heap.size≤b→Gx b) (hm:xs.length≤140737488355328):SlG Gx w ov xs:=by
  obtain⟨h1,css,h2,h3⟩:=h
  exact L1 h2 (AtsG.wk h3 fun b hb=>hb.1) hg rfl hm
theorem M1 {P:Program} {n:Nat} {ops rest:List Oper} {Q:Post} {L:List (Nat × Value)} {o:Oper} {d bS:Nat} {t:TypeId} {s y:Operand} {z:Value} {size bytes:Nat} {x:α} {X:List Value} [ut:UT P t (.slice e)] [ti:TI P e z size bytes]
    (h:Grow Gx u0 e xs ov w) (hr:Row w bS e X) (hx:Rep.at_ (Gq Gx ov) w x X) (hg:gst ops L o=some true) (hd:odst n o.dst=some d) (ho:o.op=.call { callee:=.builtin .append,args:=#[s,y],argTypes:=#[t,t] })
    (hsv:ev L s=some ov) (hy:ev L y=some (.slice (some ⟨bS,0,none⟩) 1 1)) (hz:z.cells.size=size) (hsz:Nat.beq size (Rep.sz α)=true) (hmax:(xs.length+1)*bytes≤140737488355328) (hmax':xs.length+1≤140737488355328)
    (k:∀ v' w',Grow Gx u0 e (xs++[x]) v' w'→EL P n ops Q rest ((d,v')::L) w'):EL P n ops Q (o::rest) L w:=by
  have e0:=Nat.eq_of_beq_eq_true hsz
  subst e0
  obtain⟨h1,css,h2,h3⟩:=h
  have hp:0<Rep.sz α:=Rep.pos
  have hl:X.length=Rep.sz α:=Rep.len hx
  refine D5 (w0:=u0) (news:=X) (q:=1) (c:=1) h2 h1 (fun _=>⟨bS,0,rfl,hr.at⟩) hg hd ho hsv hy (by simp [hl]) (Rep.one hx) hz (Nat.ble_eq_true_of_le hp) hmax (by omega) (fun vJ wJ oJ xJ kJ hJ=>?_)
  have mv:∀ b,Gq Gx ov b→b<w.heap.size→Gq Gx vJ b∧wJ.heap[b]?=w.heap[b]?:=fun b hb hlt=>⟨⟨hb.1,(Nb.mv kJ hJ b hb.2 hlt).1⟩,(Nb.mv kJ hJ b hb.2 hlt).2⟩
  refine k vJ wJ ⟨xJ,css++[X],?_,AllAt.append (AtsG.move h3 mv) (AllAt.one (Rep.move hx mv))⟩
  rw [List.flatten_append,List.length_append]
  simpa using oJ
end
end Go.En
namespace Go.Proofs.YtjicdgejhkgpgaaGreatDoor
open Go.RowKit Go.En Go.Pv
instance:Flat Sns:=⟨fun _ _ _ _ _ _ h=>h⟩
instance:Flat Lnk:=⟨fun _ _ _ _ _ _ h=>h⟩
instance:Flat Rf:=⟨fun _ _ _ _ _ _ h=>h⟩
instance:Flat Ph:=⟨fun _ _ _ _ _ _ h=>h⟩
instance:Flat Cls:=⟨fun _ _ _ _ _ _ h=>h⟩
instance:Flat Stp:=⟨fun _ _ _ _ _ _ h=>h⟩
def Gn (B bB bA:Nat):Nat→Prop:=fun b=>B≤b∧b≠bB∧b≠bA
attribute [local irreducible] E EL K Val Enters Rt Calls bodyPost Code.wp RQ
theorem B5l (e:En) (b0:e.form.length≤1000000) (b1:e.alts.length≤1000000) (b1':∀ f∈e.alts,f.length≤1000000) (b2:e.senses.length≤1000000) (b3:e.links.length≤1000000) (b4:e.refs.length≤1000000) (X:List Value) (w:World) (h:Rep.at_ Tt w e X) :
    Calls Tryz.prog 51 #[.agg X.toArray] w (Rt fun u w'=>Ext w w'∧∃ Y:List Value,u=.agg Y.toArray∧Rep.at_ (fun b=>w.heap.size≤b) w' e Y):=by
  obtain⟨a0,c0,a1,c1,a2,c2,a3,c3,a4,c4,rfl,h0,h1,h2,h3,h4⟩:=K4 h
  refine A6 (n:=46) (args:=[.agg #[int e.id,.slice a0 e.form.length c0,int e.cls,.slice a1 e.alts.length c1,int e.main,.slice a2 e.senses.length c2,.slice a3 e.links.length c3,.slice a4 e.refs.length c4] ]) Tryz.func51 rfl Tryz.ntmps51 (by simp) ?_
  refine B4 ?_
  refine A9 ?_
  refine C2 Z Z Z Z (fun bB wB xB hbB rB=>?_)
  refine C3 Z Z Z (fun bA wA xA hbA rA=>?_)
  have hBl:=rB.lt
  replace rB:=rB.ext xA
  have hX:=xB.trans xA
  have hwB:w.heap.size≤bB:=by omega
  have hwA:w.heap.size≤bA:=by have:=xB.size;omega
  have hBA:bB≠bA:=by omega
  have hBu:=rB.lt
  have hAu:=rA.lt
  replace h0:SlG (fun b=>b≠bB∧b≠bA) wA _ _:=h0.move fun b _ hb=>⟨⟨by omega,by omega⟩,hX.block hb⟩
  replace h1:SlG (fun b=>b≠bB∧b≠bA) wA _ _:=h1.move fun b _ hb=>⟨⟨by omega,by omega⟩,hX.block hb⟩
  replace h2:SlG (fun b=>b≠bB∧b≠bA) wA _ _:=h2.move fun b _ hb=>⟨⟨by omega,by omega⟩,hX.block hb⟩
  replace h3:SlG (fun b=>b≠bB∧b≠bA) wA _ _:=h3.move fun b _ hb=>⟨⟨by omega,by omega⟩,hX.block hb⟩
  replace h4:SlG (fun b=>b≠bB∧b≠bA) wA _ _:=h4.move fun b _ hb=>⟨⟨by omega,by omega⟩,hX.block hb⟩
  refine A2b ?_
  refine G8 ?_
  (repeat' ((fail_if_success (refine B4 (x:=(Code.region 2 _ _)) ?_));first|(refine eL Z Z Z Z Z Z Z Z (fun bS wS xS hbS rS=>?_);have rBS:=rB.ext xS)|(refine S7 (G':=Gn w.heap.size bB bA) h0 xS rS (by omega) (fun b hb=>⟨by omega,by omega,by omega⟩) Z Z Z Z Z Z Z (by omega) (fun vJ wJ sJ xJ=>?_);obtain⟨af,cf,rfl,_,_,_⟩:=sJ.sl)|(refine B7 (cs:=[_]) (rB.ext xJ) (hX.trans xJ) hwB rfl rfl rfl rfl rfl rfl rfl rfl (by simp) (fun uN rN xN kN=>?_))|refine Ly ?_))
  replace rB:Row uN bB 65 [int e.id,.slice af e.form.length cf,int e.cls,.slice a1 e.alts.length c1,int e.main,.slice a2 e.senses.length c2,.slice a3 e.links.length c3,.slice a4 e.refs.length c4]:=rN
  replace rA:=kN.row (rA.ext xJ) (fun e=>by cases e;omega)
  replace hX:=xN
  replace h1:=(h1.ext xJ).move (kN.mv fun b hb e=>by cases e;exact hb.1 rfl)
  replace h2:=(h2.ext xJ).move (kN.mv fun b hb e=>by cases e;exact hb.1 rfl)
  replace h3:=(h3.ext xJ).move (kN.mv fun b hb e=>by cases e;exact hb.1 rfl)
  replace h4:=(h4.ext xJ).move (kN.mv fun b hb e=>by cases e;exact hb.1 rfl)
  replace h0:=sJ.move (kN.mv fun b hb e=>by cases e;exact hb.2.1 rfl)
  have hBu:=rB.lt
  have hAu:=rA.lt
  clear rN
  have g1:SlG (fun b=>(b≠bB∧b≠bA)∧b<uN.heap.size) uN (.slice a1 e.alts.length c1) e.alts:=h1.move fun b hb hlt=>⟨⟨hb,hlt⟩,rfl⟩
  have g0:=g1
  obtain⟨_,_,ee,_,hm,hpp⟩:=g1.sl
  cases ee
  (repeat' (first|refine Sy ?_|refine eL Z Z Z Z Z Z Z Z (fun bS wS xS hbS rS=>?_)))
  refine B0 (ι:=Nat × Value) (fun z=>[(1,.pointer (some ⟨bB,0,none⟩)),(2,.pointer (some ⟨bA,0,none⟩)),(3,z.2),(4,int z.1)])
    (fun z wr=>z.1≤e.alts.length∧Grow (Gn w.heap.size bB bA) uN 32 (e.alts.take z.1) z.2 wr) (fun z=>e.alts.length-z.1) (0,.slice (some ⟨bS,0,none⟩) 0 0)
    ⟨rfl,rfl,rfl,rfl,trivial⟩ ⟨Nat.zero_le _,Grow.nil rS xS (by omega)⟩ ?_
  rintro⟨i,ov⟩ wr ⟨hi,hgr⟩
  dsimp only at hi hgr ⊢
  have rBr:=rB.ext hgr.x
  by_cases hlt:i<e.alts.length
  · obtain⟨b,off,rfl⟩:=hpp (by omega)
    obtain⟨f,hfi⟩:∃ f,e.alts[i]?=some f:=⟨_,List.getElem?_eq_getElem hlt⟩
    have htk:e.alts.take (i+1)=e.alts.take i++[f]:=by
      obtain⟨h1,h2⟩:=List.getElem?_eq_some_iff.1 hfi
      rw [List.take_succ_eq_append_getElem h1,h2]
    have hti:(e.alts.take i).length=i:=by rw [List.length_take];omega
    have hfl:=b1' f (List.mem_of_getElem? hfi)
    obtain⟨fa,fc,hatf0,hff⟩:=R4 (g0.ext hgr.x) hfi
    have hcf:=hatf0.one
    have hus:=hgr.x.size
    (repeat' (first|(refine M1 (x:=f) (hgr.ext (xJ.trans xS)) rS ⟨_,rfl,sJ.ext xS⟩ rfl rfl rfl rfl rfl rfl rfl (by omega) (by omega) (fun vK wK hK=>?_))|(refine S7 (G':=Gq (Gn w.heap.size bB bA) ov) hff xS rS (by omega) (fun b hb=>⟨⟨by omega,by omega,by omega⟩,hgr.nbn hb⟩) Z Z Z Z Z Z Z (by omega) (fun vJ wJ sJ xJ=>?_);obtain⟨aJ,cJ,rfl,_,_,_⟩:=sJ.sl)|(refine eL Z Z Z Z Z Z Z Z (fun bS wS xS hbS rS=>?_);have rBS:=rBr.ext xS;have hcS:=Ext.cell xS hcf)|refine eV Z Z (A0 (m:=i) Z Z Z (by first|rfl|omega) (by omega)) ?_|refine Ly ?_|refine Dy (fun hh=>?_) fun hh=>?_|refine eL Z Z Z Z Z Z Z Z (fun bS wS xS hbS rS=>?_)))
    all_goals (try (exfalso;omega))
    exact B3 (i+1,vK) ⟨rfl,rfl,rfl,rfl,trivial⟩ ⟨by dsimp only;omega,by dsimp only;rw [htk];exact hK⟩ (by dsimp only;omega)
  · obtain rfl:i=e.alts.length:=by omega
    rw [List.take_length] at hgr
    have hxr:=hgr.x
    have hor:SlG (Gn w.heap.size bB bA) wr ov e.alts:=hgr.sl (fun b hb=>⟨by omega,by omega,by omega⟩) (by omega)
    obtain⟨ao,co,rfl,_,_,_⟩:=hor.sl
    replace rB:=rB.ext hxr
    replace rA:=rA.ext hxr
    replace hX:=hX.trans hxr
    replace h0:=h0.ext hxr
    replace h2:=h2.ext hxr
    replace h3:=h3.ext hxr
    replace h4:=h4.ext hxr
    (repeat' ((fail_if_success (refine B4 (x:=(Code.region 8 _ _)) ?_));first|(refine B7 (cs:=[_]) rB hX hwB rfl rfl rfl rfl rfl rfl rfl rfl (by simp) (fun uN rN xN kN=>?_))|refine Ly ?_|refine Dy (fun hh=>?_) fun hh=>?_|refine eL Z Z Z Z Z Z Z Z (fun bS wS xS hbS rS=>?_)))
    all_goals (try (exfalso;omega))
    replace rB:Row uN bB 65 [int e.id,.slice af e.form.length cf,int e.cls,.slice ao e.alts.length co,int e.main,.slice a2 e.senses.length c2,.slice a3 e.links.length c3,.slice a4 e.refs.length c4]:=rN
    replace rA:=kN.row rA (fun e=>by cases e;omega)
    replace hX:=xN
    replace h0:=h0.move (kN.mv fun b hb e=>by cases e;exact hb.2.1 rfl)
    replace h2:=h2.move (kN.mv fun b hb e=>by cases e;exact hb.1 rfl)
    replace h3:=h3.move (kN.mv fun b hb e=>by cases e;exact hb.1 rfl)
    replace h4:=h4.move (kN.mv fun b hb e=>by cases e;exact hb.1 rfl)
    replace hor:=hor.move (kN.mv fun b hb e=>by cases e;exact hb.2.1 rfl)
    have hBu:=rB.lt
    have hAu:=rA.lt
    clear rN hgr
    (repeat' ((fail_if_success (refine B4 (x:=(Code.region 9 _ _)) ?_));first|(refine eL Z Z Z Z Z Z Z Z (fun bS wS xS hbS rS=>?_);have rBS:=rB.ext xS)|(refine S7 (G':=Gn w.heap.size bB bA) h2 xS rS (by omega) (fun b hb=>⟨by omega,by omega,by omega⟩) Z Z Z Z Z Z Z (by omega) (fun vJ wJ sJ xJ=>?_);obtain⟨aq,cq,rfl,_,_,_⟩:=sJ.sl)|(refine B7 (cs:=[_]) (rB.ext xJ) (hX.trans xJ) hwB rfl rfl rfl rfl rfl rfl rfl rfl (by simp) (fun uN rN xN kN=>?_))|refine Ly ?_))
    replace rB:Row uN bB 65 [int e.id,.slice af e.form.length cf,int e.cls,.slice ao e.alts.length co,int e.main,.slice aq e.senses.length cq,.slice a3 e.links.length c3,.slice a4 e.refs.length c4]:=rN
    replace rA:=kN.row (rA.ext xJ) (fun e=>by cases e;omega)
    replace hX:=xN
    replace h0:=(h0.ext xJ).move (kN.mv fun b hb e=>by cases e;exact hb.2.1 rfl)
    replace hor:=(hor.ext xJ).move (kN.mv fun b hb e=>by cases e;exact hb.2.1 rfl)
    replace h3:=(h3.ext xJ).move (kN.mv fun b hb e=>by cases e;exact hb.1 rfl)
    replace h4:=(h4.ext xJ).move (kN.mv fun b hb e=>by cases e;exact hb.1 rfl)
    replace h2:=sJ.move (kN.mv fun b hb e=>by cases e;exact hb.2.1 rfl)
    have hBu:=rB.lt
    have hAu:=rA.lt
    clear rN
    (repeat' ((fail_if_success (refine B4 (x:=(Code.region 10 _ _)) ?_));first|(refine eL Z Z Z Z Z Z Z Z (fun bS wS xS hbS rS=>?_);have rBS:=rB.ext xS)|(refine S7 (G':=Gn w.heap.size bB bA) h3 xS rS (by omega) (fun b hb=>⟨by omega,by omega,by omega⟩) Z Z Z Z Z Z Z (by omega) (fun vJ wJ sJ xJ=>?_);obtain⟨al,cl,rfl,_,_,_⟩:=sJ.sl)|(refine B7 (cs:=[_]) (rB.ext xJ) (hX.trans xJ) hwB rfl rfl rfl rfl rfl rfl rfl rfl (by simp) (fun uN rN xN kN=>?_))|refine Ly ?_))
    replace rB:Row uN bB 65 [int e.id,.slice af e.form.length cf,int e.cls,.slice ao e.alts.length co,int e.main,.slice aq e.senses.length cq,.slice al e.links.length cl,.slice a4 e.refs.length c4]:=rN
    replace rA:=kN.row (rA.ext xJ) (fun e=>by cases e;omega)
    replace hX:=xN
    replace h0:=(h0.ext xJ).move (kN.mv fun b hb e=>by cases e;exact hb.2.1 rfl)
    replace hor:=(hor.ext xJ).move (kN.mv fun b hb e=>by cases e;exact hb.2.1 rfl)
    replace h2:=(h2.ext xJ).move (kN.mv fun b hb e=>by cases e;exact hb.2.1 rfl)
    replace h4:=(h4.ext xJ).move (kN.mv fun b hb e=>by cases e;exact hb.1 rfl)
    replace h3:=sJ.move (kN.mv fun b hb e=>by cases e;exact hb.2.1 rfl)
    have hBu:=rB.lt
    have hAu:=rA.lt
    clear rN
    (repeat' ((fail_if_success (refine B4 (x:=(Code.region 11 _ _)) ?_));first|(refine eL Z Z Z Z Z Z Z Z (fun bS wS xS hbS rS=>?_);have rBS:=rB.ext xS)|(refine S7 (G':=Gn w.heap.size bB bA) h4 xS rS (by omega) (fun b hb=>⟨by omega,by omega,by omega⟩) Z Z Z Z Z Z Z (by omega) (fun vJ wJ sJ xJ=>?_);obtain⟨ar,cr,rfl,_,_,_⟩:=sJ.sl)|(refine B7 (cs:=[_]) (rB.ext xJ) (hX.trans xJ) hwB rfl rfl rfl rfl rfl rfl rfl rfl (by simp) (fun uN rN xN kN=>?_))|refine Ly ?_))
    replace rB:Row uN bB 65 [int e.id,.slice af e.form.length cf,int e.cls,.slice ao e.alts.length co,int e.main,.slice aq e.senses.length cq,.slice al e.links.length cl,.slice ar e.refs.length cr]:=rN
    replace rA:=kN.row (rA.ext xJ) (fun e=>by cases e;omega)
    replace hX:=xN
    replace h0:=(h0.ext xJ).move (kN.mv fun b hb e=>by cases e;exact hb.2.1 rfl)
    replace hor:=(hor.ext xJ).move (kN.mv fun b hb e=>by cases e;exact hb.2.1 rfl)
    replace h2:=(h2.ext xJ).move (kN.mv fun b hb e=>by cases e;exact hb.2.1 rfl)
    replace h3:=(h3.ext xJ).move (kN.mv fun b hb e=>by cases e;exact hb.2.1 rfl)
    replace h4:=sJ.move (kN.mv fun b hb e=>by cases e;exact hb.2.1 rfl)
    have hBu:=rB.lt
    have hAu:=rA.lt
    clear rN
    (repeat' (first|(refine B7 (cs:=[int e.id,.slice af e.form.length cf,int e.cls,.slice ao e.alts.length co,int e.main,.slice aq e.senses.length cq,.slice al e.links.length cl,.slice ar e.refs.length cr]) rA hX hwA rfl rfl rfl rfl rfl rfl rfl rfl (Nat.le_refl _) (fun w9 r9 x9 k9=>?_))|refine Ly ?_))
    have mv:∀ b,Gn w.heap.size bB bA b→b<_→w.heap.size≤b∧_:=fun b hb hlt=>⟨hb.1,(k9.mv (G:=Gn w.heap.size bB bA) (fun b hb e=>by cases e;exact hb.2.2 rfl) b hb hlt).2⟩
    exact A9m Z Z Z r9.at rfl ⟨x9,_,rfl,_,_,_,_,_,rfl,h0.move mv,hor.move mv,h2.move mv,h3.move mv,h4.move mv⟩
end Go.Proofs.YtjicdgejhkgpgaaGreatDoor
