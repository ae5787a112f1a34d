/-
  Walks: the program's with, Find and Put. Walks: the program's Find and Put. Walk: the program's Take. Walks: num's Same and Has, lists' Same, the reference's role, less, Find, Same. Walks: Check, the program's and the reference's. An index in order: the place of a key is where it stands. Right indexes, plainly: what Put and Take do to them. Right indexes, plainly: Put, Take and Find. Right indexes, plainly: the reference's Put and Take. Right indexes, plainly: the reference's Put and Take are the program's.
-/
import Derived.Test.YtnifmbbpfdghmaaGreatDoorYf
import Derived.Test.YtnifmbbpfdghmaaGreatDoorY8
import Derived.Test.YtnifmbbpfdghmaaGreatDoorXa
set_option linter.all false
namespace Go.Proofs.YtnifmbbpfdghmaaGreatDoor.Ix
open Go.RowKit Go.En
def Fr (G:Nat→Prop) (w:World):Nat→Prop:=fun b=>G b∨w.heap.size≤b
attribute [local irreducible] E EL K Val Enters Rt Calls bodyPost Code.wp RQ
end Go.Proofs.YtnifmbbpfdghmaaGreatDoor.Ix
namespace Go.Proofs.YtnifmbbpfdghmaaGreatDoor.Ix
open Go.RowKit Go.En
def IxG (G:Nat→Prop) (w:World) (v:Value) (xs:List Post):Prop:=∃ s,v=.agg #[s]∧SlG G w s xs
abbrev Ix (w:World) (v:Value) (xs:List Post):Prop:=IxG Tt w v xs
theorem IxG.ext {G:Nat→Prop} {w w':World} {v:Value} {xs:List Post} (h:IxG G w v xs) (x:Ext w w'):IxG G w' v xs:=by
  obtain⟨s,hs,h⟩:=h;exact⟨s,hs,h.ext x⟩
theorem IxG.any {G:Nat→Prop} {w:World} {v:Value} {xs:List Post} (h:IxG G w v xs):Ix w v xs:=by
  obtain⟨s,hs,h⟩:=h;exact⟨s,hs,h.any⟩
attribute [local irreducible] E EL K Val Enters Rt Calls bodyPost Code.wp RQ
end Go.Proofs.YtnifmbbpfdghmaaGreatDoor.Ix
namespace Go.Proofs.YtnifmbbpfdghmaaGreatDoor.Ix
open Go.RowKit Go.En
attribute [local irreducible] E EL K Val Enters Rt Calls bodyPost Code.wp RQ
end Go.Proofs.YtnifmbbpfdghmaaGreatDoor.Ix
namespace Go.Proofs.YtnifmbbpfdghmaaGreatDoor.Ix
open Go.RowKit Go.En
theorem txt_elem {G:Nat→Prop} {w:World} {b off n cap:Nat} {xs:List Txt} (h:SlG G w (.slice (some ⟨b,off,none⟩) n cap) xs) {i:Nat} {x:Txt} (hx:xs[i]?=some x):w.cell? ⟨b,off+i*1,none⟩=some (str x.l):=by
  obtain⟨cs,h1,h2⟩:=h.elem hx
  rw [show cs=[str x.l] from h1] at h2
  exact h2.one
theorem txt_ne {x y:Txt} (h:¬ x=y):¬ x.l=y.l:=fun e=>h (by cases x;cases y;simpa using e)
attribute [local irreducible] E EL K Val Enters Rt Calls bodyPost Code.wp RQ
set_option maxRecDepth 8000 in
theorem role_any (r:Int) (w:World):Calls Tryz.prog 125 #[int r] w (Rt fun u w'=>u=.bool (isRole r)∧Ext w w'):=by
  refine calls_E (n:=9) (args:=[int r]) Tryz.func125 rfl Tryz.ntmps125 (by simp) ?_
  (repeat' (first|(refine at_EL ?_;first|refine eN ?_|refine eO Z Z ?_|refine eV Z Z (zA Z Z) ?_|refine eV Z Z (zB Z Z) ?_|(refine at_bin ?_;first|refine eD Z Z (zN Z Z Z) (fun hh=>?_) (fun hh=>?_)|refine eD Z Z (zP Z Z Z) (fun hh=>?_) (fun hh=>?_))|refine eV Z Z (zC Z Z Z) ?_|refine eV Z Z (zD Z Z Z) ?_)|(refine at_K ?_;first|refine K_then ?_)|(refine at_E ?_;first|refine E_seq ?_|refine E_region ?_|refine E_ret ?_)))
  all_goals (first|(exfalso;omega)|skip)
  all_goals refine ret_1 Z Z ⟨?_,Ext.refl _⟩
  all_goals (unfold isRole;simp;omega)
set_option maxRecDepth 8000 in
theorem less_any (p q:Post) (iv iv':Value) (w:World):Calls Tryz.prog 126 #[.agg #[int p.role,str p.text,iv],.agg #[int q.role,str q.text,iv']] w (Rt fun u w'=>u=.bool (decide (ltK p.role p.text q.role q.text))∧Ext w w'):=by
  refine calls_E (n:=24) (args:=[.agg #[int p.role,str p.text,iv],.agg #[int q.role,str q.text,iv']]) Tryz.func126 rfl Tryz.ntmps126 (by simp) ?_
  refine E_seq ?_
  refine E_region ?_
  refine EL_box Z Z Z Z (fun bB wB xB hbB rB=>?_)
  refine EL_box Z Z Z Z (fun bC wC xC hbC rC=>?_)
  have rB':=rB.ext xC
  (repeat' (first|refine eV Z Z (val_load Z Z Z (rB'.cellAt rfl)) ?_|refine eV Z Z (val_load Z Z Z (rC.cellAt rfl)) ?_|(refine at_EL ?_;first|refine eN ?_|refine eO Z Z ?_|refine eV Z Z (zA Z Z) ?_|refine eV Z Z (zB Z Z) ?_|(refine at_bin ?_;first|refine eD Z Z (zL Z Z Z) (fun hh=>?_) (fun hh=>?_)|refine eD Z Z (zM Z Z Z) (fun hh=>?_) (fun hh=>?_)|refine eD Z Z (zT Z Z Z) (fun hh=>?_) (fun hh=>?_))|refine eV Z Z (zC Z Z Z) ?_|refine eV Z Z (zD Z Z Z) ?_|refine eV Z Z (zH Z Z) ?_)|(refine at_K ?_;first|refine K_then ?_)|(refine at_E ?_;first|refine E_seq ?_|refine E_region ?_|refine E_ret ?_)))
  all_goals (first|(exfalso;omega)|skip)
  all_goals refine ret_1 Z Z ⟨?_,xB.trans xC⟩
  all_goals (unfold ltK;congr 1;simp only [*];simp)
def rfindF (xs:List Post) (r:Int) (t:List UInt8):List Int:=match xs.find? fun p=>decide (p.role=r∧p.text=t) with|none=>[]|some p=>p.ids
set_option maxRecDepth 8000 in
theorem rfind_any (xs : List Post) (v : Value) (r : Int) (t : List UInt8) (w : World) (hv : Sl w v xs) : Calls Tryz.prog 159 #[.agg #[v], int r, str t] w (Rt fun u w' => Ext w w' ∧ Sl w' u (rfindF xs r t)) := by
  refine calls_E (n:=39) (args:=[.agg #[v],int r,str t]) Tryz.func159 rfl Tryz.ntmps159 (by simp) ?_
  have hv0:=hv
  obtain⟨a,cap,rfl,hc,hm,hp⟩:=hv.sl
  (repeat' (first|refine EL_box Z Z Z Z (fun bB wB xB hbB rB=>?_)|(refine at_EL ?_;first|refine eN ?_|refine eV Z Z (zB Z Z) ?_)|(refine at_K ?_;first|refine K_then ?_)|(refine at_E ?_;first|refine E_seq ?_|refine E_region ?_|refine E_block ?_)))
  refine E_loop (ι:=Nat) (fun i=>[(1,int r),(2,str t),(3,.pointer (some ⟨bB,0,none⟩)),(7,int i)])
    (fun i wr=>i≤xs.length∧Ext wB wr∧∀ j,j<i→∀ q,xs[j]?=some q→decide (q.role=r∧q.text=t)=false) (fun i=>xs.length-i) 0
    ⟨rfl,rfl,rfl,rfl,trivial⟩ ⟨Nat.zero_le _,Ext.refl _,fun j hj=>by omega⟩ ?_
  rintro i wr ⟨hi,hx,hall⟩
  have rR:=rB.ext hx
  have hvr:=hv0.ext (xB.trans hx)
  by_cases hlt:i<xs.length
  · obtain⟨b,off,rfl⟩:=hp (by omega)
    obtain⟨q,hq⟩:∃ q,xs[i]?=some q:=⟨_,List.getElem?_eq_getElem hlt⟩
    obtain⟨iv,hat,hiv⟩:=post_elem hvr hq
    (repeat' (first|refine eV Z Z (val_load Z Z Z (rR.cellAt rfl)) ?_|refine eV Z Z (val_indexAddr (m:=i) Z Z Z Z hlt) ?_|refine eV Z Z (val_load Z Z Z (hat.cellAt (j:=0) Z)) ?_|refine eV Z Z (val_load Z Z Z (hat.cellAt (j:=1) Z)) ?_|refine eV Z Z (val_load Z Z Z (hat.cellAt (j:=2) Z)) ?_|(refine at_EL ?_;first|refine eN ?_|refine eO Z Z ?_|refine eV Z Z (zA Z Z) ?_|refine eV Z Z (zB Z Z) ?_|(refine at_bin ?_;first|refine eD Z Z (zL Z Z Z) (fun hh=>?_) (fun hh=>?_)|refine eD Z Z (zM Z Z Z) (fun hh=>?_) (fun hh=>?_)|refine eD Z Z (zR Z Z Z) (fun hh=>?_) (fun hh=>?_)|refine eV Z Z (zU Z Z Z (by omega) (by omega)) ?_)|(refine at_call ?_;first|refine eV Z Z (zK Z Z) ?_)|refine eV Z Z (zC Z Z Z) ?_|refine eV Z Z (zD Z Z Z) ?_|refine eV Z Z (zH Z Z) ?_)|(refine at_K ?_;first|refine K_then ?_|refine K_in ?_|refine K_then_ret ?_|refine K_then_exit ?_|refine K_in_ret ?_|refine K_in_exit ?_)|(refine at_E ?_;first|refine E_seq ?_|refine E_region ?_|refine E_cond_t Z ?_|refine E_cond_f Z ?_|refine E_block ?_|refine E_skip ?_|refine E_ret ?_|refine E_exit ?_)))
    all_goals (first|(exfalso;omega)|skip)
    · refine ret_1 Z Z ⟨xB.trans hx,?_⟩
      have h1:q.role=r:=by assumption
      have h2:q.text=t:=by assumption
      unfold rfindF
      rw [find_here hall hq (by simp [h1,h2])]
      exact hiv
    all_goals
      refine K_rnd (i+1) ⟨rfl,rfl,rfl,rfl,trivial⟩ ⟨by omega,hx,fun j hj q' hq'=>?_⟩ (by omega)
      by_cases hj2:j<i
      · exact hall j hj2 q' hq'
      · obtain rfl:j=i:=by omega
        rw [hq] at hq';cases hq'
        rw [decide_eq_false]
        rintro⟨h1,h2⟩
        contradiction
  · (repeat' (first|refine eV Z Z (val_load Z Z Z (rR.cellAt rfl)) ?_|(refine at_EL ?_;first|refine eN ?_|refine eV Z Z (zA Z Z) ?_|refine eV Z Z (zB Z Z) ?_|(refine at_bin ?_;first|refine eD Z Z (zL Z Z Z) (fun hh=>?_) (fun hh=>?_))|(refine at_call ?_;first|refine eV Z Z (zK Z Z) ?_)|refine eV Z Z (zH Z Z) ?_)|(refine at_K ?_;first|refine K_then ?_|refine K_then_exit ?_|refine K_in_exit ?_)|(refine at_E ?_;first|refine E_seq ?_|refine E_region ?_|refine E_cond_t Z ?_|refine E_cond_f Z ?_|refine E_block ?_|refine E_skip ?_|refine E_ret ?_|refine E_exit ?_)))
    all_goals (first|(exfalso;omega)|skip)
    refine ret_1 Z Z ⟨xB.trans hx,?_⟩
    unfold rfindF
    rw [List.find?_eq_none.2 (fun q hq=>by
      obtain⟨j,hj⟩:=List.getElem?_of_mem hq
      have:=(List.getElem?_eq_some_iff.1 hj).1
      rw [hall j (by omega) q hj];simp)]
    exact SlG.nil
end Go.Proofs.YtnifmbbpfdghmaaGreatDoor.Ix
namespace Go.Proofs.YtnifmbbpfdghmaaGreatDoor.Ix
open Go.RowKit Go.En
attribute [local irreducible] E EL K Val Enters Rt Calls bodyPost Code.wp RQ
end Go.Proofs.YtnifmbbpfdghmaaGreatDoor.Ix
namespace Go.Proofs.YtnifmbbpfdghmaaGreatDoor.Ix
open Go.RowKit Go.En
def Ordered (xs:List Post):Prop:=∀(i j:Nat) (p q:Post),i<j→xs[i]?=some p→xs[j]?=some q→ltK p.role p.text q.role q.text
theorem place_of {xs:List Post} (ho:Ordered xs) {i:Nat} {p:Post} (hp:xs[i]?=some p):placeN xs p.role p.text=i:=by
  refine takeWhile_stop2 (fun j hj q hq=>decide_eq_true (ho j i q p hj hq hp)) (by have:=(List.getElem?_eq_some_iff.1 hp).1;omega) (fun q hq=>?_)
  rw [hp] at hq;cases hq
  exact decide_eq_false ltK_irrefl
theorem find_eq {xs:List Post} (ho:Ordered xs) (r:Int) (t:List UInt8):findF xs r t=rfindF xs r t:=by
  unfold rfindF
  cases hf:xs.find? fun p=>decide (p.role=r∧p.text=t) with
  | none=>
    have hno:=List.find?_eq_none.1 hf
    unfold findF
    split
    · rfl
    · rename_i p hp
      exact if_neg (by have:=hno p (List.mem_of_getElem? hp);simpa using this)
  | some p=>
    have hm:=List.mem_of_find?_eq_some hf
    have hk:=List.find?_some hf
    simp only [decide_eq_true_eq] at hk
    obtain⟨i,hi⟩:=List.getElem?_of_mem hm
    obtain⟨rfl,rfl⟩:=hk
    have hpl:=place_of ho hi
    unfold findF
    rw [hpl,hi]
    exact if_pos ⟨rfl,rfl⟩
end Go.Proofs.YtnifmbbpfdghmaaGreatDoor.Ix
namespace Go.Proofs.YtnifmbbpfdghmaaGreatDoor.Ix
open Go.RowKit Go.En
def Good (p:Post):Prop:=isRole p.role=true∧p.ids≠[]∧rise p.ids=true
def Right (xs:List Post):Prop:=(∀ p∈xs,Good p)∧Ordered xs
theorem ord_cons {x : Post} {r : List Post} : Ordered (x :: r) ↔ (∀ p ∈ r, ltK x.role x.text p.role p.text) ∧ Ordered r := by
  constructor
  · intro h
    refine⟨fun p hp=>?_,fun i j p q hij hp hq=>h (i+1) (j+1) p q (by omega) (by simpa using hp) (by simpa using hq)⟩
    obtain⟨j,hj⟩:=List.getElem?_of_mem hp
    exact h 0 (j+1) x p (by omega) rfl (by simpa using hj)
  · rintro⟨h1,h2⟩ i j p q hij hp hq
    cases j with
    | zero=>omega
    | succ j=>
      cases i with
      | zero=>
        simp at hp hq;subst hp
        exact h1 q (List.mem_of_getElem? hq)
      | succ i=>exact h2 i j p q (by omega) (by simpa using hp) (by simpa using hq)
theorem ord_app {A B:List Post}:Ordered (A++B)↔Ordered A∧Ordered B∧∀ p∈A,∀ q∈B,ltK p.role p.text q.role q.text:=by
  induction A with
  | nil=>simp [Ordered]
  | cons x r ih=>
    rw [List.cons_append,ord_cons,ih,ord_cons]
    constructor
    · rintro⟨h1,h2,h3,h4⟩
      refine⟨⟨fun p hp=>h1 p (List.mem_append_left _ hp),h2⟩,h3,fun p hp q hq=>?_⟩
      rcases List.mem_cons.1 hp with rfl|hp
      · exact h1 q (List.mem_append_right _ hq)
      · exact h4 p hp q hq
    · rintro⟨⟨h1,h2⟩,h3,h4⟩
      refine⟨fun p hp=>?_,h2,h3,fun p hp q hq=>h4 p (List.mem_cons_of_mem _ hp) q hq⟩
      rcases List.mem_append.1 hp with hp|hp
      · exact h1 p hp
      · exact h4 x (List.mem_cons_self ..) p hp
theorem tw_mem2 {α:Type} {f:α→Bool} {x:α}:∀ {l:List α},x∈l.takeWhile f→f x=true
  | [],h=>by simp at h
  | a :: l, h => by
    by_cases ha:f a=true
    · rw [List.takeWhile_cons_of_pos ha] at h
      rcases List.mem_cons.1 h with rfl|h
      · exact ha
      · exact tw_mem2 h
    · rw [List.takeWhile_cons_of_neg ha] at h;simp at h
theorem split {xs:List Post} (ho:Ordered xs) (r:Int) (t:List UInt8) :
    ∃ A B,A.length=placeN xs r t∧(∀ p∈A,ltK p.role p.text r t)∧((xs=A++B∧(∀ p∈B,ltK r t p.role p.text))∨∃ p,xs=A++p::B∧p.role=r∧p.text=t∧∀ q∈B,ltK r t q.role q.text):=by
  obtain⟨A,hA⟩:∃ A,A=xs.takeWhile fun p=>decide (ltK p.role p.text r t):=⟨_,rfl⟩
  obtain⟨B,hB⟩:∃ B,B=xs.dropWhile fun p=>decide (ltK p.role p.text r t):=⟨_,rfl⟩
  have hx:xs=A++B:=by rw [hA,hB,List.takeWhile_append_dropWhile]
  have hAl:∀ p∈A,ltK p.role p.text r t:=fun p hp=>by
    rw [hA] at hp
    have:=tw_mem2 hp
    simpa using this
  rw [hx,ord_app] at ho
  cases hb:B with
  | nil=>exact⟨A,[],by rw [hA];rfl,hAl,.inl ⟨by rw [hx,hb],fun p hp=>by simp at hp⟩⟩
  | cons y r'=>
    have hy:¬ ltK y.role y.text r t:=by
      intro h
      have h2:=List.head?_dropWhile_not (fun p:Post=>decide (ltK p.role p.text r t)) xs
      rw [← hB,hb] at h2
      simp [h] at h2
    have ho2:=ho.2.1
    rw [hb,ord_cons] at ho2
    rcases ltK_tri y.role y.text r t with h|⟨h1,h2⟩|h
    · exact absurd h hy
    · exact⟨A,r',by rw [hA];rfl,hAl,.inr ⟨y,by rw [hx,hb],h1,h2,fun q hq=>by rw [← h1,← h2];exact ho2.1 q hq⟩⟩
    · refine⟨A,y::r',by rw [hA];rfl,hAl,.inl ⟨by rw [hx,hb],fun q hq=>?_⟩⟩
      rcases List.mem_cons.1 hq with rfl|hq
      · exact h
      · exact ltK_trans h (ho2.1 q hq)
end Go.Proofs.YtnifmbbpfdghmaaGreatDoor.Ix
namespace Go.Proofs.YtnifmbbpfdghmaaGreatDoor.Ix
open Go.RowKit Go.En
section
variable {A B : List Post} {r : Int} {t : List UInt8}
def Low (A:List Post) (r:Int) (t:List UInt8):Prop:=∀ p∈A,ltK p.role p.text r t
def High (B:List Post) (r:Int) (t:List UInt8):Prop:=∀ p∈B,ltK r t p.role p.text
theorem not_lt {p:Post} (h:ltK r t p.role p.text):¬ ltK p.role p.text r t:=fun h2=>ltK_irrefl (ltK_trans h h2)
theorem not_key {p:Post} (h:ltK r t p.role p.text):¬ (p.role=r∧p.text=t):=by
  rintro⟨rfl,rfl⟩;exact ltK_irrefl h
theorem place_c1 (hA:Low A r t) (hB:High B r t):placeN (A++B) r t=A.length:=by
  refine takeWhile_stop2 (fun j hj q hq=>?_) (by simp) (fun q hq=>?_)
  · rw [List.getElem?_append_left hj] at hq
    exact decide_eq_true (hA q (List.mem_of_getElem? hq))
  · rw [List.getElem?_append_right (Nat.le_refl _)] at hq
    exact decide_eq_false (not_lt (hB q (List.mem_of_getElem? hq)))
theorem place_c2 {p:Post} (hA:Low A r t) (hp:p.role=r∧p.text=t):placeN (A++p::B) r t=A.length:=by
  refine takeWhile_stop2 (fun j hj q hq=>?_) (by simp) (fun q hq=>?_)
  · rw [List.getElem?_append_left hj] at hq
    exact decide_eq_true (hA q (List.mem_of_getElem? hq))
  · rw [List.getElem?_append_right (Nat.le_refl _),Nat.sub_self] at hq
    simp at hq;subst hq
    obtain⟨rfl,rfl⟩:=hp
    exact decide_eq_false ltK_irrefl
theorem at_c1 (hB:High B r t):∀ q,(A++B)[A.length]?=some q→¬ (q.role=r∧q.text=t):=fun q hq=>by
  rw [List.getElem?_append_right (Nat.le_refl _)] at hq
  exact not_key (hB q (List.mem_of_getElem? hq))
theorem at_c2 {p:Post}:(A++p::B)[A.length]?=some p:=by
  rw [List.getElem?_append_right (Nat.le_refl _),Nat.sub_self];rfl
theorem find_c1 (hA:Low A r t) (hB:High B r t):findF (A++B) r t=[]:=by
  unfold findF;rw [place_c1 hA hB]
  split
  · rfl
  · rename_i q hq;exact if_neg (at_c1 hB q hq)
theorem find_c2 {p:Post} (hA:Low A r t) (hp:p.role=r∧p.text=t):findF (A++p::B) r t=p.ids:=by
  unfold findF;rw [place_c2 hA hp,at_c2];exact if_pos hp
theorem put_c1 {id:Int} (hA:Low A r t) (hB:High B r t) (hr:isRole r=true):putF (A++B) r t id=A++⟨r,t,[id]⟩::B:=by
  unfold putF;rw [if_pos hr,place_c1 hA hB]
  have e:(A++B).take A.length++(⟨r,t,[id]⟩:Post)::(A++B).drop A.length=A++⟨r,t,[id]⟩::B:=by simp
  split
  · rename_i q hq;rw [if_neg (at_c1 hB q hq),e]
  · exact e
theorem put_c2 {p:Post} {id:Int} (hA:Low A r t) (hp:p.role=r∧p.text=t) (hr:isRole r=true):putF (A++p::B) r t id=A++⟨r,t,withF p.ids id⟩::B:=by
  unfold putF;rw [if_pos hr,place_c2 hA hp,at_c2]
  dsimp only
  rw [if_pos hp,List.set_append_right _ _ (Nat.le_refl _),Nat.sub_self,hp.1,hp.2];rfl
theorem take_c1 {id:Int} (hA:Low A r t) (hB:High B r t):takeF (A++B) r t id=A++B:=by
  unfold takeF;rw [place_c1 hA hB]
  split
  · rfl
  · rename_i q hq;exact if_neg (at_c1 hB q hq)
theorem take_c2 {p:Post} {id:Int} (hA:Low A r t) (hp:p.role=r∧p.text=t) :
    takeF (A++p::B) r t id=A++((if (p.ids.filter fun n=>decide (n≠id))=[] then [] else [⟨r,t,p.ids.filter fun n=>decide (n≠id)⟩])++B):=by
  unfold takeF;rw [place_c2 hA hp,at_c2]
  dsimp only
  rw [if_pos hp]
  congr 1
  · simp
  · congr 1
    simp [List.drop_append]
end
theorem rise_iff:∀ {ids:List Int},rise ids=true↔ids.Pairwise (·<·)
  | []=>by simp [rise]
  | [a]=>by simp [rise]
  | a :: b :: r => by
    have ih:=rise_iff (ids:=b::r)
    simp only [rise,Bool.and_eq_true,decide_eq_true_eq,ih]
    constructor
    · rintro⟨h1,h2⟩
      refine List.Pairwise.cons (fun c hc=>?_) h2
      rcases List.mem_cons.1 hc with rfl|hc
      · exact h1
      · have:=(List.pairwise_cons.1 h2).1 c hc;omega
    · intro h
      exact⟨(List.pairwise_cons.1 h).1 b (List.mem_cons_self ..),(List.pairwise_cons.1 h).2⟩
theorem with_split {ids:List Int} {id:Int} (h:rise ids=true):∃ L R,ids=L++R∧L.length=withN ids id∧(∀ z∈L,z<id)∧(∀ z∈R,id≤z):=by
  refine⟨ids.takeWhile fun z=>decide (z<id),ids.dropWhile fun z=>decide (z<id),by rw [List.takeWhile_append_dropWhile],rfl,fun z hz=>by simpa using tw_mem2 hz,fun z hz=>?_⟩
  have hp:=rise_iff.1 h
  rw [← List.takeWhile_append_dropWhile (p:=fun z=>decide (z<id)) (l:=ids),List.pairwise_append] at hp
  have hd:=hp.2.1
  cases hr:ids.dropWhile fun z=>decide (z<id) with
  | nil=>rw [hr] at hz;simp at hz
  | cons y r=>
    have h2:=List.head?_dropWhile_not (fun z:Int=>decide (z<id)) ids
    rw [hr] at h2 hz hd
    simp at h2
    rcases List.mem_cons.1 hz with rfl|hz
    · exact h2
    · have:=(List.pairwise_cons.1 hd).1 z hz;omega
theorem with_val {ids : List Int} {id : Int} (h : rise ids = true) : (id ∈ ids ∧ withF ids id = ids) ∨ (id ∉ ids ∧ ∃ L R, ids = L ++ R ∧ withF ids id = L ++ id :: R ∧ (∀ z ∈ L, z < id) ∧ (∀ z ∈ R, id < z)) := by
  obtain⟨L,R,hx,hl,h1,h2⟩:=with_split (id:=id) h
  have hp:=rise_iff.1 h
  unfold withF
  rw [← hl]
  by_cases hm:id∈ids
  · refine .inl ⟨hm,if_pos ?_⟩
    rw [hx] at hm ⊢
    rcases List.mem_append.1 hm with hm|hm
    · have:=h1 id hm;omega
    · rw [List.getElem?_append_right (Nat.le_refl _),Nat.sub_self]
      cases R with
      | nil=>simp at hm
      | cons y r=>
        rw [hx,List.pairwise_append,List.pairwise_cons] at hp
        rcases List.mem_cons.1 hm with rfl|hm
        · rfl
        · have:=hp.2.1.1 id hm
          have:=h2 y (List.mem_cons_self ..)
          omega
  · refine .inr ⟨hm,L,R,hx,?_,h1,fun z hz=>?_⟩
    · rw [if_neg (fun e=>hm (List.mem_of_getElem? e)),hx];simp
    · have:=h2 z hz
      have:z≠id:=fun e=>hm (by rw [hx,← e];exact List.mem_append_right _ hz)
      omega
theorem with_rise {ids:List Int} {id:Int} (h:rise ids=true):rise (withF ids id)=true∧withF ids id≠[]∧id∈withF ids id:=by
  rcases with_val (id:=id) h with⟨hm,e⟩|⟨hm,L,R,hx,e,h1,h2⟩
  · rw [e];exact⟨h,List.ne_nil_of_mem hm,hm⟩
  · rw [e]
    refine⟨?_,by simp,by simp⟩
    have hp:=rise_iff.1 h
    rw [hx,List.pairwise_append] at hp
    rw [rise_iff,List.pairwise_append,List.pairwise_cons]
    refine⟨hp.1,⟨h2,hp.2.1⟩,fun a ha b hb=>?_⟩
    have:=h1 a ha
    rcases List.mem_cons.1 hb with rfl|hb
    · exact this
    · have:=h2 b hb;omega
theorem filter_rise {ids:List Int} {id:Int} (h:rise ids=true):rise (ids.filter fun n=>decide (n≠id))=true:=rise_iff.2 ((rise_iff.1 h).filter _)
theorem filter_with {ids:List Int} {id:Int} (h:rise ids=true) (hm:id∉ids):((withF ids id).filter fun n=>decide (n≠id))=ids:=by
  rcases with_val (id:=id) h with⟨hm',_⟩|⟨_,L,R,hx,e,h1,h2⟩
  · exact absurd hm' hm
  · rw [e,List.filter_append,List.filter_cons_of_neg (by simp),List.filter_eq_self.2 (fun z hz=>by have:=h1 z hz;simp;omega),List.filter_eq_self.2 (fun z hz=>by have:=h2 z hz;simp;omega),← hx]
theorem right_app {A B:List Post}:Right (A++B)↔Right A∧Right B∧∀ p∈A,∀ q∈B,ltK p.role p.text q.role q.text:=by
  unfold Right
  rw [ord_app]
  constructor
  · rintro⟨h1,h2,h3,h4⟩
    exact⟨⟨fun p hp=>h1 p (List.mem_append_left _ hp),h2⟩,⟨fun p hp=>h1 p (List.mem_append_right _ hp),h3⟩,h4⟩
  · rintro⟨⟨h1,h2⟩,⟨h3,h4⟩,h5⟩
    exact⟨fun p hp=>(List.mem_append.1 hp).elim (h1 p) (h3 p),h2,h4,h5⟩
theorem right_mid {A B:List Post} {q:Post} (hA:Right A) (hB:Right B) (hAB:∀ p∈A,∀ q∈B,ltK p.role p.text q.role q.text) (hq:Good q) (h1:Low A q.role q.text) (h2:High B q.role q.text):Right (A++q::B):=by
  rw [right_app]
  refine⟨hA,⟨fun p hp=>?_,ord_cons.2 ⟨h2,hB.2⟩⟩,fun p hp q' hq'=>?_⟩
  · rcases List.mem_cons.1 hp with rfl|hp
    · exact hq
    · exact hB.1 p hp
  · rcases List.mem_cons.1 hq' with rfl|hq'
    · exact h1 p hp
    · exact hAB p hp q' hq'
theorem keeps {xs : List Post} (hR : Right xs) (r : Int) (t : List UInt8) (id : Int) :
    Right (putF xs r t id)∧Right (takeF (putF xs r t id) r t id)∧(id∈findF (putF xs r t id) r t↔isRole r=true)∧id∉findF (takeF (putF xs r t id) r t id) r t∧
      (id∉findF xs r t→takeF (putF xs r t id) r t id=xs)∧(id∈findF xs r t→putF xs r t id=xs):=by
  obtain⟨A,B,_,hA,hc⟩:=split hR.2 r t
  rcases hc with⟨rfl,hB⟩|⟨p,rfl,hr,ht,hB⟩
  · have hf:=find_c1 hA hB
    obtain⟨hRA,hRB,hAB⟩:=right_app.1 hR
    by_cases hrole:isRole r=true
    · rw [put_c1 hA hB hrole,take_c2 hA ⟨rfl,rfl⟩,find_c2 hA ⟨rfl,rfl⟩]
      simp only [decide_not,List.filter_cons,decide_true,Bool.not_true,List.filter_nil,if_true,List.nil_append,Bool.false_eq_true,if_false]
      rw [hf]
      exact⟨right_mid hRA hRB hAB ⟨hrole,by simp,rfl⟩ hA hB,hR,by simp [hrole],by simp,by simp,by simp⟩
    · have hp:putF (A++B) r t id=A++B:=by unfold putF;rw [if_neg hrole]
      rw [hp,take_c1 hA hB,hf]
      exact⟨hR,hR,by simp [hrole],by simp,fun _=>rfl,fun h=>by simp at h⟩
  · have hk:p.role=r∧p.text=t:=⟨hr,ht⟩
    obtain⟨hRA,hRB,hAB⟩:=right_app.1 hR
    have hgood:=hRB.1 p (List.mem_cons_self ..)
    have hrole:isRole r=true:=by rw [← hr];exact hgood.1
    have hBr:Right B:=⟨fun q hq=>hRB.1 q (List.mem_cons_of_mem _ hq),(ord_cons.1 hRB.2).2⟩
    have hAB':∀ p∈A,∀ q∈B,ltK p.role p.text q.role q.text:=fun a ha q hq=>hAB a ha q (List.mem_cons_of_mem _ hq)
    have hf:findF (A++p::B) r t=p.ids:=find_c2 hA hk
    obtain⟨w1,w2,w3⟩:=with_rise (id:=id) hgood.2.2
    have hpp:(⟨r,t,p.ids⟩:Post)=p:=by cases p;simp_all
    rw [put_c2 hA hk hrole,take_c2 hA ⟨rfl,rfl⟩,find_c2 hA ⟨rfl,rfl⟩,hf]
    dsimp only
    refine⟨right_mid hRA hBr hAB' ⟨hrole,w2,w1⟩ hA hB,?_,by simp [w3,hrole],?_,fun hn=>?_,fun hm=>?_⟩
    · split
      · exact right_app.2 ⟨hRA,hBr,hAB'⟩
      · rename_i hne
        exact right_mid hRA hBr hAB' ⟨hrole,hne,filter_rise w1⟩ hA hB
    · split
      · rw [List.nil_append,find_c1 hA hB];simp
      · rw [List.singleton_append,find_c2 hA ⟨rfl,rfl⟩];simp
    · rw [filter_with hgood.2.2 hn,if_neg hgood.2.1,List.singleton_append,hpp]
    · rcases with_val (id:=id) hgood.2.2 with⟨_,e⟩|⟨hm',_⟩
      · rw [e,hpp]
      · exact absurd hm hm'
end Go.Proofs.YtnifmbbpfdghmaaGreatDoor.Ix
namespace Go.Proofs.YtnifmbbpfdghmaaGreatDoor.Ix
open Go.RowKit Go.En
def unionF (a b:List Int):List Int:=b.foldl nputF (sortedF a)
def minusF (a b:List Int):List Int:=a.foldl (fun acc z=>if z∈b then acc else nputF acc z) []
theorem nput_eq (l:List Int) (n:Int):nputF l n=withF l n:=by
  unfold nputF withF
  split
  · rename_i h
    have:=(List.getElem?_eq_some_iff.1 h)
    obtain⟨hl,he⟩:=this
    conv=>rhs;rw [← List.take_append_drop (withN l n) l,List.drop_eq_getElem_cons hl,he]
  · rfl
theorem nput_last {l:List Int} {n:Int} (h:∀ z∈l,z<n):nputF l n=l++[n]:=by
  have hn:withN l n=l.length:=takeWhile_stop2 (fun j hj z hz=>decide_eq_true (h z (List.mem_of_getElem? hz))) (Nat.le_refl _) (fun z hz=>by simp at hz)
  unfold nputF
  rw [hn,List.getElem?_eq_none (Nat.le_refl _),if_neg (by simp)]
  simp
theorem sorted_go:∀(l acc:List Int),(acc++l).Pairwise (·<·)→l.foldl nputF acc=acc++l
  | [],acc,_=>by simp
  | z::l,acc,h=>by
    rw [List.foldl_cons,nput_last (fun y hy=>by rw [List.pairwise_append] at h;exact h.2.2 y hy z (List.mem_cons_self ..)),sorted_go l (acc++[z]) (by simpa using h)]
    simp
theorem sorted_id {l:List Int} (h:rise l=true):sortedF l=l:=by
  have:=sorted_go l [] (by simpa using rise_iff.1 h)
  simpa [sortedF] using this
theorem union_one {l:List Int} {n:Int} (h:rise l=true):unionF l [n]=withF l n:=by
  simp only [unionF,List.foldl_cons,List.foldl_nil,sorted_id h,nput_eq]
theorem minus_go (n:Int):∀(l acc:List Int),(acc++l).Pairwise (·<·)→l.foldl (fun acc z=>if z∈[n] then acc else nputF acc z) acc=acc++l.filter fun z=>decide (z≠n)
  | [],acc,_=>by simp
  | z :: l, acc, h => by
    rw [List.foldl_cons]
    by_cases hz:z=n
    · rw [if_pos (by simp [hz]),List.filter_cons_of_neg (by simp [hz])]
      refine minus_go n l acc ?_
      rw [List.pairwise_append] at h ⊢
      exact⟨h.1,(List.pairwise_cons.1 h.2.1).2,fun a ha b hb=>h.2.2 a ha b (List.mem_cons_of_mem _ hb)⟩
    · rw [if_neg (by simp [hz]),List.filter_cons_of_pos (by simp [hz]),nput_last (fun y hy=>by rw [List.pairwise_append] at h;exact h.2.2 y hy z (List.mem_cons_self ..)),minus_go n l (acc++[z]) (by simpa using h)]
      simp
theorem minus_one {l:List Int} {n:Int} (h:rise l=true):minusF l [n]=l.filter fun z=>decide (z≠n):=by
  have:=minus_go n l [] (by simpa using rise_iff.1 h)
  simpa [minusF] using this
def rwGo (p : Post) : List Post → List Post → Bool → List Post × Bool
  | [],out,done=>(out,done)
  | q::r,out,done=>
    let out1:=if !done&&decide (ltK p.role p.text q.role q.text) then out++[p] else out
    let done1:=done||decide (ltK p.role p.text q.role q.text)
    rwGo p r (if q.role≠p.role∨q.text≠p.text then out1++[q] else out1) done1
def rwithF (xs:List Post) (p:Post):List Post:=
  let s:=rwGo p xs [] (decide (p.ids=[]))
  if s.2 then s.1 else s.1++[p]
theorem rw_done (p:Post):∀(l out:List Post),rwGo p l out true=(out++l.filter (fun q=>decide (q.role≠p.role∨q.text≠p.text)),true)
  | [],out=>by simp [rwGo]
  | q::r,out=>by
    simp only [rwGo,Bool.not_true,Bool.false_and,Bool.false_eq_true,if_false,Bool.true_or]
    rw [rw_done p r]
    by_cases h:q.role≠p.role∨q.text≠p.text
    · rw [if_pos h,List.filter_cons_of_pos (by simpa using h)];simp
    · rw [if_neg h,List.filter_cons_of_neg (by simpa using h)]
theorem rw_low (p : Post) : ∀ (A r out : List Post), Low A p.role p.text → rwGo p (A ++ r) out false = rwGo p r (out ++ A) false
  | [],r,out,_=>by simp
  | q :: A, r, out, h => by
    have hq:=h q (List.mem_cons_self ..)
    have hn:¬ ltK p.role p.text q.role q.text:=fun h2=>ltK_irrefl (ltK_trans hq h2)
    have hk:q.role≠p.role∨q.text≠p.text:=by
      by_cases h1:q.role=p.role
      · refine .inr fun h2=>?_
        rw [h1,h2] at hq;exact ltK_irrefl hq
      · exact .inl h1
    simp only [List.cons_append,rwGo,decide_eq_false hn,Bool.and_false,Bool.false_eq_true,if_false,Bool.or_false]
    rw [if_pos hk,rw_low p A r _ (fun x hx=>h x (List.mem_cons_of_mem _ hx))]
    simp
theorem filter_key {p:Post} {B:List Post} (h:∀ q∈B,¬ (q.role=p.role∧q.text=p.text)):B.filter (fun q=>decide (q.role≠p.role∨q.text≠p.text))=B:=
  List.filter_eq_self.2 fun q hq=>by
    have:=h q hq
    simp only [decide_eq_true_eq]
    by_cases h1:q.role=p.role
    · exact .inr fun h2=>this ⟨h1,h2⟩
    · exact .inl h1
end Go.Proofs.YtnifmbbpfdghmaaGreatDoor.Ix
namespace Go.Proofs.YtnifmbbpfdghmaaGreatDoor.Ix
open Go.RowKit Go.En
theorem rw_mid {p:Post} {B:List Post} (hB:High B p.role p.text) (out:List Post):(let s:=rwGo p B out false;if s.2 then s.1 else s.1++[p])=out++p::B:=by
  cases B with
  | nil=>simp [rwGo]
  | cons q r=>
    have hq:=hB q (List.mem_cons_self ..)
    have hk:q.role≠p.role∨q.text≠p.text:=by
      by_cases h1:q.role=p.role
      · exact .inr fun h2=>not_key hq ⟨h1,h2⟩
      · exact .inl h1
    simp only [rwGo,decide_eq_true hq,Bool.not_false,Bool.true_and,if_true,Bool.false_or]
    rw [if_pos hk,rw_done,filter_key (fun x hx=>not_key (hB x (List.mem_cons_of_mem _ hx)))]
    simp
theorem low_key {A:List Post} {r:Int} {t:List UInt8} (h:Low A r t):∀ q∈A,¬ (q.role=r∧q.text=t):=fun q hq=>by
  rintro⟨rfl,rfl⟩;exact ltK_irrefl (h q hq)
theorem rwith_c1 {A B:List Post} {p:Post} (hA:Low A p.role p.text) (hB:High B p.role p.text):rwithF (A++B) p=A++(if p.ids=[] then B else p::B):=by
  unfold rwithF
  by_cases h:p.ids=[]
  · rw [decide_eq_true h,rw_done,if_pos h]
    simp only [if_true,List.nil_append,List.filter_append]
    rw [filter_key (low_key hA),filter_key (fun x hx=>not_key (hB x hx))]
  · rw [decide_eq_false h,rw_low p A B [] hA,if_neg h]
    exact rw_mid hB _
theorem rwith_c2 {A B:List Post} {p x:Post} (hA:Low A p.role p.text) (hx:x.role=p.role∧x.text=p.text) (hB:High B p.role p.text):rwithF (A++x::B) p=A++(if p.ids=[] then B else p::B):=by
  have hk:¬ (x.role≠p.role∨x.text≠p.text):=by rintro(h|h);exact h hx.1;exact h hx.2
  unfold rwithF
  by_cases h:p.ids=[]
  · rw [decide_eq_true h,rw_done,if_pos h]
    simp only [if_true,List.nil_append,List.filter_append]
    rw [filter_key (low_key hA),List.filter_cons_of_neg (by simpa using hk),filter_key (fun x hx=>not_key (hB x hx))]
  · rw [decide_eq_false h,rw_low p A (x::B) [] hA,if_neg h]
    have hn:¬ ltK p.role p.text x.role x.text:=by rw [hx.1,hx.2];exact ltK_irrefl
    simp only [rwGo,decide_eq_false hn,Bool.and_false,Bool.false_eq_true,if_false,Bool.or_false]
    rw [if_neg hk]
    exact rw_mid hB _
def rputF (xs:List Post) (r:Int) (t:List UInt8) (id:Int):List Post:=if isRole r then rwithF xs ⟨r,t,unionF (rfindF xs r t) [id]⟩ else xs
def rtakeF (xs:List Post) (r:Int) (t:List UInt8) (id:Int):List Post:=rwithF xs ⟨r,t,minusF (rfindF xs r t) [id]⟩
theorem rput_eq {xs:List Post} (hR:Right xs) (r:Int) (t:List UInt8) (id:Int):rputF xs r t id=putF xs r t id:=by
  unfold rputF
  rw [← find_eq hR.2]
  by_cases hrole:isRole r=true
  · rw [if_pos hrole]
    obtain⟨A,B,_,hA,hc⟩:=split hR.2 r t
    rcases hc with⟨rfl,hB⟩|⟨p,rfl,hr,ht,hB⟩
    · rw [find_c1 hA hB,put_c1 hA hB hrole,union_one rfl,rwith_c1 (p:=⟨r,t,withF [] id⟩) hA hB]
      rfl
    · have hgood:=hR.1 p (by simp)
      rw [find_c2 hA ⟨hr,ht⟩,put_c2 hA ⟨hr,ht⟩ hrole,union_one hgood.2.2,rwith_c2 (p:=⟨r,t,withF p.ids id⟩) hA ⟨hr,ht⟩ hB]
      dsimp only
      rw [if_neg (with_rise hgood.2.2).2.1]
  · rw [if_neg hrole]
    unfold putF
    rw [if_neg hrole]
theorem rtake_eq {xs:List Post} (hR:Right xs) (r:Int) (t:List UInt8) (id:Int):rtakeF xs r t id=takeF xs r t id:=by
  unfold rtakeF
  rw [← find_eq hR.2]
  obtain⟨A,B,_,hA,hc⟩:=split hR.2 r t
  rcases hc with⟨rfl,hB⟩|⟨p,rfl,hr,ht,hB⟩
  · rw [find_c1 hA hB,take_c1 hA hB,minus_one rfl,rwith_c1 (p:=⟨r,t,List.filter (fun z=>decide (z≠id)) []⟩) hA hB]
    simp
  · have hgood:=hR.1 p (by simp)
    rw [find_c2 hA ⟨hr,ht⟩,take_c2 hA ⟨hr,ht⟩,minus_one hgood.2.2,rwith_c2 (p:=⟨r,t,p.ids.filter fun z=>decide (z≠id)⟩) hA ⟨hr,ht⟩ hB]
    dsimp only
    split <;> simp
end Go.Proofs.YtnifmbbpfdghmaaGreatDoor.Ix
