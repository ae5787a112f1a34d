/-
  Indexes, plainly: what the program's functions of layer 37 compute. Walks: the program's compare and place.
-/
import Derived.Test.YtnifmbbpfdghmaaGreatDoorY1
import Derived.Test.YtnifmbbpfdghmaaGreatDoorXa
import Derived.Test.YtnifmbbpfdghmaaGreatDoorI
set_option linter.all false
namespace Go.Proofs.YtnifmbbpfdghmaaGreatDoor.Ix
open Go.RowKit Go.En
structure Post where
  role:Int
  text:List UInt8
  ids:List Int
  deriving DecidableEq
instance:Rep Post where
  sz:=3
  pos:=by decide
  at_ G w p cs:=∃ iv,cs=[int p.role,str p.text,iv]∧SlG G w iv p.ids
  len h:=by obtain⟨iv,rfl,_⟩:=h;rfl
  one h:=by obtain⟨iv,rfl,a,cap,rfl,_⟩:=h;rfl
  move h hm:=by obtain⟨iv,rfl,h⟩:=h;exact⟨iv,rfl,h.move hm⟩
def ltK (r:Int) (t:List UInt8) (r':Int) (t':List UInt8):Prop:=r<r'∨r=r'∧t<t'
instance (r:Int) (t:List UInt8) (r':Int) (t':List UInt8):Decidable (ltK r t r' t'):=by unfold ltK;infer_instance
def cmpF (p:Post) (r:Int) (t:List UInt8):Int:=if ltK p.role p.text r t then -1 else if p.role=r∧p.text=t then 0 else 1
theorem ltK_irrefl {r:Int} {t:List UInt8}:¬ ltK r t r t:=by
  rintro(h|⟨_,h⟩)
  · omega
  · exact List.lt_irrefl _ h
theorem cmp_lt {p:Post} {r:Int} {t:List UInt8}:cmpF p r t<0↔ltK p.role p.text r t:=by
  unfold cmpF;split
  · simp [*]
  · split
    · rename_i h1 h2;simpa using h1
    · simp [*]
theorem cmp_eq {p:Post} {r:Int} {t:List UInt8}:cmpF p r t=0↔p.role=r∧p.text=t:=by
  unfold cmpF;split
  · rename_i h
    constructor
    · intro h0;cases h0
    · rintro⟨rfl,rfl⟩;exact absurd h ltK_irrefl
  · split <;> simp [*]
theorem ltK_trans {r1 r2 r3:Int} {t1 t2 t3:List UInt8} (h:ltK r1 t1 r2 t2) (k:ltK r2 t2 r3 t3):ltK r1 t1 r3 t3:=by
  rcases h with h|⟨rfl,h⟩ <;> rcases k with k|⟨rfl,k⟩
  · exact .inl (by omega)
  · exact .inl h
  · exact .inl k
  · exact .inr ⟨rfl,List.lt_trans h k⟩
theorem ltK_tri (r1:Int) (t1:List UInt8) (r2:Int) (t2:List UInt8):ltK r1 t1 r2 t2∨(r1=r2∧t1=t2)∨ltK r2 t2 r1 t1:=by
  unfold ltK
  rcases Int.lt_trichotomy r1 r2 with h|h|h
  · exact .inl (.inl h)
  · subst h
    by_cases h1:t1<t2
    · exact .inl (.inr ⟨rfl,h1⟩)
    by_cases h2:t2<t1
    · exact .inr (.inr (.inr ⟨rfl,h2⟩))
    exact .inr (.inl ⟨rfl,List.le_antisymm (List.not_lt.1 h2) (List.not_lt.1 h1)⟩)
  · exact .inr (.inr (.inl h))
def isRole (r:Int):Bool:=decide (1≤r)&&decide (r≤5)
def placeN (xs:List Post) (r:Int) (t:List UInt8):Nat:=(xs.takeWhile fun p=>decide (ltK p.role p.text r t)).length
def placeB (xs:List Post) (r:Int) (t:List UInt8):Bool:=match xs[placeN xs r t]? with|none=>false|some p=>decide (p.role=r∧p.text=t)
theorem takeWhile_stop2 {α:Type} {f:α→Bool}:∀ {l:List α} {i:Nat},(∀ j,j<i→∀ a,l[j]?=some a→f a=true)→i≤l.length→(∀ a,l[i]?=some a→f a=false)→(l.takeWhile f).length=i
  | [],i,_,hi,_=>by simp at hi;simp [hi]
  | a::l,0,_,_,h=>by rw [List.takeWhile_cons_of_neg (by simp [h a rfl])];rfl
  | a::l,i+1,h,hi,h2=>by
    rw [List.takeWhile_cons_of_pos (h 0 (by omega) a rfl),List.length_cons,takeWhile_stop2 (i:=i) (fun j hj b hb=>h (j+1) (by omega) b hb) (by simpa using hi) (fun b hb=>h2 b hb)]
theorem placeN_le (xs:List Post) (r:Int) (t:List UInt8):placeN xs r t≤xs.length:=by
  unfold placeN
  exact(List.takeWhile_prefix _).length_le
def findF (xs:List Post) (r:Int) (t:List UInt8):List Int:=match xs[placeN xs r t]? with|none=>[]|some p=>if p.role=r∧p.text=t then p.ids else []
theorem withN_le (ids:List Int) (id:Int):withN ids id≤ids.length:=(List.takeWhile_prefix _).length_le
def withF (ids:List Int) (id:Int):List Int:=if ids[withN ids id]?=some id then ids else ids.take (withN ids id)++id::ids.drop (withN ids id)
def putF (xs : List Post) (r : Int) (t : List UInt8) (id : Int) : List Post :=
  if isRole r then
    (match xs[placeN xs r t]? with
     | some p=>if p.role=r∧p.text=t then xs.set (placeN xs r t) ⟨p.role,p.text,withF p.ids id⟩ else xs.take (placeN xs r t)++⟨r,t,[id]⟩::xs.drop (placeN xs r t)
     | none=>xs.take (placeN xs r t)++⟨r,t,[id]⟩::xs.drop (placeN xs r t))
  else xs
def takeF (xs:List Post) (r:Int) (t:List UInt8) (id:Int):List Post:=
  match xs[placeN xs r t]? with
  | none=>xs
  | some p=>if p.role=r∧p.text=t then xs.take (placeN xs r t)++((if (p.ids.filter fun n=>decide (n≠id))=[] then [] else [⟨r,t,p.ids.filter fun n=>decide (n≠id)⟩])++xs.drop (placeN xs r t+1)) else xs
def rise:List Int→Bool
  | a::b::r=>decide (a<b)&&rise (b::r)
  | _=>true
end Go.Proofs.YtnifmbbpfdghmaaGreatDoor.Ix
namespace Go.Proofs.YtnifmbbpfdghmaaGreatDoor.Ix
open Go.RowKit Go.En
theorem post_elem {G:Nat→Prop} {w:World} {b off n cap:Nat} {xs:List Post} (h:SlG G w (.slice (some ⟨b,off,none⟩) n cap) xs) {i:Nat} {x:Post} (hx:xs[i]?=some x):∃ iv,At w b (off+i*3) [int x.role,str x.text,iv]∧SlG G w iv x.ids:=by
  obtain⟨cs,⟨iv,rfl,h1⟩,h2⟩:=h.elem hx
  exact⟨iv,h2,h1⟩
theorem cmp_1 {p:Post} {r:Int} {t:List UInt8} (h:p.role<r):cmpF p r t = -1:=by unfold cmpF;exact if_pos (Or.inl h)
theorem cmp_2 {p:Post} {r:Int} {t:List UInt8} (h1:p.role=r) (h:p.text<t):cmpF p r t = -1:=by unfold cmpF;exact if_pos (Or.inr ⟨h1,h⟩)
theorem cmp_3 {p:Post} {r:Int} {t:List UInt8} (h1:p.role=r) (h:p.text=t):cmpF p r t=0:=cmp_eq.2 ⟨h1,h⟩
theorem cmp_4 {p:Post} {r:Int} {t:List UInt8} (h1:¬ p.role<r) (h:¬ p.role=r):cmpF p r t=1:=by
  have h2:¬ ltK p.role p.text r t:=by rintro(h3|⟨h3,_⟩) <;> contradiction
  unfold cmpF;rw [if_neg h2,if_neg (by rintro⟨h,_⟩;contradiction)]
theorem cmp_5 {p:Post} {r:Int} {t:List UInt8} (h1:p.role=r) (h:¬ p.text<t) (h2:¬ p.text=t):cmpF p r t=1:=by
  have h3:¬ ltK p.role p.text r t:=by
    rintro(h3|⟨_,h3⟩)
    · omega
    · contradiction
  unfold cmpF;rw [if_neg h3,if_neg (by rintro⟨_,h⟩;contradiction)]
attribute [local irreducible] E EL K Val Enters Rt Calls bodyPost Code.wp RQ
set_option maxRecDepth 8000 in
theorem cmp_any (p:Post) (iv:Value) (r:Int) (t:List UInt8) (w:World):Calls Tryz.prog 169 #[.agg #[int p.role,str p.text,iv],int r,str t] w (Rt fun u w'=>u=int (cmpF p r t)∧Ext w w'):=by
  refine calls_E (n:=35) (args:=[.agg #[int p.role,str p.text,iv],int r,str t]) Tryz.func169 rfl Tryz.ntmps169 (by simp) ?_
  (repeat' (first|refine EL_box Z Z Z Z (fun bB wB xB hbB rB=>?_)|refine eV Z Z (val_load Z Z Z (rB.cellAt rfl)) ?_|(refine at_EL ?_;first|refine eN ?_|refine eO Z Z ?_|refine eV Z Z (zA Z Z) ?_|refine eV Z Z (zB Z Z) ?_|(refine at_bin ?_;first|refine eD Z Z (zL Z Z Z) (fun hh=>?_) (fun hh=>?_)|refine eD Z Z (zM Z Z Z) (fun hh=>?_) (fun hh=>?_)|refine eD Z Z (zR Z Z Z) (fun hh=>?_) (fun hh=>?_)|refine eD Z Z (zT Z Z Z) (fun hh=>?_) (fun hh=>?_))|refine eV Z Z (zC Z Z Z) ?_|refine eV Z Z (zD Z Z Z) ?_|refine eV Z Z (zH Z Z) ?_)|(refine at_K ?_;first|refine K_then ?_|refine K_in ?_|refine K_then_ret ?_|refine K_in_ret ?_)|(refine at_E ?_;first|refine E_seq ?_|refine E_region ?_|refine E_cond_t Z ?_|refine E_cond_f Z ?_|refine E_block ?_|refine E_skip ?_|refine E_ret ?_)))
  all_goals (first|(exfalso;omega)|skip)
  all_goals refine ret_1 Z Z ⟨?_,xB⟩
  all_goals (first|(rw [cmp_1 (by assumption)];done)|(rw [cmp_2 (by assumption) (by assumption)];done)|(rw [cmp_3 (by assumption) (by assumption)];done)|(rw [cmp_4 (by assumption) (by assumption)];done)|(rw [cmp_5 (by assumption) (by assumption) (by assumption)];done))
set_option maxRecDepth 8000 in
theorem place_any (xs : List Post) (v : Value) (r : Int) (t : List UInt8) (w : World) (hv : Sl w v xs) :
    Calls Tryz.prog 138 #[.agg #[v],int r,str t] w (Rt fun u w'=>u=.tuple #[int (placeN xs r t),.bool (placeB xs r t)]∧Ext w w'):=by
  refine calls_E (n:=44) (args:=[.agg #[v],int r,str t]) Tryz.func138 rfl Tryz.ntmps138 (by simp) ?_
  have hv0:=hv
  obtain⟨a,cap,rfl,hc,hm,hp⟩:=hv.sl
  (repeat' (first|refine EL_box Z Z Z Z (fun bB wB xB hbB rB=>?_)|(refine at_EL ?_;first|refine eN ?_|refine eV Z Z (zB Z Z) ?_)|(refine at_K ?_;first|refine K_then ?_)|(refine at_E ?_;first|refine E_seq ?_|refine E_region ?_|refine E_block ?_)))
  refine E_loop (ι:=Nat) (fun i=>[(1,int r),(2,str t),(3,.pointer (some ⟨bB,0,none⟩)),(8,int i)])
    (fun i wr=>i≤xs.length∧Ext wB wr∧∀ j,j<i→∀ q,xs[j]?=some q→decide (ltK q.role q.text r t)=true) (fun i=>xs.length-i) 0
    ⟨rfl,rfl,rfl,rfl,trivial⟩ ⟨Nat.zero_le _,Ext.refl _,fun j hj=>by omega⟩ ?_
  rintro i wr ⟨hi,hx,hall⟩
  have rR:=rB.ext hx
  have hvr:=hv0.ext (xB.trans hx)
  by_cases hlt:i<xs.length
  · obtain⟨b,off,rfl⟩:=hp (by omega)
    obtain⟨q,hq⟩:∃ q,xs[i]?=some q:=⟨_,List.getElem?_eq_getElem hlt⟩
    obtain⟨iv,hat,_⟩:=post_elem hvr hq
    have hnone:¬ ltK q.role q.text r t→placeN xs r t=i:=fun h=>takeWhile_stop2 hall hi (fun q' hq'=>by rw [hq] at hq';cases hq';simpa using h)
    (repeat' (first|refine eV Z Z (val_load Z Z Z (rR.cellAt rfl)) ?_|refine eV Z Z (val_indexAddr (m:=i) Z Z Z Z hlt) ?_|refine eV Z Z (val_loadA Z Z Z hat rfl) ?_|(refine EL_call Z Z (entersF Z Z en169) (cmp_any q iv r t _) (fun vC wC hC=>?_);obtain⟨rfl,xC⟩:=hC;replace rR:=rR.ext xC;replace hat:=hat.ext xC;replace hx:=hx.trans xC)|(refine at_EL ?_;first|refine eN ?_|refine eO Z Z ?_|refine eV Z Z (zA Z Z) ?_|refine eV Z Z (zB Z Z) ?_|(refine at_bin ?_;first|refine eD Z Z (zL Z Z Z) (fun hh=>?_) (fun hh=>?_)|refine eD Z Z (zM Z Z Z) (fun hh=>?_) (fun hh=>?_)|refine eV Z Z (zU Z Z Z (by omega) (by omega)) ?_)|(refine at_call ?_;first|refine eV Z Z (zK Z Z) ?_)|refine eV Z Z (zC Z Z Z) ?_|refine eV Z Z (zD Z Z Z) ?_|refine eV Z Z (zH Z Z) ?_)|(refine at_K ?_;first|refine K_then ?_|refine K_in ?_|refine K_then_exit ?_|refine K_in_exit ?_)|(refine at_E ?_;first|refine E_seq ?_|refine E_region ?_|refine E_cond_t Z ?_|refine E_cond_f Z ?_|refine E_block ?_|refine E_skip ?_|refine E_ret ?_|refine E_exit ?_)))
    all_goals (first|(exfalso;omega)|skip)
    · refine K_rnd (i+1) ⟨rfl,rfl,rfl,rfl,trivial⟩ ⟨by omega,hx,fun j hj q' hq'=>?_⟩ (by omega)
      by_cases hj2:j<i
      · exact hall j hj2 q' hq'
      · have:j=i:=by omega
        subst this
        rw [hq] at hq';cases hq'
        exact decide_eq_true (cmp_lt.1 (by assumption))
    · have hpl:=hnone (fun h=>by have:=cmp_lt.2 h;contradiction)
      refine ret_2 Z Z Z ⟨?_,xB.trans hx⟩
      rw [hpl]
      unfold placeB
      rw [hpl,hq]
      have:=cmp_eq.1 ‹_›
      simp [this]
    · have hpl:=hnone (fun h=>by have:=cmp_lt.2 h;contradiction)
      refine ret_2 Z Z Z ⟨?_,xB.trans hx⟩
      rw [hpl]
      unfold placeB
      rw [hpl,hq]
      have:¬ (q.role=r∧q.text=t):=fun h=>by have:=cmp_eq.2 h;contradiction
      simp [this]
  · have hpl:placeN xs r t=i:=takeWhile_stop2 hall hi (fun q' hq'=>by have:=(List.getElem?_eq_some_iff.1 hq').1;omega)
    (repeat' (first|refine eV Z Z (val_load Z Z Z (rR.cellAt rfl)) ?_|(refine at_EL ?_;first|refine eN ?_|refine eO Z Z ?_|refine eV Z Z (zA Z Z) ?_|refine eV Z Z (zB Z Z) ?_|(refine at_bin ?_;first|refine eD Z Z (zL Z Z Z) (fun hh=>?_) (fun hh=>?_))|(refine at_call ?_;first|refine eV Z Z (zK Z Z) ?_)|refine eV Z Z (zD Z Z Z) ?_|refine eV Z Z (zH Z Z) ?_)|(refine at_K ?_;first|refine K_then ?_|refine K_then_exit ?_|refine K_in_exit ?_)|(refine at_E ?_;first|refine E_seq ?_|refine E_region ?_|refine E_cond_f Z ?_|refine E_ret ?_|refine E_exit ?_)))
    all_goals (first|(exfalso;omega)|skip)
    refine ret_2 Z Z Z ⟨?_,xB.trans hx⟩
    rw [hpl]
    unfold placeB
    rw [hpl,List.getElem?_eq_none (by omega)]
end Go.Proofs.YtnifmbbpfdghmaaGreatDoor.Ix
