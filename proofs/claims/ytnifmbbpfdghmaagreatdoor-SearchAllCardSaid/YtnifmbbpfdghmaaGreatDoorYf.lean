/-
  Indexes, plainly: what the program's functions of layer 37 compute. Walks: the program's compare and place.
-/
import Derived.Test.YtnifmbbpfdghmaaGreatDoorY1
import Derived.Test.YtnifmbbpfdghmaaGreatDoorXa
import Derived.Test.YtnifmbbpfdghmaaGreatDoorI
set_option linter.all false
namespace Go.Proofs.YtnifmbbpfdghmaaGreatDoor.Ix
open Go.RowKit Go.En
structure Post where
  role:Int
  text:List UInt8
  ids:List Int
  deriving DecidableEq
instance:Rep Post where
  sz:=3
  pos:=by decide
  at_ G w p cs:=∃ iv,cs=[int p.role,str p.text,iv]∧SlG G w iv p.ids
  len h:=by obtain⟨iv,rfl,_⟩:=h;rfl
  one h:=by obtain⟨iv,rfl,a,cap,rfl,_⟩:=h;rfl
  move h hm:=by obtain⟨iv,rfl,h⟩:=h;exact⟨iv,rfl,h.move hm⟩
def ltK (r:Int) (t:List UInt8) (r':Int) (t':List UInt8):Prop:=r<r'∨r=r'∧t<t'
instance (r:Int) (t:List UInt8) (r':Int) (t':List UInt8):Decidable (ltK r t r' t'):=by unfold ltK;infer_instance
theorem ltK_irrefl {r:Int} {t:List UInt8}:¬ ltK r t r t:=by
  rintro(h|⟨_,h⟩)
  · omega
  · exact List.lt_irrefl _ h
theorem ltK_trans {r1 r2 r3:Int} {t1 t2 t3:List UInt8} (h:ltK r1 t1 r2 t2) (k:ltK r2 t2 r3 t3):ltK r1 t1 r3 t3:=by
  rcases h with h|⟨rfl,h⟩ <;> rcases k with k|⟨rfl,k⟩
  · exact .inl (by omega)
  · exact .inl h
  · exact .inl k
  · exact .inr ⟨rfl,List.lt_trans h k⟩
theorem ltK_tri (r1:Int) (t1:List UInt8) (r2:Int) (t2:List UInt8):ltK r1 t1 r2 t2∨(r1=r2∧t1=t2)∨ltK r2 t2 r1 t1:=by
  unfold ltK
  rcases Int.lt_trichotomy r1 r2 with h|h|h
  · exact .inl (.inl h)
  · subst h
    by_cases h1:t1<t2
    · exact .inl (.inr ⟨rfl,h1⟩)
    by_cases h2:t2<t1
    · exact .inr (.inr (.inr ⟨rfl,h2⟩))
    exact .inr (.inl ⟨rfl,List.le_antisymm (List.not_lt.1 h2) (List.not_lt.1 h1)⟩)
  · exact .inr (.inr (.inl h))
def isRole (r:Int):Bool:=decide (1≤r)&&decide (r≤5)
def placeN (xs:List Post) (r:Int) (t:List UInt8):Nat:=(xs.takeWhile fun p=>decide (ltK p.role p.text r t)).length
theorem takeWhile_stop2 {α:Type} {f:α→Bool}:∀ {l:List α} {i:Nat},(∀ j,j<i→∀ a,l[j]?=some a→f a=true)→i≤l.length→(∀ a,l[i]?=some a→f a=false)→(l.takeWhile f).length=i
  | [],i,_,hi,_=>by simp at hi;simp [hi]
  | a::l,0,_,_,h=>by rw [List.takeWhile_cons_of_neg (by simp [h a rfl])];rfl
  | a::l,i+1,h,hi,h2=>by
    rw [List.takeWhile_cons_of_pos (h 0 (by omega) a rfl),List.length_cons,takeWhile_stop2 (i:=i) (fun j hj b hb=>h (j+1) (by omega) b hb) (by simpa using hi) (fun b hb=>h2 b hb)]
theorem placeN_le (xs:List Post) (r:Int) (t:List UInt8):placeN xs r t≤xs.length:=by
  unfold placeN
  exact(List.takeWhile_prefix _).length_le
def findF (xs:List Post) (r:Int) (t:List UInt8):List Int:=match xs[placeN xs r t]? with|none=>[]|some p=>if p.role=r∧p.text=t then p.ids else []
theorem withN_le (ids:List Int) (id:Int):withN ids id≤ids.length:=(List.takeWhile_prefix _).length_le
def withF (ids:List Int) (id:Int):List Int:=if ids[withN ids id]?=some id then ids else ids.take (withN ids id)++id::ids.drop (withN ids id)
def putF (xs : List Post) (r : Int) (t : List UInt8) (id : Int) : List Post :=
  if isRole r then
    (match xs[placeN xs r t]? with
     | some p=>if p.role=r∧p.text=t then xs.set (placeN xs r t) ⟨p.role,p.text,withF p.ids id⟩ else xs.take (placeN xs r t)++⟨r,t,[id]⟩::xs.drop (placeN xs r t)
     | none=>xs.take (placeN xs r t)++⟨r,t,[id]⟩::xs.drop (placeN xs r t))
  else xs
def takeF (xs:List Post) (r:Int) (t:List UInt8) (id:Int):List Post:=
  match xs[placeN xs r t]? with
  | none=>xs
  | some p=>if p.role=r∧p.text=t then xs.take (placeN xs r t)++((if (p.ids.filter fun n=>decide (n≠id))=[] then [] else [⟨r,t,p.ids.filter fun n=>decide (n≠id)⟩])++xs.drop (placeN xs r t+1)) else xs
def rise:List Int→Bool
  | a::b::r=>decide (a<b)&&rise (b::r)
  | _=>true
end Go.Proofs.YtnifmbbpfdghmaaGreatDoor.Ix
namespace Go.Proofs.YtnifmbbpfdghmaaGreatDoor.Ix
open Go.RowKit Go.En
theorem post_elem {G:Nat→Prop} {w:World} {b off n cap:Nat} {xs:List Post} (h:SlG G w (.slice (some ⟨b,off,none⟩) n cap) xs) {i:Nat} {x:Post} (hx:xs[i]?=some x):∃ iv,At w b (off+i*3) [int x.role,str x.text,iv]∧SlG G w iv x.ids:=by
  obtain⟨cs,⟨iv,rfl,h1⟩,h2⟩:=h.elem hx
  exact⟨iv,h2,h1⟩
attribute [local irreducible] E EL K Val Enters Rt Calls bodyPost Code.wp RQ
end Go.Proofs.YtnifmbbpfdghmaaGreatDoor.Ix
