/-
  Search, plainly: Bound, and how it bounds what a query finds.
-/
import Derived.Test.YtnifmbbpfdghmaaGreatDoorYm
import Derived.Test.YtnifmbbpfdghmaaGreatDoorNl
import Derived.Test.YtnifmbbpfdghmaaGreatDoorY1
set_option linter.all false
namespace Go.Proofs.YtnifmbbpfdghmaaGreatDoor
open Go.RowKit Go.En
def bopF (n0 n1:Int) (op:Int) (ks:List Int):Int:=
  if op=0 then n0 else if op=3 then n1 else
  match ks with
  | []=>0
  | [a]=>a
  | a::b::_=>if op=1 then (if b<a then b else a) else if op=2 then wr64 (a+b) else a
mutual
def bndF (xs:List Ix.Post):Qy→Int
  | .mk op role text kids=>bopF (textX xs role (matchF text)).length (textX xs role (fun _=>true)).length op (bndA xs kids)
def bndA (xs:List Ix.Post):List Qy→List Int
  | []=>[]
  | q::qs=>bndF xs q::bndA xs qs
end
theorem bndA_map (xs:List Ix.Post):∀ qs:List Qy,bndA xs qs=qs.map (bndF xs)
  | []=>by unfold bndA;rfl
  | q::qs=>by unfold bndA;rw [bndA_map xs qs];rfl
theorem bnd_0 (xs:List Ix.Post) (role:Int) (t:List UInt8) (ks:List Qy):bndF xs (.mk 0 role t ks)=(textX xs role (matchF t)).length:=by unfold bndF;rfl
theorem bnd_3 (xs:List Ix.Post) (role:Int) (t:List UInt8) (ks:List Qy):bndF xs (.mk 3 role t ks)=(textX xs role (fun _=>true)).length:=by unfold bndF;rfl
theorem bnd_1 (xs:List Ix.Post) (role:Int) (t:List UInt8) (a b:Qy):bndF xs (.mk 1 role t [a,b])=if bndF xs b<bndF xs a then bndF xs b else bndF xs a:=by rw [bndF,bndA_map];rfl
theorem bnd_2 (xs:List Ix.Post) (role:Int) (t:List UInt8) (a b:Qy):bndF xs (.mk 2 role t [a,b])=wr64 (bndF xs a+bndF xs b):=by rw [bndF,bndA_map];rfl
theorem bnd_4 (xs:List Ix.Post) {op:Int} (role:Int) (t:List UInt8) (a b:Qy) (h:op=4∨op=5∨op=6):bndF xs (.mk op role t [a,b])=bndF xs a:=by
  rw [bndF,bndA_map]
  rcases h with rfl|rfl|rfl <;> rfl
mutual
def sizeQ:Qy→Nat
  | .mk _ _ _ kids=>1+sizeA kids
def sizeA:List Qy→Nat
  | []=>0
  | q::qs=>sizeQ q+sizeA qs
end
theorem len_two2 {α:Type}:∀ {l:List α},l.length=2→∃ a b,l=[a,b]
  | [a,b],_=>⟨a,b,rfl⟩
  | [],h=>by simp at h
  | [a],h=>by simp at h
  | a::b::c::l,h=>by simp at h
theorem ok_shape {q:Qy} (hok:okQ q):(∃ r t ks,q=.mk 0 r t ks)∨(∃ r t a,q=.mk 3 r t [a]∧okQ a)∨∃ op r t a b,q=.mk op r t [a,b]∧okQ a∧okQ b∧(op=1∨op=2∨op=4∨op=5∨op=6):=by
  obtain⟨op,r,t,ks⟩:=q
  unfold okQ at hok
  obtain⟨h0,h1,h2,h3⟩:=hok
  by_cases e0:op=0
  · subst e0;exact .inl ⟨r,t,ks,rfl⟩
  by_cases e3:op=3
  · subst e3
    obtain⟨a,rfl⟩:=List.length_eq_one_iff.1 (show ks.length=1 from h2)
    exact .inr (.inl ⟨r,t,a,rfl,okAll_get h3 (i:=0) rfl⟩)
  · have hk:ks.length=2:=by rw [h2];unfold kidsC;rw [if_neg e0,if_neg e3]
    obtain⟨a,b,rfl⟩:=len_two2 hk
    exact .inr (.inr ⟨op,r,t,a,b,rfl,okAll_get h3 (i:=0) rfl,okAll_get h3 (i:=1) rfl,by omega⟩)
end Go.Proofs.YtnifmbbpfdghmaaGreatDoor
