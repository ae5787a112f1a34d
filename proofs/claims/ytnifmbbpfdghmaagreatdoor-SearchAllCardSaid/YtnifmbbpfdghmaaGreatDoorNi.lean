/-
  Walks of match: Eval and Holds.
-/
import Derived.Test.YtnifmbbpfdghmaaGreatDoorNh
set_option linter.all false
namespace Go.Proofs.YtnifmbbpfdghmaaGreatDoor
open Go.RowKit Go.En
theorem ev_0 (d:Dc) (role:Int) (t:List UInt8) (ks:List Qy):evF matchF d (.mk 0 role t ks)=idsOf d (textP matchF d role t):=by rw [evF_mk];rfl
theorem ev_1 {d:Dc} (h:LightD d) (role:Int) (t:List UInt8) (a b:Qy):evF matchF d (.mk 1 role t [a,b])=bothF (evF matchF d a) (evF matchF d b):=by
  rw [evF_mk,both_ids h (evF_in matchF d a)];rfl
theorem ev_2 {d:Dc} (h:LightD d) (role:Int) (t:List UInt8) (a b:Qy):evF matchF d (.mk 2 role t [a,b])=unionS (evF matchF d a) (evF matchF d b):=by
  rw [evF_mk,union_ids h (evF_in matchF d a) (evF_in matchF d b)];rfl
theorem ev_4 (d:Dc) (role:Int) (t:List UInt8) (a b:Qy):evF matchF d (.mk 4 role t [a,b])=idsOf d (thenP d (evF matchF d a) (evF matchF d b)):=by rw [evF_mk];rfl
theorem ev_5 (d:Dc) (role:Int) (t:List UInt8) (a b:Qy):evF matchF d (.mk 5 role t [a,b])=idsOf d (withinP d (evF matchF d a) (evF matchF d b)):=by rw [evF_mk];rfl
theorem ev_6 (d:Dc) (role:Int) (t:List UInt8) (a b:Qy):evF matchF d (.mk 6 role t [a,b])=idsOf d (hasP d (evF matchF d a) (evF matchF d b)):=by rw [evF_mk];rfl
theorem ev_role3 {d:Dc} (h:LightD d) (role:Int) (t:List UInt8) (a:Qy):evF matchF d (.mk 3 role t [a])=minusS (idsOf d (ofRoleP d role)) (evF matchF d a):=by
  rw [evF_mk,minus_role h];rfl
theorem roleL_len {d:Dc} (h:LightD d) (role:Int):(roleL d role).length≤1000:=by
  unfold roleL ofR
  rw [List.length_map,(insSort_perm _).length_eq]
  have h1:(ofTier d (roleF d role)).length≤d.notes.length:=List.length_filter_le _ _
  have:=h.nnotes
  omega
theorem kid_small {op role:Int} {t:List UInt8} {ks:List Qy} {i:Nat} {k:Qy} (h:ks[i]?=some k):SizeOf.sizeOf k<SizeOf.sizeOf (Qy.mk op role t ks):=by
  have:=List.sizeOf_lt_of_mem (List.mem_of_getElem? h)
  simp only [Qy.mk.sizeOf_spec]
  omega
theorem eql_is {P:Program} {L:List (Nat × Value)} {w:World} {o:Oper} {t u:TypeId} {x y:Operand} {a b:Int} {r:Bool} (ho:o.op=.binOp .eql t x y u) (hx:ev L x=some (int a)) (hy:ev L y=some (int b)) (h:decide (a=b)=r):Val P L w o (.bool r):=h▸val_eql ho hx hy
theorem len_two {α:Type}:∀ {l:List α},l.length=2→∃ a b,l=[a,b]
  | [a,b],_=>⟨a,b,rfl⟩
  | [],h=>by simp at h
  | [a],h=>by simp at h
  | a::b::c::l,h=>by simp at h
attribute [local irreducible] E EL K Val Enters Rt Calls bodyPost Code.wp RQ
end Go.Proofs.YtnifmbbpfdghmaaGreatDoor
