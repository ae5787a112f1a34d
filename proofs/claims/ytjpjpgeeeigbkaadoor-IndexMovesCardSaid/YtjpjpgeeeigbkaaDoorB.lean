/-
  A region that draws its order and makes a variable of its own ('y := f(x)' where y's address is taken).
-/
import Derived.Test.YtjpjpgeeeigbkaaDoorA
set_option linter.all false
namespace Go.En
open Go.RowKit
section
variable {P : Program} {n : Nat} {Q : Post} {ops : List Oper}
theorem E_dm {id : Nat} {L : List (Nat × Value)} {w : World} (m : Nat) (hm : P.follows .mixedOrders = true) (hc : chk ops m = true) (hdm : domb n L = true) (h : RQ P n ops w Q (ops.take m) (ops.drop m) (vG L)) : E P n (.region id ops.toArray true) Q L w := by
  refine E_dr m hm hc hdm ?_
  unfold RQ at h
  have hml : m ≤ ops.length := by
    simp only [chk, Bool.and_eq_true] at hc
    exact Nat.le_of_ble_eq_true hc.1.1.1.1
  rw [List.take_append_drop, List.length_take, Nat.min_eq_left hml] at h
  exact h
theorem RQ_alloc {w0 : World} {o : Oper} {rest tl : List Oper} {G : List (Nat × Ent)} {d : Nat} {t : TypeId} {z : Value} {size bytes : Nat} [TI P t z size bytes] (hg : ggst ops G o = some true) (hd : odst n o.dst = some d) (ho : o.op = .alloc t)
    (k : RQ P n ops w0 Q rest tl ((d, .r (fun u w => ∃ b, u = .pointer (some ⟨b, 0, none⟩) ∧ w0.heap.size ≤ b ∧ Row w b t z.cells.toList)) :: G)) : RQ P n ops w0 Q (o :: rest) tl G :=
  RW_op (T := .r (fun u w => ∃ b, u = .pointer (some ⟨b, 0, none⟩) ∧ w0.heap.size ≤ b ∧ Row w b t z.cells.toList)) hg (odst_eq hd).2 (fun _ _ _ _ xe h => by obtain ⟨b, e, h1, h2⟩ := h; exact ⟨b, e, h1, h2.ext xe⟩)
    (fun w _ hw _ ρ _ => .inl ⟨_, _, run_alloc ho ρ w, ⟨w.heap.size, rfl, hw.size, row_alloc _ _ _⟩, ext_alloc _ _⟩) (by rw [(odst_eq hd).1]; exact k)
end
theorem val_bool_eq2 {P : Program} {L : List (Nat × Value)} {w : World} {o : Oper} {t u : TypeId} {x y : Operand} {a b : Bool} [ut : UT P t .bool] (ho : o.op = .binOp .eql t x y u) (hx : ev L x = some (.bool a)) (hy : ev L y = some (.bool b)) : Val P L w o (.bool (a == b)) := fun ρ ha => by
  have h1 := ha.ev (by rw [ho]; simp [Op.operands]) hx
  have h2 := ha.ev (by rw [ho]; simp [Op.operands]) hy
  have h3 := run_ut (t := t) (P := P) w
  have h4 := run_eql_bool (P := P) w t a b ut.u
  simp [execOp, ho, h1, h2, go_sem, h3, h4]
theorem val_bool_ne2 {P : Program} {L : List (Nat × Value)} {w : World} {o : Oper} {t u : TypeId} {x y : Operand} {a b : Bool} [ut : UT P t .bool] (ho : o.op = .binOp .neq t x y u) (hx : ev L x = some (.bool a)) (hy : ev L y = some (.bool b)) : Val P L w o (.bool (!(a == b))) := fun ρ ha => by
  have h1 := ha.ev (by rw [ho]; simp [Op.operands]) hx
  have h2 := ha.ev (by rw [ho]; simp [Op.operands]) hy
  have h3 := run_ut (t := t) (P := P) w
  have h4 := run_neq_bool (P := P) w t a b ut.u
  simp [execOp, ho, h1, h2, go_sem, h3, h4]
end Go.En
