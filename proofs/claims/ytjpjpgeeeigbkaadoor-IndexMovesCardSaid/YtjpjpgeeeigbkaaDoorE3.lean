/-
  Short names of the engine's rules (a hand-in's folder has a limit of size), and sums of the machine's own integers.
-/
import Derived.Test.YtjpjpgeeeigbkaaDoorE2
set_option linter.all false
namespace Go.En
open Go.RowKit
def eN := @EL_nil
def eO := @EL_no
def eV := @EL_val
def eD := @EL_dec
def eL := @EL_lit
def eG := @EL_gcase
def yN := @RQ_fin
def yO := @RQ_no
def yV := @RQ_val
def yD := @RQ_dec
def yG := @RQ_gcase
def zA := @val_move
def zB := @val_assign
def zC := @val_pick_t
def zD := @val_pick_f
def zE := @val_not
def zF := @val_extract
def zG := @val_nilCheck
def zH := @val_fieldAddr
def zI := @val_field
def zJ := @val_len_str
def zK := @val_len_sl
def zL := @val_lss
def zM := @val_eql
def zN := @val_leq
def zO := @val_gtr
def zP := @val_geq
def zQ := @val_neq
def zR := @val_str_eql
def zS := @val_str_neq
theorem bytes_lt : ∀ (x y : List UInt8), Op.bytesLess x y = decide (x < y)
  | x, [] => by simp [Op.bytesLess]
  | [], b :: y => by simp [Op.bytesLess]
  | a :: x, b :: y => by
    simp only [Op.bytesLess, bytes_lt x y, List.cons_lt_cons_iff, Bool.decide_or, Bool.decide_and]
    congr 2
section
variable {P : Program} {L : List (Nat × Value)} {w : World} {o : Oper}
theorem zT {t u : TypeId} {x y : Operand} {a b : List UInt8} (ho : o.op = .binOp .lss t x y u) (hx : ev L x = some (str a)) (hy : ev L y = some (str b)) : Val P L w o (.bool (decide (a < b))) := by
  have := val_str_lss (P := P) (w := w) ho hx hy
  rwa [bytes_lt] at this
theorem zU {t u : TypeId} {x y : Operand} {a b : Int} (ho : o.op = .binOp .add t x y u) (hx : ev L x = some (int a)) (hy : ev L y = some (int b)) (h1 : -9223372036854775808 ≤ a + b) (h2 : a + b ≤ 9223372036854775807) : Val P L w o (int (a + b)) := val_add ho hx hy h1 h2
theorem zV {t u : TypeId} {x y : Operand} {a b : Int} (ho : o.op = .binOp .sub t x y u) (hx : ev L x = some (int a)) (hy : ev L y = some (int b)) (h1 : -9223372036854775808 ≤ a - b) (h2 : a - b ≤ 9223372036854775807) : Val P L w o (int (a - b)) := val_sub ho hx hy h1 h2
theorem zW {t u : TypeId} {x y : Operand} {a b : Int} (ho : o.op = .binOp .mul t x y u) (hx : ev L x = some (int a)) (hy : ev L y = some (int b)) (h1 : -9223372036854775808 ≤ a * b) (h2 : a * b ≤ 9223372036854775807) : Val P L w o (int (a * b)) := val_mul ho hx hy h1 h2
end
theorem Row.cellAt {w : World} {b j : Nat} {e : TypeId} {cs : List Value} {v : Value} (h : Row w b e cs) (hv : cs[j]? = some v) : w.cell? ⟨b, j, none⟩ = some v := by rw [h.cell, hv]
theorem At.cellAt {w : World} {b off j : Nat} {cs : List Value} {v : Value} (h : At w b off cs) (hv : cs[j]? = some v) : w.cell? ⟨b, off + j, none⟩ = some v := h j v hv
/-- a result that lies in a cell: a struct -/
theorem ret_c {P : Program} {n : Nat} {L : List (Nat × Value)} {w : World} {fn : Func} {S : Value → World → Prop} {s : Tmp} {ty : TypeId} {d : TypeDesc} {b off : Nat} {cs : List Value} {z : Value} {size bytes : Nat} [UT P ty d] [TI P ty z size bytes] (hr : fn.results = #[.cell s ty])
    (hd : isAggD d = true) (hv : lk L s = some (.pointer (some ⟨b, off, none⟩))) (hc : At w b off cs) (hl : Nat.beq cs.length size = true) (hs : S (.agg cs.toArray) w) : K n (bodyPost P fn (Rt S)) .ret L w := fun a ha => by
  refine ⟨ha.nod, .agg cs.toArray, ?_, _, rfl, hs⟩
  have h1 := ha.get s _ hv
  have h3 := run_isAgg (P := P) (t := ty) w
  rw [hd] at h3
  obtain ⟨i0, hi0, _, hsz, _⟩ := run_ti (P := P) (t := ty) w
  have h4 := run_loadCells_list (P := P) w ⟨b, off, none⟩ cs (fun j v hv => by rw [addr_add]; exact hc j v hv)
  rw [Nat.eq_of_beq_eq_true hl] at h4
  unfold loadCells at h4
  simp [results, hr, Array.getD_eq_getD_getElem?, h1, Instr.loadAt, Instr.sureAddr, loadVar, go_sem, h3, sizeOf, hi0, hsz, h4]
/-- three cells' groups laid into a row one behind the other -/
theorem ins3 {c0 A X B : List Value} {o1 o2 : Nat} (h1 : A.length = o1) (h2 : o1 + X.length = o2) (h3 : o2 + B.length = c0.length) :
    (((c0.take 0 ++ A ++ c0.drop (0 + A.length)).take o1 ++ X ++ (c0.take 0 ++ A ++ c0.drop (0 + A.length)).drop (o1 + X.length)).take o2 ++ B ++ ((c0.take 0 ++ A ++ c0.drop (0 + A.length)).take o1 ++ X ++ (c0.take 0 ++ A ++ c0.drop (0 + A.length)).drop (o1 + X.length)).drop (o2 + B.length)) = A ++ X ++ B := by
  subst h1
  have e1 : (c0.take 0 ++ A ++ c0.drop (0 + A.length)).take A.length = A := by simp
  rw [e1]
  have hlen : (A ++ X ++ (c0.take 0 ++ A ++ c0.drop (0 + A.length)).drop (A.length + X.length)).length = c0.length := by simp; omega
  have e2 : (A ++ X ++ (c0.take 0 ++ A ++ c0.drop (0 + A.length)).drop (A.length + X.length)).take o2 = A ++ X := by
    rw [List.take_append_of_le_length (by simp; omega), List.take_of_length_le (by simp; omega)]
  rw [e2, List.drop_eq_nil_of_le (by rw [hlen]; omega), List.append_nil]
end Go.En
