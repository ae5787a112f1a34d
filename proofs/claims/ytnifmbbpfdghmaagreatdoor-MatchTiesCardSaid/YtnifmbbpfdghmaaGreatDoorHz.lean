/-
  Clear of a part of an own row; append of zeros onto nothing; cap; comparing a slice with nil.
-/
import Derived.Test.YtnifmbbpfdghmaaGreatDoorY1
import Derived.Lib.SliceRun
set_option linter.all false
namespace Go.En
open Go.RowKit
section
variable {P : Program} {n : Nat} {Q : Post} {L : List (Nat × Value)} {w : World} {ops : List Oper} {o : Oper} {rest : List Oper}
theorem EL_valn {v : Value} {w' : World} (hg : gst ops L o = some true) (hd : o.dst = none) (h : ∀ ρ, Agree L o ρ → (execOp ρ o).run P w = .ok (.value v) w') (k : EL P n ops Q rest L w') : EL P n ops Q (o :: rest) L w :=
  fun a ha => wpList_step fun K hK => by
    rw [wanted_gst ha hg, if_pos rfl]
    unfold Oper.wp
    rw [h a.eval (ha.agree o)]
    refine hK _ _ (k _ ?_)
    rw [hd]
    exact ha
theorem zeroCells_one (z : Value) (n : Nat) : (Builtin.zeroCells #[z] n).toList = List.replicate n z := by
  unfold Builtin.zeroCells
  apply List.ext_getElem?
  intro i
  simp only [Array.toList_map, Array.toList_range, List.getElem?_map, List.getElem?_replicate]
  by_cases hi : i < n
  · rw [List.getElem?_range (by simpa using hi), if_pos hi]
    simp [Nat.mod_one]
  · rw [if_neg hi, List.getElem?_eq_none (by simpa using hi)]
    rfl
/-- clear of a part of an own row-/
theorem EL_clear {t e : TypeId} {x : Operand} {z : Value} {bytes : Nat} {b off m cap : Nat} {cur : List Value} [ut : UT P t (.slice e)] [ti : TI P e z 1 bytes] (hr : Row w b e cur) (hg : gst ops L o = some true) (hd : o.dst = none) (ho : o.op = .call { callee := .builtin .clear, args := #[x], argTypes := #[t] })
    (hx : ev L x = some (.slice (some ⟨b, off, none⟩) m cap)) (hz : z.cells = #[z]) (h1 : z.oneCell' = true) (hfit : off + m ≤ cur.length)
    (k : ∀ w', Row w' b e (cur.take off ++ List.replicate m z ++ cur.drop (off + m)) → Kb (some b) w w' → EL P n ops Q rest L w') : EL P n ops Q (o :: rest) L w := by
  obtain ⟨i0, hi, hz0, hz1, hz2⟩ := info_parts ti.i
  have hzv : (zeroValue e).run P w = .ok z w := run_zeroValue (P := P) (t := e) w
  have hu := run_ut (t := t) (P := P) w
  by_cases h0 : m = 0
  · subst h0
    refine EL_valn (w' := w) (v := .tuple #[]) hg hd (fun ρ ha => ?_) (k w (by simpa using hr) (World.grownBy.refl _ _))
    have a1 := ha.ev (by rw [ho]; simp [Op.operands, Call.operands]) hx
    simp [execOp, ho, resolve, invoke, builtin, Builtin.clear_, a1, hu]
  · have hst := run_storeCells_at (P := P) b off e (List.replicate m z) 0 cur.toArray w hr (by simp; omega) (fun u hu => by rw [List.eq_of_mem_replicate hu]; exact h1)
    simp only [Nat.add_zero] at hst
    have hkb : Kb (some b) w (w.setRow b (cur.take off ++ List.replicate m z ++ cur.drop (off + m)).toArray) := ⟨rfl, rfl, rfl, by simp, fun k hk hne => setRow_other w b k _ (fun e => hne (by rw [e]))⟩
    refine EL_valn (w' := w.setRow b (cur.take off ++ List.replicate m z ++ cur.drop (off + m)).toArray) (v := .tuple #[]) hg hd (fun ρ ha => ?_) (k _ (setRow_heap w b cur.toArray _ e (0, 0) hr) hkb)
    have a1 := ha.ev (by rw [ho]; simp [Op.operands, Call.operands]) hx
    obtain ⟨m', rfl⟩ : ∃ m', m = m' + 1 := ⟨m - 1, by omega⟩
    simp only [execOp, ho, resolve, invoke, builtin, Builtin.clear_, Sem.run_bind, Sem.run_pure, Result.andThen_ok, List.map_toArray, List.map_cons, List.map_nil, a1, hu, hzv, hz, zeroCells_one]
    simp [hu, hzv, hz, zeroCells_one, hst]
/-- append of q zeros onto nothing-/
theorem EL_appZ {d : Nat} {t u e : TypeId} {s x : Operand} {z : Value} {size bytes : Nat} [ut : UT P t (.slice e)] [uu : UT P u (.int .i64)] [ti : TI P e z size bytes] {q : Nat} {zq : Int} (hg : gst ops L o = some true) (hd : odst n o.dst = some d) (ho : o.op = .call { callee := .builtin .append, args := #[s, x], argTypes := #[t, u] })
    (hs : ev L s = some (.slice none 0 0)) (hx : ev L x = some (int zq)) (hzq : zq = (q : Int)) (h0 : 0 < q) (hz : z.cells.size = size) (hsz : Nat.ble 1 size = true) (hmax : q * bytes ≤ 140737488355328) (hmax' : q ≤ 9223372036854775807)
    (k : ∀ b c cur w', b = w.heap.size → q ≤ c → c ≤ maxLen → Row w' b e cur → cur.length = c * size → Ext w w' → EL P n ops Q rest ((d, .slice (some ⟨b, 0, none⟩) q c) :: L) w') : EL P n ops Q (o :: rest) L w := by
  obtain ⟨i0, hi, hz0, hz1, hz2⟩ := info_parts ti.i
  have hzv : (zeroValue e).run P w.drew = .ok z w.drew := run_zeroValue (P := P) (t := e) w.drew
  have hs1 := Nat.le_of_ble_eq_true hsz
  have hu := run_ut (t := t) (P := P) w
  have hu2 := run_ut (t := u) (P := P) w
  subst hzq
  have hge := grownCap_ge w q 0 e
  have hcm : grownCap w q 0 e ≤ maxLen := grownCap_le_maxLen w q 0 e (by unfold maxLen; omega)
  have hw : IntKind.i64.wrap (q : Int) = (q : Int) := wrap_in .i64 (by show (-9223372036854775808 : Int) ≤ _; omega) (by show _ ≤ (9223372036854775807 : Int); omega)
  have h48 : ¬ ((281474976710656 : Int) < (q : Int) * (i0.bytes : Int)) := by
    rw [hz2]
    have : ((q * bytes : Nat) : Int) ≤ 281474976710656 := by omega
    rw [Int.natCast_mul] at this
    omega
  have h48' : ¬ (281474976710656 < Builtin.nextslicecap q 0 * i0.bytes) := by rw [nextslicecap_zero h0, hz2]; omega
  have hqs : q * i0.size ≠ 0 := by
    rw [hz1]
    intro h
    rcases Nat.mul_eq_zero.1 h with h | h <;> omega
  have h63 : ¬ ((9223372036854775807 : Int) < (q : Int)) := by omega
  have hq0 : q ≠ 0 := by omega
  have hneg : ¬ ((q : Int) < 0) := by omega
  refine EL_valw (v := .slice (some ⟨w.heap.size, 0, none⟩) q (grownCap w q 0 e)) (w' := w.drew.alloc (.cells (Builtin.zeroCells z.cells q ++ Builtin.zeroCells z.cells (grownCap w q 0 e - q)) e)) hg hd (fun ρ ha => ?_) (k _ _ _ _ rfl hge hcm (row_alloc w.drew e _) ?_ ((ext_drew w).trans (ext_alloc _ _)))
  · have a1 := ha.ev (by rw [ho]; simp [Op.operands, Call.operands]) hs
    have a2 := ha.ev (by rw [ho]; simp [Op.operands, Call.operands]) hx
    simp [execOp, ho, resolve, invoke, builtin, Builtin.append_, a1, a2, hu, hu2, sizeOf, typeInfo, zeroValue, hi, hz0, Builtin.lenOf, asInt, asIntOf, int, hw, hneg, h48, h48', h63, hq0, hqs, Question.forced, run_firstCells_none, newRow, grownCap]
  · rw [Array.toList_append, List.length_append, Array.length_toList, Array.length_toList, size_zeroCells, size_zeroCells, hz, ← Nat.add_mul]
    congr 1
    omega
end
section
variable {P : Program} {L : List (Nat × Value)} {w : World} {o : Oper}
theorem val_cap_sl {t e : TypeId} {x : Operand} {a : Option Addr} {m c : Nat} [UT P t (.slice e)] (ho : o.op = .call { callee := .builtin .cap, args := #[x], argTypes := #[t] }) (hx : ev L x = some (.slice a m c)) : Val P L w o (int c) := fun ρ ha => by
  have := ha.ev (by rw [ho]; simp [Op.operands, Call.operands]) hx
  have h3 := run_ut (t := t) (P := P) w
  simp [execOp, ho, resolve, invoke, builtin, Builtin.cap_, go_sem, this, h3, goInt]
theorem val_nil_eq {t e u : TypeId} {x y : Operand} {a : Option Addr} {m c : Nat} [ut : UT P t (.slice e)] (ho : o.op = .binOp .eql t x y u) (hx : ev L x = some (.slice a m c)) (hy : ev L y = some (.slice none 0 0)) : Val P L w o (.bool a.isNone) := fun ρ ha => by
  have h1 := ha.ev (by rw [ho]; simp [Op.operands]) hx
  have h2 := ha.ev (by rw [ho]; simp [Op.operands]) hy
  have h3 := run_ut (t := t) (P := P) w
  have h4 := Lib.run_eql_slice_nil (P := P) w t e a m c 0 0 ut.u
  simp [execOp, ho, h1, h2, h3, h4, eqGuard]
end
end Go.En
