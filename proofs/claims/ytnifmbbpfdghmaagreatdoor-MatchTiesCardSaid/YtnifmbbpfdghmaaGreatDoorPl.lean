/-
  Walks of the layers runes and pattern.
-/
import Derived.Test.YtnifmbbpfdghmaaGreatDoorPi
import Derived.Test.YtnifmbbpfdghmaaGreatDoorY2
set_option linter.all false
namespace Go.Proofs.YtnifmbbpfdghmaaGreatDoor
open Go.RowKit Go.En
attribute [local irreducible] E EL K Val Enters Rt Calls bodyPost Code.wp RQ

set_option maxRecDepth 8000 in
theorem parts {p : List UInt8} {ts : List Int} (h : tokens p = .ok ts) : ∃ zs ys, points p = some zs ∧ itGo ([], false) zs = some (ys, false) ∧ ts = ys.map tokOf ∧ (∀ y ∈ ys, y.1 = 0 ∨ y.1 = 1 ∨ y.1 = 2) ∧ (∀ y ∈ ys, y.1 = 0 → scal y.2 = true) := by
  have hok := (tokens_ok h).2.1
  unfold tokens at h
  split at h
  · cases h
  · split at h
    · cases h
    · split at h
      · cases h
      · rename_i zs hz
        split at h
        · cases h
        · rename_i us hu
          cases h
          have hc : zs.any ctl = false := by
            cases hcc : zs.any ctl with
            | false => rfl
            | true => rw [tokGo_ctl _ zs (Nat.le_refl _) hcc] at hu; cases hu
          have hg := itGo_tok _ zs [] (Nat.le_refl _) hc
          rw [hu] at hg
          revert hg
          cases hi : itGo ([], false) zs with
          | none => exact fun h => h.elim
          | some q =>
            obtain ⟨xs, b⟩ := q
            cases b with
            | true => exact fun h => h.elim
            | false =>
              rintro ⟨ys, hxs, rfl, hk⟩
              rw [List.nil_append] at hxs
              subst hxs
              refine ⟨zs, _, hz, hi, rfl, hk, fun y hy h0 => ?_⟩
              have := hok (tokOf y) (List.mem_map.2 ⟨y, hy, rfl⟩)
              unfold TokOk tokOf at this
              rw [if_pos h0] at this
              rcases this with h | h | h
              · omega
              · omega
              · simpa using h.2
set_option maxRecDepth 8000 in
theorem pItems_any {p : List UInt8} {zs : List Nat} {ys : List (Int × Nat)} (hl : p.length ≤ 64) (hp : points p = some zs) (hi : itGo ([], false) zs = some (ys, false)) (w : World) :
    Calls Tryz.prog 120 #[str p] w (Rt fun u w' => Ext w w' ∧ ∃ v, u = .tuple #[v, .bool true] ∧ ItsOwn w w' v ys) := by
  have h := items_any p (by omega) zs hp w
  rw [hi] at h
  exact h
set_option maxRecDepth 8000 in
theorem checkF_ok {p : List UInt8} {ts : List Int} (h : tokens p = .ok ts) : checkF p = 0 := by unfold checkF; rw [h]
set_option maxRecDepth 8000 in
theorem checkF_err {p : List UInt8} {e : Int} (h : tokens p = .error e) : checkF p ≠ 0 := by unfold checkF; rw [h]; exact err_ne h
set_option maxRecDepth 8000 in
theorem it_len (z : Int × Nat) : (itCells z).length = 2 := rfl
set_option maxRecDepth 8000 in
theorem it_kind {w : World} {b : Nat} {e : TypeId} {y : Int × Nat} (h : Row w b e (itCells y)) : w.cell? ⟨b, 0, none⟩ = some (int y.1) := h.cell 0
set_option maxRecDepth 8000 in
theorem it_scal {w : World} {b : Nat} {e : TypeId} {y : Int × Nat} (h : Row w b e (itCells y)) : w.cell? ⟨b, 1, none⟩ = some (.int .i32 (y.2 : Int)) := h.cell 1
end Go.Proofs.YtnifmbbpfdghmaaGreatDoor
