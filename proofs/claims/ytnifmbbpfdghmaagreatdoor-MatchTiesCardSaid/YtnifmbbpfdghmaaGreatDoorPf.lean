/-
  Walks of the layers runes and pattern.
-/
import Derived.Test.YtnifmbbpfdghmaaGreatDoorY2
set_option linter.all false
namespace Go.Proofs.YtnifmbbpfdghmaaGreatDoor
open Go.RowKit Go.En
attribute [local irreducible] E EL K Val Enters Rt Calls bodyPost Code.wp RQ

def itCells (x : Int × Nat) : List Value := [int x.1, .int .i32 (x.2 : Int)]
def ItsOwn (w0 w : World) (v : Value) (xs : List (Int × Nat)) : Prop := w.ownsRow w0.heap.size 131 2 v xs.length (xs.map itCells).flatten
def ItR (w : World) (r : Option ItSt) (u : Value) (w' : World) : Prop := Ext w w' ∧ match r with | none => u = .tuple #[.slice none 0 0, .bool false] | some (xs, b) => ∃ v, u = .tuple #[v, .bool (!b)] ∧ ItsOwn w w' v xs
set_option maxRecDepth 8000 in
theorem itCells_app (xs : List (Int × Nat)) (x : Int × Nat) : ((xs ++ [x]).map itCells).flatten = (xs.map itCells).flatten ++ itCells x := by simp

set_option maxRecDepth 8000 in
theorem sp_pos {z : Nat} (h : z = 42 ∨ z = 63 ∨ z = 92) : specialI (z : Int) = true := by rw [special_nat]; rcases h with rfl | rfl | rfl <;> rfl
set_option maxRecDepth 8000 in
theorem sp_neg {z : Nat} (h : ¬ (z = 42 ∨ z = 63 ∨ z = 92)) : ¬ specialI (z : Int) = true := by rw [special_nat]; simp; omega
set_option maxRecDepth 8000 in
theorem itStep_esc {acc : List (Int × Nat)} {z : Nat} (h : z = 42 ∨ z = 63 ∨ z = 92) : itStep (acc, true) z = some (acc ++ [(0, z)], false) := by simp [itStep, sp_pos h]
set_option maxRecDepth 8000 in
theorem itStep_bad {acc : List (Int × Nat)} {z : Nat} (h : ¬ (z = 42 ∨ z = 63 ∨ z = 92)) : itStep (acc, true) z = none := by simp [itStep, sp_neg h]
set_option maxRecDepth 8000 in
theorem itStep_plain {acc : List (Int × Nat)} {z : Nat} (h : ¬ (z = 42 ∨ z = 63 ∨ z = 92)) : itStep (acc, false) z = some (acc ++ [(0, z)], false) := by simp [itStep, sp_neg h]
set_option maxRecDepth 8000 in
theorem itStep_many {acc : List (Int × Nat)} {z : Nat} (h : z = 42) : itStep (acc, false) z = some (acc ++ [(2, 0)], false) := by have hs := sp_pos (z := z) (.inl h); subst h; simp only [itStep, hs]; simp
set_option maxRecDepth 8000 in
theorem itStep_one {acc : List (Int × Nat)} {z : Nat} (h : z = 63) : itStep (acc, false) z = some (acc ++ [(1, 0)], false) := by have hs := sp_pos (z := z) (.inr (.inl h)); subst h; simp only [itStep, hs]; simp
set_option maxRecDepth 8000 in
theorem itStep_bs {acc : List (Int × Nat)} {z : Nat} (h : z = 92) : itStep (acc, false) z = some (acc, true) := by have hs := sp_pos (z := z) (.inr (.inr h)); subst h; simp only [itStep, hs]; simp

set_option maxRecDepth 8000 in
set_option maxHeartbeats 4000000 in
theorem items_any (p : List UInt8) (hl : p.length ≤ 1048576) (zs : List Nat) (hp : points p = some zs) (w : World) : Calls Tryz.prog 120 #[str p] w (Rt (ItR w (itGo ([], false) zs))) := by
  obtain ⟨hzl, hsc, _⟩ := points_len _ p zs (Nat.le_refl _) hp
  refine calls_E (n := 58) (args := [str p]) Tryz.func120 rfl Tryz.ntmps120 (by simp) ?_
  (repeat' (first | refine EL_rangeStr rfl rfl rfl rfl (fun rI wI xI hrI iI => ?_) | (refine at_EL ?_; first | refine EL_nil ?_ | refine EL_val rfl rfl (val_move rfl rfl) ?_ | refine EL_val rfl rfl (val_assign rfl rfl) ?_) | (refine at_K ?_; first | refine K_then ?_) | (refine at_E ?_; first | refine E_seq ?_ | refine E_region ?_ | refine E_block ?_)))
  refine E_loop (ι := Nat × List Nat × Value × ItSt) (fun x => [(4, x.2.2.1), (5, .bool x.2.2.2.2), (10, .pointer (some ⟨rI, 0, none⟩))])
    (fun x wr => x.1 ≤ p.length ∧ x.2.2.2.1.length + x.2.1.length ≤ p.length ∧ points (p.drop x.1) = some x.2.1 ∧ itGo ([], false) zs = itGo x.2.2.2 x.2.1 ∧ It wr rI p x.1 ∧ wI.heap.size ≤ wr.heap.size ∧ wr.ownsRow wI.heap.size 131 2 x.2.2.1 x.2.2.2.1.length (x.2.2.2.1.map itCells).flatten ∧ Ext w wr) (fun x => p.length - x.1) (0, zs, .slice none 0 0, ([], false))
    ⟨rfl, rfl, rfl, trivial⟩ ⟨Nat.zero_le _, by simpa using hzl, hp, rfl, iI, Nat.le_refl _, World.ownsRow_nil _ _ _ _, xI⟩ ?_
  rintro ⟨i, rs, v, acc, esc⟩ wr ⟨hi, hlen, hpt, hgo, hit, hBw, hown, hx⟩
  dsimp only at hi hlen hpt hgo hit hBw hown hx ⊢
  by_cases hlt : i < p.length
  · have hne : p.drop i ≠ [] := by intro h; have := congrArg List.length h; simp at this; omega
    obtain ⟨z, r, n, rfl, hdec, hn1, hn2, hpr, hz⟩ := dec_step hne hpt
    rw [List.length_drop] at hn2
    rw [List.drop_drop] at hpr
    have hz2 := (scal_iff.1 hz).1
    simp only [itGo] at hgo
    have app : ∀ (a : Int), itCells (a, z) = [int a, .int .i32 (z : Int)] := fun a => rfl
    have hgB : ∀ b, v.ownBlock = some b → wI.heap.size ≤ b := fun b e => (hown.lt b e).1
    have hrIlt := iI.lt
    (repeat' (first | (refine EL_nextStr rfl rfl rfl rfl hit hlt (fun wN hitN kbN => ?_); rw [hdec] at hitN ⊢; dsimp only at hitN ⊢; have xN : Ext w wN := kbN.ext hx (fun b e => by cases e; omega); have oN := hown.kept kbN (.inr (fun e => by have := hgB _ e; omega)); have hNs := xN.size) | refine EL_val rfl rfl (val_build (vs := [(0, int 0), (1, .int .i32 (z : Int))]) (itCells (0, z)) rfl rfl rfl) ?_ | refine EL_val rfl rfl (val_build (vs := [(0, int 1)]) (itCells (1, 0)) rfl rfl rfl) ?_ | refine EL_val rfl rfl (val_build (vs := [(0, int 2)]) (itCells (2, 0)) rfl rfl rfl) ?_ | (refine EL_append rfl rfl rfl rfl (own_ext oN xS) rfl rS.at rfl rfl rfl (by decide) (by omega) (by omega) (by have := xS.size; have := kbN.size; have := hBw; omega) (fun vA wA oA kA => ?_); have xA : Ext w wA := kA.ext (xN.trans xS) (fun b e => Nat.le_trans xI.size (hgB b e)); have itA := (hitN.ext xS).kb kA (fun e => by have := hgB _ e.symm; omega)) | (refine at_EL ?_; first | refine EL_nil ?_ | refine EL_no rfl rfl ?_ | refine EL_val rfl rfl (val_move rfl rfl) ?_ | refine EL_val rfl rfl (val_assign rfl rfl) ?_ | (refine at_bin ?_; first | refine EL_dec rfl rfl (val_eql rfl rfl rfl) (fun hh => ?_) (fun hh => ?_)) | refine EL_val rfl rfl (val_pick_t rfl rfl rfl) ?_ | refine EL_val rfl rfl (val_pick_f rfl rfl rfl) ?_ | refine EL_val rfl rfl (val_not rfl rfl) ?_ | refine EL_val rfl rfl (val_extract rfl rfl rfl) ?_ | refine EL_lit rfl rfl rfl rfl rfl rfl rfl rfl (fun bS wS xS hbS rS => ?_) | (refine EL_gcase rfl rfl rfl (fun hg => ?_) (fun hg => ?_) <;> subst hg)) | (refine at_K ?_; first | refine K_then ?_ | refine K_in ?_ | refine K_then_ret ?_ | refine K_in_ret ?_) | (refine at_E ?_; first | refine E_seq ?_ | refine E_region ?_ | refine E_cond_t rfl ?_ | refine E_cond_f rfl ?_ | refine E_block ?_ | refine E_skip ?_ | refine E_ret ?_)))
    all_goals (first | (exfalso; omega) | skip)
    all_goals (simp only [List.length_cons] at hlen)
    all_goals (first
      | (rw [itStep_esc (by omega)] at hgo; (exact K_rnd (i + n, r, vA, (acc ++ [(0, z)], false)) ⟨rfl, rfl, rfl, trivial⟩ ⟨by omega, by rw [List.length_append]; simp only [List.length_cons, List.length_nil]; omega, hpr, hgo, itA, (by have := kA.size; have := xS.size; have := kbN.size; omega), by rw [itCells_app, List.length_append]; exact oA, xA⟩ (by dsimp only; omega)))
      | (rw [itStep_plain (by omega)] at hgo; (exact K_rnd (i + n, r, vA, (acc ++ [(0, z)], false)) ⟨rfl, rfl, rfl, trivial⟩ ⟨by omega, by rw [List.length_append]; simp only [List.length_cons, List.length_nil]; omega, hpr, hgo, itA, (by have := kA.size; have := xS.size; have := kbN.size; omega), by rw [itCells_app, List.length_append]; exact oA, xA⟩ (by dsimp only; omega)))
      | (rw [itStep_many (by omega)] at hgo; (exact K_rnd (i + n, r, vA, (acc ++ [(2, 0)], false)) ⟨rfl, rfl, rfl, trivial⟩ ⟨by omega, by rw [List.length_append]; simp only [List.length_cons, List.length_nil]; omega, hpr, hgo, itA, (by have := kA.size; have := xS.size; have := kbN.size; omega), by rw [itCells_app, List.length_append]; exact oA, xA⟩ (by dsimp only; omega)))
      | (rw [itStep_one (by omega)] at hgo; (exact K_rnd (i + n, r, vA, (acc ++ [(1, 0)], false)) ⟨rfl, rfl, rfl, trivial⟩ ⟨by omega, by rw [List.length_append]; simp only [List.length_cons, List.length_nil]; omega, hpr, hgo, itA, (by have := kA.size; have := xS.size; have := kbN.size; omega), by rw [itCells_app, List.length_append]; exact oA, xA⟩ (by dsimp only; omega)))
      | (rw [itStep_bs (by omega)] at hgo; (exact K_rnd (i + n, r, v, (acc, true)) ⟨rfl, rfl, rfl, trivial⟩ ⟨by omega, by omega, hpr, hgo, hitN, (by have := kbN.size; omega), oN, xN⟩ (by dsimp only; omega)))
      | (rw [itStep_bad (by omega)] at hgo; exact ret_2 rfl rfl rfl ⟨xN, by rw [hgo]⟩)
      | skip)
    · rw [itStep_bs (by omega)] at hgo
      exact K_rnd (i + n, r, v, (acc, true)) ⟨rfl, rfl, rfl, trivial⟩ ⟨by dsimp only; omega, by dsimp only; omega, hpr, hgo, hitN, (by have := kbN.size; omega), oN, xN⟩ (by dsimp only; omega)
  · have : i = p.length := by omega
    subst this
    rw [List.drop_length, points_nil] at hpt
    cases hpt
    (repeat' (first | refine EL_nextEnd rfl rfl rfl rfl hit (by omega) ?_ | (refine at_EL ?_; first | refine EL_nil ?_ | refine EL_val rfl rfl (val_move rfl rfl) ?_ | refine EL_val rfl rfl (val_assign rfl rfl) ?_ | refine EL_val rfl rfl (val_not rfl rfl) ?_ | refine EL_val rfl rfl (val_extract rfl rfl rfl) ?_) | (refine at_K ?_; first | refine K_then ?_ | refine K_then_exit ?_ | refine K_in_exit ?_) | (refine at_E ?_; first | refine E_seq ?_ | refine E_region ?_ | refine E_cond_f rfl ?_ | refine E_ret ?_ | refine E_exit ?_)))
    simp only [itGo] at hgo
    exact ret_2 rfl rfl rfl ⟨hx, by rw [hgo]; exact ⟨v, rfl, own_weak hown xI.size⟩⟩
end Go.Proofs.YtnifmbbpfdghmaaGreatDoor
