/-
  Plain facts: what the table of Match says.
-/
import Derived.Test.YtghbdkndmmmgmaaDoorWe
set_option linter.all false
namespace Go.Proofs.YtghbdkndmmmgmaaDoor

/-- the parts, the last first, against the first k scalars -/
def mt (zs : List Nat) : List Int → Nat → Prop
  | [], k => k = 0
  | t :: r, k => (t = -1 ∧ ∃ j, j ≤ k ∧ mt zs r j) ∨ (t ≠ -1 ∧ 0 < k ∧ mt zs r (k - 1) ∧ (t = -2 ∨ t = ((zs.getD (k - 1) 0 : Nat) : Int)))
def rowOf (zs : List Nat) : List Int → List Bool
  | [] => row0 zs
  | t :: r => stepRow zs (rowOf zs r) t
theorem rowOf_eq (zs : List Nat) (ts : List Int) : ts.foldl (stepRow zs) (row0 zs) = rowOf zs ts.reverse := by
  rw [List.foldl_eq_foldr_reverse]
  generalize ts.reverse = rs
  induction rs with
  | nil => rfl
  | cons t r ih => simp [rowOf, ih]
theorem rowOf_len (zs : List Nat) (rs : List Int) : (rowOf zs rs).length = zs.length + 1 := by
  cases rs with
  | nil => simp [rowOf, row0]
  | cons t r => exact buildN_len _ _ _ _
theorem buildN_at (t : Int) (row : List Bool) (zs : List Nat) : ∀ (n k : Nat), k < n → (buildN t row zs n).getD k false = nextAt t row zs (buildN t row zs k)
  | n + 1, k, h => by
    simp only [buildN]
    by_cases hk : k = n
    · subst hk
      rw [List.getD_eq_getElem?_getD, List.getElem?_append_right (by rw [buildN_len]; exact Nat.le_refl _), buildN_len]
      simp
    · have ih := buildN_at t row zs n k (by omega)
      rw [List.getD_eq_getElem?_getD] at ih ⊢
      rw [List.getElem?_append_left (by rw [buildN_len]; omega)]
      exact ih
theorem row_iff (zs : List Nat) : ∀ (rs : List Int) (k : Nat), k ≤ zs.length → ((rowOf zs rs).getD k false = true ↔ mt zs rs k)
  | [], k, h => by
    unfold rowOf row0 mt
    cases k with
    | zero => simp
    | succ k => simp [List.getD_eq_getElem?_getD, List.getElem?_replicate]; split <;> simp
  | t :: r, k, h => by
    have ih := row_iff zs r
    unfold rowOf stepRow mt
    rw [buildN_at _ _ _ _ _ (by omega)]
    by_cases ht : t = -1
    · subst ht
      induction k with
      | zero =>
        have h0 := ih 0 (by omega)
        unfold nextAt
        rw [List.getD_eq_getElem?_getD] at h0
        simp [buildN, h0]
      | succ k ihk =>
        have hk := ihk (by omega)
        have h1 := ih (k + 1) h
        unfold nextAt
        rw [buildN_len, if_pos rfl]
        simp only [Nat.zero_lt_succ, decide_true, Bool.true_and, Nat.add_sub_cancel, Bool.or_eq_true]
        rw [buildN_at _ _ _ _ _ (by omega)]
        simp only [true_and, ne_eq, not_true_eq_false, false_and, or_false] at hk ⊢
        refine Iff.trans (or_congr h1 hk) ?_
        constructor
        · rintro (h | ⟨j, hj, h⟩)
          · exact ⟨k + 1, Nat.le_refl _, h⟩
          · exact ⟨j, by omega, h⟩
        · rintro ⟨j, hj, h⟩
          by_cases hjk : j = k + 1
          · subst hjk; exact .inl h
          · exact .inr ⟨j, by omega, h⟩
    · rw [next_other ht]
      cases k with
      | zero => simp [ht]
      | succ k =>
        have h1 := ih k (by omega)
        simp only [Nat.add_sub_cancel, Nat.zero_lt_succ, decide_true, Bool.true_and, Bool.and_eq_true, Bool.or_eq_true, decide_eq_true_eq, h1]
        constructor
        · rintro ⟨a, b⟩; exact .inr ⟨ht, trivial, a, b⟩
        · rintro (⟨a, _⟩ | ⟨_, _, a, b⟩)
          · exact absurd a ht
          · exact ⟨a, b⟩
theorem matchT_iff (ts : List Int) (zs : List Nat) : matchT ts zs = true ↔ mt zs ts.reverse zs.length := by
  unfold matchT
  rw [rowOf_eq, row_iff zs _ _ (Nat.le_refl _)]
/-- only '?' -/
theorem mt_ones (zs : List Nat) : ∀ (n k : Nat), mt zs (List.replicate n (-2)) k ↔ k = n
  | 0, k => Iff.rfl
  | n + 1, k => by
    simp only [List.replicate_succ, mt]
    rw [mt_ones zs n (k - 1)]
    constructor
    · rintro (⟨h, _⟩ | ⟨_, h, h2, _⟩) <;> omega
    · rintro rfl; exact .inr ⟨by omega, by omega, by omega, .inl trivial⟩
theorem mt_append {zs us : List Nat} : ∀ (rs : List Int) (k : Nat), k ≤ zs.length → (mt (zs ++ us) rs k ↔ mt zs rs k)
  | [], k, _ => Iff.rfl
  | t :: r, k, h => by
    have ih := mt_append (zs := zs) (us := us) r
    unfold mt
    by_cases ht : t = -1
    · simp only [ht, true_and, ne_eq, not_true_eq_false, false_and, or_false]
      constructor
      · rintro ⟨j, hj, hm⟩; exact ⟨j, hj, (ih j (by omega)).1 hm⟩
      · rintro ⟨j, hj, hm⟩; exact ⟨j, hj, (ih j (by omega)).2 hm⟩
    · simp only [ht, false_and, false_or, ne_eq, not_false_eq_true, true_and]
      by_cases hk : 0 < k
      · rw [ih (k - 1) (by omega), show (zs ++ us).getD (k - 1) 0 = zs.getD (k - 1) 0 by simp only [List.getD_eq_getElem?_getD]; rw [List.getElem?_append_left (by omega)]]
      · simp [hk]
/-- plain parts match themselves alone -/
theorem mt_plain (zs : List Nat) : ∀ (rs : List Int) (k : Nat), k ≤ zs.length → (∀ t ∈ rs, 0 ≤ t) → (mt zs rs k ↔ k = rs.length ∧ zs.take k = (rs.map Int.toNat).reverse)
  | [], k, _, _ => by
    unfold mt
    constructor
    · rintro rfl; simp
    · exact fun h => h.1
  | t :: r, k, h, hp => by
    have h0 := hp t (by simp)
    unfold mt
    by_cases hk : 0 < k
    · have ih := mt_plain zs r (k - 1) (by omega) (fun t ht => hp t (by simp [ht]))
      rw [ih]
      obtain ⟨j, rfl⟩ : ∃ j, k = j + 1 := ⟨k - 1, by omega⟩
      simp only [Nat.add_sub_cancel, List.length_cons, List.map_cons, List.reverse_cons]
      have hj : j < zs.length := by omega
      rw [List.take_succ_eq_append_getElem hj]
      have hg : zs.getD j 0 = zs[j] := by simp [List.getD_eq_getElem?_getD, hj]
      rw [hg]
      constructor
      · rintro (⟨ht, _⟩ | ⟨_, _, ⟨h1, h2⟩, h3 | h3⟩)
        · omega
        · omega
        · exact ⟨by omega, by rw [h2]; congr 1; simp; omega⟩
      · rintro ⟨h1, h2⟩
        obtain ⟨h3, h4⟩ := List.append_inj' h2 rfl
        refine .inr ⟨by omega, by omega, ⟨by omega, h3⟩, .inr ?_⟩
        simp at h4
        omega
    · simp only [hk, false_and, and_false, or_false, List.length_cons]
      constructor
      · rintro ⟨ht, _⟩; omega
      · rintro ⟨h1, _⟩; omega
/-- what the first parts ask -/
theorem mt_tail (zs : List Nat) : ∀ (us bs : List Int) (k : Nat), mt zs (us ++ bs) k → ∃ j, j ≤ k ∧ mt zs bs j
  | [], bs, k, h => ⟨k, Nat.le_refl _, h⟩
  | t :: r, bs, k, h => by
    simp only [List.cons_append, mt] at h
    rcases h with ⟨_, j, hj, hm⟩ | ⟨_, _, hm, _⟩
    · obtain ⟨i, hi, h2⟩ := mt_tail zs r bs j hm
      exact ⟨i, by omega, h2⟩
    · obtain ⟨i, hi, h2⟩ := mt_tail zs r bs (k - 1) hm
      exact ⟨i, by omega, h2⟩
end Go.Proofs.YtghbdkndmmmgmaaDoor
