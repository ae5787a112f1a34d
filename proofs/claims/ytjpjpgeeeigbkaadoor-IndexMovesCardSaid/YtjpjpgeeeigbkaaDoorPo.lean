/-
  Walks of the layers runes and pattern.
-/
import Derived.Test.YtjpjpgeeeigbkaaDoorPd
set_option linter.all false
namespace Go.Proofs.YtjpjpgeeeigbkaaDoor
open Go.Lib

/-- the program's state: what has been gathered (kind, scalar), and whether a backslash has just stood -/
abbrev ItSt := List (Int × Nat) × Bool
def itStep (st : ItSt) (z : Nat) : Option ItSt :=
  if st.2 = true ∧ ¬ specialI z = true then none
  else if st.2 = true ∨ ¬ specialI z = true then some (st.1 ++ [(0, z)], false)
  else if z = 42 then some (st.1 ++ [(2, 0)], false)
  else if z = 63 then some (st.1 ++ [(1, 0)], false)
  else some (st.1, true)
def itGo : ItSt → List Nat → Option ItSt
  | st, [] => some st
  | st, z :: r => match itStep st z with | none => none | some s => itGo s r
def tokOf (x : Int × Nat) : Int := if x.1 = 0 then (x.2 : Int) else if x.1 = 1 then -2 else -1
def ctl (z : Nat) : Bool := decide (z < 32) || decide (z = 127)
theorem special_nat (z : Nat) : specialI (z : Int) = (decide (z = 42) || decide (z = 63) || decide (z = 92)) := by
  unfold specialI
  rw [Bool.eq_iff_iff]; simp; omega
theorem kinds_cons {z : Nat} {a : Int} {ys : List (Int × Nat)} (ha : a = 0 ∨ a = 1 ∨ a = 2) (hy : ∀ (a : Int) (b : Nat), (a, b) ∈ ys → a = 0 ∨ a = 1 ∨ a = 2) : ∀ y ∈ (a, z) :: ys, y.1 = 0 ∨ y.1 = 1 ∨ y.1 = 2 := by
  rintro ⟨c, d⟩ hm
  rcases List.mem_cons.1 hm with hm | hm
  · cases hm; exact ha
  · exact hy c d hm
theorem itGo_tok : ∀ (n : Nat) (zs : List Nat) (acc : List (Int × Nat)), zs.length ≤ n → zs.any ctl = false →
    match itGo (acc, false) zs, tokGo zs with
    | some (xs, false), some ts => ∃ ys, xs = acc ++ ys ∧ ts = ys.map tokOf ∧ (∀ y ∈ ys, y.1 = 0 ∨ y.1 = 1 ∨ y.1 = 2)
    | some (_, true), none => True
    | none, none => True
    | _, _ => False
  | 0, zs, acc, h, _ => by
    have : zs = [] := List.eq_nil_of_length_eq_zero (by omega)
    subst this
    exact ⟨[], by simp, rfl, by simp⟩
  | n + 1, [], acc, _, _ => ⟨[], by simp, rfl, by simp⟩
  | n + 1, z :: r, acc, h, hc => by
    simp only [List.length_cons] at h
    simp only [List.any_cons, Bool.or_eq_false_iff] at hc
    have hz := hc.1
    simp only [ctl, Bool.or_eq_false_iff, decide_eq_false_iff_not] at hz
    rw [tokGo_cons, if_neg (by omega)]
    simp only [itGo, itStep]
    by_cases hs : specialI (z : Int) = true
    · rw [if_neg (by simp), if_neg (by simp [hs])]
      have hs' := hs
      rw [special_nat] at hs'
      simp only [Bool.or_eq_true, decide_eq_true_eq] at hs'
      by_cases h42 : z = 42
      · have ih := itGo_tok n r (acc ++ [(2, 0)]) (by omega) hc.2
        rw [if_pos h42, if_neg (by omega), if_pos h42]
        revert ih
        dsimp only
        cases itGo (acc ++ [(2, 0)], false) r with
        | none => cases tokGo r <;> simp
        | some p =>
          obtain ⟨xs, b⟩ := p
          cases b <;> cases tokGo r <;> simp
          rintro ys rfl rfl hy
          exact ⟨(2, 0) :: ys, by simp, by simp [tokOf], fun a b hm => kinds_cons (by simp) hy (a, b) hm⟩
      · rw [if_neg h42]
        by_cases h63 : z = 63
        · have ih := itGo_tok n r (acc ++ [(1, 0)]) (by omega) hc.2
          rw [if_pos h63, if_neg (by omega), if_neg h42, if_pos h63]
          revert ih
          dsimp only
          cases itGo (acc ++ [(1, 0)], false) r with
          | none => cases tokGo r <;> simp
          | some p =>
            obtain ⟨xs, b⟩ := p
            cases b <;> cases tokGo r <;> simp
            rintro ys rfl rfl hy
            exact ⟨(1, 0) :: ys, by simp, by simp [tokOf], fun a b hm => kinds_cons (by simp) hy (a, b) hm⟩
        · rw [if_neg h63, if_pos (by omega)]
          dsimp only
          cases r with
          | nil => simp [itGo]
          | cons y r' =>
            simp only [itGo, itStep]
            by_cases hy : specialI (y : Int) = true
            · rw [if_neg (by simp [hy]), if_pos (by simp), if_pos hy]
              simp only [List.length_cons] at h
              have hc2 := hc.2
              simp only [List.any_cons, Bool.or_eq_false_iff] at hc2
              have ih := itGo_tok n r' (acc ++ [(0, y)]) (by omega) hc2.2
              revert ih
              dsimp only
              cases itGo (acc ++ [(0, y)], false) r' with
              | none => cases tokGo r' <;> simp
              | some p =>
                obtain ⟨xs, b⟩ := p
                cases b <;> cases tokGo r' <;> simp
                rintro ys rfl rfl hy
                exact ⟨(0, y) :: ys, by simp, by simp [tokOf], fun a b hm => kinds_cons (by simp) hy (a, b) hm⟩
            · rw [if_pos (by simp [hy]), if_neg hy]
              simp
    · rw [if_neg (by simp), if_pos (.inr hs)]
      have hs' := hs
      rw [special_nat] at hs'
      simp only [Bool.or_eq_true, decide_eq_true_eq] at hs'
      have ih := itGo_tok n r (acc ++ [(0, z)]) (by omega) hc.2
      rw [if_neg (by omega), if_neg (by omega), if_neg (by omega)]
      revert ih
      dsimp only
      cases itGo (acc ++ [(0, z)], false) r with
      | none => cases tokGo r <;> simp
      | some p =>
        obtain ⟨xs, b⟩ := p
        cases b <;> cases tokGo r <;> simp
        rintro ys rfl rfl hy
        exact ⟨(0, z) :: ys, by simp, by simp [tokOf], fun a b hm => kinds_cons (by simp) hy (a, b) hm⟩
theorem itStep_len {st s : ItSt} {z : Nat} (h : itStep st z = some s) : s.1.length ≤ st.1.length + 1 := by
  unfold itStep at h
  (repeat' split at h) <;> cases h <;> simp
/-- the steps of a range over a valid text -/
theorem dec_step {d : List UInt8} {zs : List Nat} (hd : d ≠ []) (hp : points d = some zs) : ∃ z r n, zs = z :: r ∧ decodeL d = (z, n) ∧ 1 ≤ n ∧ n ≤ d.length ∧ points (d.drop n) = some r ∧ scal z = true := by
  have h := points_step hd
  rw [hp] at h
  cases hf : firstR d with
  | none => rw [hf] at h; cases h
  | some q =>
    obtain ⟨z, n⟩ := q
    rw [hf] at h
    dsimp only at h
    have hs := firstR_some hf
    cases hr : points (d.drop n) with
    | none => rw [hr] at h; cases h
    | some r =>
      rw [hr] at h
      simp at h
      refine ⟨z, r, n, h, ?_, hs.1, hs.2.1, hr, hs.2.2.1⟩
      rw [firstR_eq d hd] at hf
      split at hf
      · cases hf
      · exact Option.some.inj hf
end Go.Proofs.YtjpjpgeeeigbkaaDoor
