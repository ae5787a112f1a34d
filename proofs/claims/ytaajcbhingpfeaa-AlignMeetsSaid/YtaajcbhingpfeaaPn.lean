/-
  Walks of the layers runes and pattern.
-/
import Derived.Test.YtaajcbhingpfeaaPm
set_option linter.all false
namespace Go.Proofs.Ytaajcbhingpfeaa
open Go.Lib

theorem firstR_some {d : List UInt8} {p n : Nat} (h : firstR d = some (p, n)) : 1 ≤ n ∧ n ≤ d.length ∧ scal p = true ∧ encB p = d.take n := by
  unfold firstR at h
  dsimp only at h
  split at h
  · cases h
  · split at h
    · rename_i h1 h2
      simp only [Option.some.injEq, Prod.mk.injEq] at h
      obtain ⟨rfl, rfl⟩ := h
      refine ⟨?_, by omega, h2.1, h2.2⟩
      unfold leadN; (repeat' split) <;> omega
    · cases h
/-- the scalars of a text; none if it is not valid -/
def ptsGo : Nat → List UInt8 → Option (List Nat)
  | 0, _ => some []
  | k + 1, d => if d = [] then some [] else match firstR d with | none => none | some (p, n) => (ptsGo k (d.drop n)).map (p :: ·)
def points (d : List UInt8) : Option (List Nat) := ptsGo d.length d
theorem ptsGo_nil (k : Nat) : ptsGo k [] = some [] := by cases k <;> simp [ptsGo]
theorem ptsGo_fuel : ∀ (k m : Nat) (d : List UInt8), d.length ≤ k → d.length ≤ m → ptsGo k d = ptsGo m d
  | 0, m, d, hk, _ => by
    have : d = [] := List.eq_nil_of_length_eq_zero (by omega)
    subst this; rw [ptsGo_nil, ptsGo_nil]
  | k + 1, 0, d, _, hm => by
    have : d = [] := List.eq_nil_of_length_eq_zero (by omega)
    subst this; rw [ptsGo_nil, ptsGo_nil]
  | k + 1, m + 1, d, hk, hm => by
    simp only [ptsGo]
    by_cases hd : d = []
    · rw [if_pos hd, if_pos hd]
    · rw [if_neg hd, if_neg hd]
      cases hf : firstR d with
      | none => rfl
      | some q =>
        obtain ⟨p, n⟩ := q
        have := firstR_some hf
        dsimp only
        rw [ptsGo_fuel k m (d.drop n) (by rw [List.length_drop]; omega) (by rw [List.length_drop]; omega)]
theorem points_nil : points [] = some [] := rfl
theorem points_step {d : List UInt8} (hd : d ≠ []) : points d = match firstR d with | none => none | some (p, n) => (points (d.drop n)).map (p :: ·) := by
  have hl : 0 < d.length := List.length_pos_iff.2 hd
  obtain ⟨k, hk⟩ : ∃ k, d.length = k + 1 := ⟨d.length - 1, by omega⟩
  unfold points
  rw [hk]
  simp only [ptsGo]
  rw [if_neg hd]
  cases hf : firstR d with
  | none => rfl
  | some q =>
    obtain ⟨p, n⟩ := q
    have := firstR_some hf
    dsimp only
    rw [ptsGo_fuel k (d.drop n).length _ (by rw [List.length_drop]; omega) (Nat.le_refl _)]
theorem points_valid : ∀ (k : Nat) (d : List UInt8), d.length ≤ k → (points d).isSome = validD d
  | 0, d, h => by
    have : d = [] := List.eq_nil_of_length_eq_zero (by omega)
    subst this; rfl
  | k + 1, d, h => by
    by_cases hd : d = []
    · subst hd; rfl
    · rw [points_step hd, validD_step d hd, firstR_eq d hd]
      by_cases hb : (decodeL d).1 = 65533 ∧ (decodeL d).2 = 1
      · rw [if_pos hb, if_pos hb]; rfl
      · rw [if_neg hb, if_neg hb]
        have hw := decodeL_width d
        have := points_valid k (d.drop (decodeL d).2) (by rw [List.length_drop]; omega)
        rw [← this]
        show ((points (d.drop (decodeL d).2)).map _).isSome = _
        cases points (d.drop (decodeL d).2) <;> rfl
theorem points_len : ∀ (k : Nat) (d : List UInt8) (zs : List Nat), d.length ≤ k → points d = some zs → zs.length ≤ d.length ∧ (∀ z ∈ zs, scal z = true) ∧ (zs.map encB).flatten = d
  | 0, d, zs, h, hp => by
    have : d = [] := List.eq_nil_of_length_eq_zero (by omega)
    subst this; rw [points_nil] at hp; cases hp; simp
  | k + 1, d, zs, h, hp => by
    by_cases hd : d = []
    · subst hd; rw [points_nil] at hp; cases hp; simp
    · rw [points_step hd] at hp
      cases hf : firstR d with
      | none => rw [hf] at hp; cases hp
      | some q =>
        obtain ⟨p, n⟩ := q
        have h1 := firstR_some hf
        rw [hf] at hp
        dsimp only at hp
        cases hr : points (d.drop n) with
        | none => rw [hr] at hp; cases hp
        | some ys =>
          rw [hr] at hp
          simp only [Option.map_some, Option.some.injEq] at hp
          subst hp
          obtain ⟨h2, h3, h4⟩ := points_len k (d.drop n) ys (by rw [List.length_drop]; omega) hr
          rw [List.length_drop] at h2
          refine ⟨by simp; omega, fun z hz => ?_, ?_⟩
          · rcases List.mem_cons.1 hz with rfl | hz
            · exact h1.2.2.1
            · exact h3 z hz
          · simp only [List.map_cons, List.flatten_cons, h4, h1.2.2.2, List.take_append_drop]
end Go.Proofs.Ytaajcbhingpfeaa
