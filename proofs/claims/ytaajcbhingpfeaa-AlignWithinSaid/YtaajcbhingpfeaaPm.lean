/-
  Walks of the layers runes and pattern.
-/
import Derived.Lib.ValidLaws
import Derived.Lib.TrimUEq
set_option linter.all false
namespace Go.Proofs.Ytaajcbhingpfeaa
open Go.Lib

/-- the bytes of a scalar, as numbers -/
def encN (p : Nat) : List Nat :=
  if p < 128 then [p]
  else if p < 2048 then [192 + p / 64, 128 + p % 64]
  else if p < 65536 then [224 + p / 4096, 128 + p / 64 % 64, 128 + p % 64]
  else [240 + p / 262144, 128 + p / 4096 % 64, 128 + p / 64 % 64, 128 + p % 64]
def encB (p : Nat) : List UInt8 := (encN p).map UInt8.ofNat
def scal (p : Nat) : Bool := decide (p ≤ 1114111) && (decide (p < 55296) || decide (57343 < p))
def leadP (b : Nat) : Nat := if 240 ≤ b then b - 240 else if 224 ≤ b then b - 224 else if 192 ≤ b then b - 192 else b
def leadN (b : Nat) : Nat := if 240 ≤ b then 4 else if 224 ≤ b then 3 else if 192 ≤ b then 2 else 1
/-- the number after k bytes -/
def accP (d : List UInt8) : Nat → Nat
  | 0 => 0
  | 1 => leadP (d.getD 0 0).toNat
  | k + 1 => accP d k * 64 + (d.getD k 0).toNat % 64
def firstR (d : List UInt8) : Option (Nat × Nat) :=
  let n := leadN (d.getD 0 0).toNat
  if d.length < n then none
  else if scal (accP d n) = true ∧ encB (accP d n) = d.take n then some (accP d n, n) else none
theorem encN_lt {p : Nat} (h : scal p = true) : ∀ x ∈ encN p, x < 256 := by
  simp only [scal, Bool.and_eq_true, decide_eq_true_eq] at h
  intro x hx
  unfold encN at hx
  split at hx
  · simp at hx; omega
  · split at hx
    · simp at hx; omega
    · split at hx
      · simp at hx; omega
      · simp at hx; omega
theorem take1 {d : List UInt8} (h : 1 ≤ d.length) : d.take 1 = [d.getD 0 0] := by
  match d, h with | a :: r, _ => simp
theorem take2 {d : List UInt8} (h : 2 ≤ d.length) : d.take 2 = [d.getD 0 0, d.getD 1 0] := by
  match d, h with | a :: b :: r, _ => simp
theorem take3 {d : List UInt8} (h : 3 ≤ d.length) : d.take 3 = [d.getD 0 0, d.getD 1 0, d.getD 2 0] := by
  match d, h with | a :: b :: c :: r, _ => simp
theorem take4 {d : List UInt8} (h : 4 ≤ d.length) : d.take 4 = [d.getD 0 0, d.getD 1 0, d.getD 2 0, d.getD 3 0] := by
  match d, h with | a :: b :: c :: e :: r, _ => simp
theorem of_eq {x : Nat} {b : UInt8} (h : x < 256) : UInt8.ofNat x = b ↔ x = b.toNat := by
  rw [← UInt8.toNat_inj, UInt8.toNat_ofNat', Nat.mod_eq_of_lt h]
/-- the same on numbers -/
def firstN (n b0 b1 b2 b3 : Nat) : Option (Nat × Nat) :=
  if b0 < 192 then (if b0 < 128 then some (b0, 1) else none)
  else if b0 < 224 then (if n < 2 then none else if b1 / 64 = 2 ∧ 128 ≤ (b0 - 192) * 64 + b1 % 64 then some ((b0 - 192) * 64 + b1 % 64, 2) else none)
  else if b0 < 240 then (if n < 3 then none else if b1 / 64 = 2 ∧ b2 / 64 = 2 ∧ 2048 ≤ ((b0 - 224) * 64 + b1 % 64) * 64 + b2 % 64 ∧ (((b0 - 224) * 64 + b1 % 64) * 64 + b2 % 64 < 55296 ∨ 57343 < ((b0 - 224) * 64 + b1 % 64) * 64 + b2 % 64) then some (((b0 - 224) * 64 + b1 % 64) * 64 + b2 % 64, 3) else none)
  else (if n < 4 then none else if b1 / 64 = 2 ∧ b2 / 64 = 2 ∧ b3 / 64 = 2 ∧ 65536 ≤ (((b0 - 240) * 64 + b1 % 64) * 64 + b2 % 64) * 64 + b3 % 64 ∧ (((b0 - 240) * 64 + b1 % 64) * 64 + b2 % 64) * 64 + b3 % 64 ≤ 1114111 then some ((((b0 - 240) * 64 + b1 % 64) * 64 + b2 % 64) * 64 + b3 % 64, 4) else none)
theorem encB_1 {p : Nat} {a : UInt8} (hs : scal p = true) : encB p = [a] ↔ p < 128 ∧ p = a.toNat := by
  have hlt := encN_lt hs
  unfold encB
  unfold encN at hlt ⊢
  split
  · rename_i h; simp [h] at hlt ⊢; rw [of_eq hlt]
  · split
    · simp; omega
    · split <;> (simp; omega)
theorem encB_2 {p : Nat} {a b : UInt8} (hs : scal p = true) : encB p = [a, b] ↔ 128 ≤ p ∧ p < 2048 ∧ 192 + p / 64 = a.toNat ∧ 128 + p % 64 = b.toNat := by
  have hlt := encN_lt hs
  unfold encB
  unfold encN at hlt ⊢
  split
  · simp; omega
  · split
    · rename_i h1 h2; rw [if_neg h1, if_pos h2] at hlt
      simp at hlt
      simp only [List.map_cons, List.map_nil, List.cons.injEq, and_true]
      rw [of_eq hlt.1, of_eq hlt.2]
      omega
    · split <;> (simp; omega)
theorem encB_3 {p : Nat} {a b c : UInt8} (hs : scal p = true) : encB p = [a, b, c] ↔ 2048 ≤ p ∧ p < 65536 ∧ 224 + p / 4096 = a.toNat ∧ 128 + p / 64 % 64 = b.toNat ∧ 128 + p % 64 = c.toNat := by
  have hlt := encN_lt hs
  unfold encB
  unfold encN at hlt ⊢
  split
  · simp; omega
  · split
    · simp; omega
    · split
      · rename_i h1 h2 h3; rw [if_neg h1, if_neg h2, if_pos h3] at hlt
        simp at hlt
        simp only [List.map_cons, List.map_nil, List.cons.injEq, and_true]
        rw [of_eq hlt.1, of_eq hlt.2.1, of_eq hlt.2.2]
        omega
      · simp; omega
theorem encB_4 {p : Nat} {a b c d : UInt8} (hs : scal p = true) : encB p = [a, b, c, d] ↔ 65536 ≤ p ∧ 240 + p / 262144 = a.toNat ∧ 128 + p / 4096 % 64 = b.toNat ∧ 128 + p / 64 % 64 = c.toNat ∧ 128 + p % 64 = d.toNat := by
  have hlt := encN_lt hs
  unfold encB
  unfold encN at hlt ⊢
  split
  · simp; omega
  · split
    · simp; omega
    · split
      · simp; omega
      · rename_i h1 h2 h3; rw [if_neg h1, if_neg h2, if_neg h3] at hlt
        simp at hlt
        simp only [List.map_cons, List.map_nil, List.cons.injEq, and_true]
        rw [of_eq hlt.1, of_eq hlt.2.1, of_eq hlt.2.2.1, of_eq hlt.2.2.2]
        omega
theorem scal_iff {p : Nat} : scal p = true ↔ p ≤ 1114111 ∧ (p < 55296 ∨ 57343 < p) := by simp [scal]
theorem ite_iff {α : Type} {p q : Prop} [Decidable p] [Decidable q] (x y : α) (h : p ↔ q) : (if p then x else y) = if q then x else y := by
  by_cases hp : p
  · rw [if_pos hp, if_pos (h.1 hp)]
  · rw [if_neg hp, if_neg (fun hq => hp (h.2 hq))]
theorem firstR_N (d : List UInt8) (hd : d ≠ []) : firstR d = firstN d.length (d.getD 0 0).toNat (d.getD 1 0).toNat (d.getD 2 0).toNat (d.getD 3 0).toNat := by
  have hlen : 1 ≤ d.length := List.length_pos_iff.2 hd
  have h0 := UInt8.toNat_lt (d.getD 0 0)
  have h1 := UInt8.toNat_lt (d.getD 1 0)
  have h2 := UInt8.toNat_lt (d.getD 2 0)
  have h3 := UInt8.toNat_lt (d.getD 3 0)
  unfold firstR firstN
  by_cases c1 : (d.getD 0 0).toNat < 192
  · have hn : leadN (d.getD 0 0).toNat = 1 := by unfold leadN; rw [if_neg (by omega), if_neg (by omega), if_neg (by omega)]
    have hp : accP d 1 = (d.getD 0 0).toNat := by simp only [accP]; unfold leadP; rw [if_neg (by omega), if_neg (by omega), if_neg (by omega)]
    simp only [hn, hp]
    rw [if_neg (by omega), if_pos c1, take1 hlen]
    have hs : scal (d.getD 0 0).toNat = true := scal_iff.2 (by omega)
    refine ite_iff _ _ ?_
    rw [encB_1 hs]
    exact ⟨fun h => h.2.1, fun h => ⟨hs, h, rfl⟩⟩
  · rw [if_neg c1]
    by_cases c2 : (d.getD 0 0).toNat < 224
    · have hn : leadN (d.getD 0 0).toNat = 2 := by unfold leadN; rw [if_neg (by omega), if_neg (by omega), if_pos (by omega)]
      have hp : accP d 2 = ((d.getD 0 0).toNat - 192) * 64 + (d.getD 1 0).toNat % 64 := by simp only [accP]; unfold leadP; rw [if_neg (by omega), if_neg (by omega), if_pos (by omega)]
      simp only [hn, hp]
      rw [if_pos c2]
      by_cases cl : d.length < 2
      · rw [if_pos cl, if_pos cl]
      · rw [if_neg cl, if_neg cl, take2 (by omega)]
        generalize hq : ((d.getD 0 0).toNat - 192) * 64 + (d.getD 1 0).toNat % 64 = p at *
        have hs : scal p = true := scal_iff.2 (by omega)
        refine ite_iff _ _ ?_
        rw [encB_2 hs]
        constructor
        · rintro ⟨_, a, b, c, e⟩; omega
        · rintro ⟨a, b⟩; exact ⟨hs, by omega, by omega, by omega, by omega⟩
    · rw [if_neg c2]
      by_cases c3 : (d.getD 0 0).toNat < 240
      · have hn : leadN (d.getD 0 0).toNat = 3 := by unfold leadN; rw [if_neg (by omega), if_pos (by omega)]
        have hp : accP d 3 = (((d.getD 0 0).toNat - 224) * 64 + (d.getD 1 0).toNat % 64) * 64 + (d.getD 2 0).toNat % 64 := by simp only [accP]; unfold leadP; rw [if_neg (by omega), if_pos (by omega)]
        simp only [hn, hp]
        rw [if_pos c3]
        by_cases cl : d.length < 3
        · rw [if_pos cl, if_pos cl]
        · rw [if_neg cl, if_neg cl, take3 (by omega)]
          generalize hq : (((d.getD 0 0).toNat - 224) * 64 + (d.getD 1 0).toNat % 64) * 64 + (d.getD 2 0).toNat % 64 = p at *
          refine ite_iff _ _ ?_
          constructor
          · rintro ⟨hs, hh⟩
            rw [encB_3 hs] at hh
            rw [scal_iff] at hs
            omega
          · rintro ⟨a, b, c, e⟩
            have hs : scal p = true := scal_iff.2 (by omega)
            exact ⟨hs, (encB_3 hs).2 (by omega)⟩
      · have hn : leadN (d.getD 0 0).toNat = 4 := by unfold leadN; rw [if_pos (by omega)]
        have hp : accP d 4 = ((((d.getD 0 0).toNat - 240) * 64 + (d.getD 1 0).toNat % 64) * 64 + (d.getD 2 0).toNat % 64) * 64 + (d.getD 3 0).toNat % 64 := by simp only [accP]; unfold leadP; rw [if_pos (by omega)]
        simp only [hn, hp]
        rw [if_neg c3]
        by_cases cl : d.length < 4
        · rw [if_pos cl, if_pos cl]
        · rw [if_neg cl, if_neg cl, take4 (by omega)]
          generalize hq : ((((d.getD 0 0).toNat - 240) * 64 + (d.getD 1 0).toNat % 64) * 64 + (d.getD 2 0).toNat % 64) * 64 + (d.getD 3 0).toNat % 64 = p at *
          refine ite_iff _ _ ?_
          constructor
          · rintro ⟨hs, hh⟩
            rw [encB_4 hs] at hh
            rw [scal_iff] at hs
            omega
          · rintro ⟨a, b, c, e, f⟩
            have hs : scal p = true := scal_iff.2 (by omega)
            exact ⟨hs, (encB_4 hs).2 (by omega)⟩
theorem firstN_eq (n b0 b1 b2 b3 : Nat) (h0 : b0 < 256) (hn : 1 ≤ n) : firstN n b0 b1 b2 b3 = if (decodeN n b0 b1 b2 b3).1 = 65533 ∧ (decodeN n b0 b1 b2 b3).2 = 1 then none else some (decodeN n b0 b1 b2 b3) := by
  unfold firstN decodeN
  by_cases c0 : b0 < 128
  · rw [if_pos (show b0 < 192 by omega), if_pos c0, if_pos c0, if_neg (show ¬ (b0 = 65533 ∧ 1 = 1) by omega)]
  · rw [if_neg c0, if_neg c0]
    by_cases c1 : b0 < 192
    · rw [if_pos c1, if_neg (show ¬ (b0 / 32 = 6 ∧ 1 < n ∧ b1 / 64 = 2) by omega), if_neg (show ¬ (b0 / 16 = 14 ∧ (1 < n ∧ b1 / 64 = 2) ∧ 2 < n ∧ b2 / 64 = 2) by omega), if_neg (show ¬ (b0 / 8 = 30 ∧ (1 < n ∧ b1 / 64 = 2) ∧ (2 < n ∧ b2 / 64 = 2) ∧ 3 < n ∧ b3 / 64 = 2) by omega)]; simp
    · rw [if_neg c1]
      by_cases c2 : b0 < 224
      · rw [if_pos c2]
        have e : b0 % 32 = b0 - 192 := by omega
        rw [e]
        by_cases cl : n < 2
        · rw [if_pos cl, if_neg (show ¬ (b0 / 32 = 6 ∧ 1 < n ∧ b1 / 64 = 2) by omega), if_neg (show ¬ (b0 / 16 = 14 ∧ (1 < n ∧ b1 / 64 = 2) ∧ 2 < n ∧ b2 / 64 = 2) by omega), if_neg (show ¬ (b0 / 8 = 30 ∧ (1 < n ∧ b1 / 64 = 2) ∧ (2 < n ∧ b2 / 64 = 2) ∧ 3 < n ∧ b3 / 64 = 2) by omega)]; simp
        · rw [if_neg cl]
          by_cases cb : b1 / 64 = 2
          · rw [if_pos (show b0 / 32 = 6 ∧ 1 < n ∧ b1 / 64 = 2 by omega)]
            by_cases cp : 128 ≤ (b0 - 192) * 64 + b1 % 64
            · rw [if_pos ⟨cb, cp⟩, if_pos cp, if_neg (by simp)]
            · rw [if_neg (fun h => cp h.2), if_neg cp]; simp
          · rw [if_neg (fun h => cb h.1), if_neg (show ¬ (b0 / 32 = 6 ∧ 1 < n ∧ b1 / 64 = 2) by omega), if_neg (show ¬ (b0 / 16 = 14 ∧ (1 < n ∧ b1 / 64 = 2) ∧ 2 < n ∧ b2 / 64 = 2) by omega), if_neg (show ¬ (b0 / 8 = 30 ∧ (1 < n ∧ b1 / 64 = 2) ∧ (2 < n ∧ b2 / 64 = 2) ∧ 3 < n ∧ b3 / 64 = 2) by omega)]; simp
      · rw [if_neg c2, if_neg (show ¬ (b0 / 32 = 6 ∧ 1 < n ∧ b1 / 64 = 2) by omega)]
        by_cases c3 : b0 < 240
        · rw [if_pos c3]
          have e : b0 % 16 * 4096 + b1 % 64 * 64 + b2 % 64 = ((b0 - 224) * 64 + b1 % 64) * 64 + b2 % 64 := by omega
          rw [e]
          have hb : ((b0 - 224) * 64 + b1 % 64) * 64 + b2 % 64 ≤ 1114111 := by omega
          generalize ((b0 - 224) * 64 + b1 % 64) * 64 + b2 % 64 = p at *
          by_cases cl : n < 3
          · rw [if_pos cl, if_neg (show ¬ (b0 / 16 = 14 ∧ (1 < n ∧ b1 / 64 = 2) ∧ 2 < n ∧ b2 / 64 = 2) by omega), if_neg (show ¬ (b0 / 8 = 30 ∧ (1 < n ∧ b1 / 64 = 2) ∧ (2 < n ∧ b2 / 64 = 2) ∧ 3 < n ∧ b3 / 64 = 2) by omega)]; simp
          · rw [if_neg cl]
            by_cases cb : b1 / 64 = 2 ∧ b2 / 64 = 2
            · rw [if_pos (show b0 / 16 = 14 ∧ (1 < n ∧ b1 / 64 = 2) ∧ 2 < n ∧ b2 / 64 = 2 by omega)]
              by_cases cp : 2048 ≤ p ∧ (p < 55296 ∨ 57343 < p)
              · rw [if_pos ⟨cb.1, cb.2, cp⟩, if_pos (show p ≥ 2048 ∧ (p < 55296 ∨ 57344 ≤ p ∧ p ≤ 1114111) by omega), if_neg (by simp)]
              · rw [if_neg (fun h => cp h.2.2), if_neg (show ¬ (p ≥ 2048 ∧ (p < 55296 ∨ 57344 ≤ p ∧ p ≤ 1114111)) by omega)]; simp
            · rw [if_neg (fun h => cb ⟨h.1, h.2.1⟩), if_neg (show ¬ (b0 / 16 = 14 ∧ (1 < n ∧ b1 / 64 = 2) ∧ 2 < n ∧ b2 / 64 = 2) by omega), if_neg (show ¬ (b0 / 8 = 30 ∧ (1 < n ∧ b1 / 64 = 2) ∧ (2 < n ∧ b2 / 64 = 2) ∧ 3 < n ∧ b3 / 64 = 2) by omega)]; simp
        · rw [if_neg c3, if_neg (show ¬ (b0 / 16 = 14 ∧ (1 < n ∧ b1 / 64 = 2) ∧ 2 < n ∧ b2 / 64 = 2) by omega)]
          by_cases c4 : b0 < 248
          · have e : b0 % 8 * 262144 + b1 % 64 * 4096 + b2 % 64 * 64 + b3 % 64 = (((b0 - 240) * 64 + b1 % 64) * 64 + b2 % 64) * 64 + b3 % 64 := by omega
            rw [e]
            generalize (((b0 - 240) * 64 + b1 % 64) * 64 + b2 % 64) * 64 + b3 % 64 = p at *
            by_cases cl : n < 4
            · rw [if_pos cl, if_neg (show ¬ (b0 / 8 = 30 ∧ (1 < n ∧ b1 / 64 = 2) ∧ (2 < n ∧ b2 / 64 = 2) ∧ 3 < n ∧ b3 / 64 = 2) by omega)]; simp
            · rw [if_neg cl]
              by_cases cb : b1 / 64 = 2 ∧ b2 / 64 = 2 ∧ b3 / 64 = 2
              · rw [if_pos (show b0 / 8 = 30 ∧ (1 < n ∧ b1 / 64 = 2) ∧ (2 < n ∧ b2 / 64 = 2) ∧ 3 < n ∧ b3 / 64 = 2 by omega)]
                by_cases cp : 65536 ≤ p ∧ p ≤ 1114111
                · rw [if_pos ⟨cb.1, cb.2.1, cb.2.2, cp⟩, if_pos (show p ≥ 65536 ∧ (p < 55296 ∨ 57344 ≤ p ∧ p ≤ 1114111) by omega), if_neg (by simp)]
                · rw [if_neg (fun h => cp h.2.2.2), if_neg (show ¬ (p ≥ 65536 ∧ (p < 55296 ∨ 57344 ≤ p ∧ p ≤ 1114111)) by omega)]; simp
              · rw [if_neg (fun h => cb ⟨h.1, h.2.1, h.2.2.1⟩), if_neg (show ¬ (b0 / 8 = 30 ∧ (1 < n ∧ b1 / 64 = 2) ∧ (2 < n ∧ b2 / 64 = 2) ∧ 3 < n ∧ b3 / 64 = 2) by omega)]; simp
          · rw [if_neg (show ¬ (b0 / 8 = 30 ∧ (1 < n ∧ b1 / 64 = 2) ∧ (2 < n ∧ b2 / 64 = 2) ∧ 3 < n ∧ b3 / 64 = 2) by omega)]
            by_cases cl : n < 4
            · rw [if_pos cl]; simp
            · rw [if_neg cl, if_neg (fun h => by have := h.2.2.2.2; omega)]; simp
theorem firstR_eq (d : List UInt8) (hd : d ≠ []) : firstR d = if (decodeL d).1 = 65533 ∧ (decodeL d).2 = 1 then none else some (decodeL d) := by
  rw [firstR_N d hd, decodeL_N]
  exact firstN_eq _ _ _ _ _ (UInt8.toNat_lt _) (List.length_pos_iff.2 hd)
end Go.Proofs.Ytaajcbhingpfeaa
