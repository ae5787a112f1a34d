/-
  Plain facts: texts put together, quoted texts.
-/
import Derived.Test.YtghbdkndmmmgmaaDoorMc
set_option linter.all false
namespace Go.Proofs.YtghbdkndmmmgmaaDoor

theorem firstR_of {d : List UInt8} {z n : Nat} (hl : leadN (d.getD 0 0).toNat = n) (hn : n ≤ d.length) (ha : accP d n = z) (hs : scal z = true) (he : encB z = d.take n) : firstR d = some (z, n) := by
  unfold firstR
  simp only [hl, ha]
  rw [if_neg (by omega), if_pos ⟨hs, he⟩]
theorem firstR_enc {z : Nat} (hs : scal z = true) (r : List UInt8) : firstR (encB z ++ r) = some (z, (encB z).length) := by
  have hz := (scal_iff.1 hs).1
  by_cases h1 : z < 128
  · have e : encB z = [UInt8.ofNat z] := by simp [encB, encN, h1]
    have b0 : (UInt8.ofNat z).toNat = z := by rw [UInt8.toNat_ofNat']; omega
    refine firstR_of ?_ ?_ ?_ hs ?_
    · rw [e]; simp only [List.cons_append, List.getD_cons_zero, b0, List.length_cons, List.length_nil]; unfold leadN; (repeat' split) <;> omega
    · simp
    · rw [e]; show leadP (UInt8.ofNat z).toNat = z; rw [b0]; unfold leadP; (repeat' split) <;> omega
    · simp
  · by_cases h2 : z < 2048
    · have e : encB z = [UInt8.ofNat (192 + z / 64), UInt8.ofNat (128 + z % 64)] := by simp [encB, encN, h1, h2]
      have b0 : (UInt8.ofNat (192 + z / 64)).toNat = 192 + z / 64 := by rw [UInt8.toNat_ofNat']; omega
      have b1 : (UInt8.ofNat (128 + z % 64)).toNat = 128 + z % 64 := by rw [UInt8.toNat_ofNat']; omega
      refine firstR_of ?_ ?_ ?_ hs ?_
      · rw [e]; simp only [List.cons_append, List.getD_cons_zero, b0, List.length_cons, List.length_nil]; unfold leadN; (repeat' split) <;> omega
      · simp
      · rw [e]; simp only [List.cons_append, List.nil_append, List.length_cons, List.length_nil, accP, List.getD_cons_zero, List.getD_cons_succ, b0, b1]; unfold leadP; (repeat' split) <;> omega
      · simp
    · by_cases h3 : z < 65536
      · have e : encB z = [UInt8.ofNat (224 + z / 4096), UInt8.ofNat (128 + z / 64 % 64), UInt8.ofNat (128 + z % 64)] := by simp [encB, encN, h1, h2, h3]
        have b0 : (UInt8.ofNat (224 + z / 4096)).toNat = 224 + z / 4096 := by rw [UInt8.toNat_ofNat']; omega
        have b1 : (UInt8.ofNat (128 + z / 64 % 64)).toNat = 128 + z / 64 % 64 := by rw [UInt8.toNat_ofNat']; omega
        have b2 : (UInt8.ofNat (128 + z % 64)).toNat = 128 + z % 64 := by rw [UInt8.toNat_ofNat']; omega
        refine firstR_of ?_ ?_ ?_ hs ?_
        · rw [e]; simp only [List.cons_append, List.getD_cons_zero, b0, List.length_cons, List.length_nil]; unfold leadN; (repeat' split) <;> omega
        · simp
        · rw [e]; simp only [List.cons_append, List.nil_append, List.length_cons, List.length_nil, accP, List.getD_cons_zero, List.getD_cons_succ, b0, b1, b2]; unfold leadP; (repeat' split) <;> omega
        · simp
      · have e : encB z = [UInt8.ofNat (240 + z / 262144), UInt8.ofNat (128 + z / 4096 % 64), UInt8.ofNat (128 + z / 64 % 64), UInt8.ofNat (128 + z % 64)] := by simp [encB, encN, h1, h2, h3]
        have b0 : (UInt8.ofNat (240 + z / 262144)).toNat = 240 + z / 262144 := by rw [UInt8.toNat_ofNat']; omega
        have b1 : (UInt8.ofNat (128 + z / 4096 % 64)).toNat = 128 + z / 4096 % 64 := by rw [UInt8.toNat_ofNat']; omega
        have b2 : (UInt8.ofNat (128 + z / 64 % 64)).toNat = 128 + z / 64 % 64 := by rw [UInt8.toNat_ofNat']; omega
        have b3 : (UInt8.ofNat (128 + z % 64)).toNat = 128 + z % 64 := by rw [UInt8.toNat_ofNat']; omega
        refine firstR_of ?_ ?_ ?_ hs ?_
        · rw [e]; simp only [List.cons_append, List.getD_cons_zero, b0, List.length_cons, List.length_nil]; unfold leadN; (repeat' split) <;> omega
        · simp
        · rw [e]; simp only [List.cons_append, List.nil_append, List.length_cons, List.length_nil, accP, List.getD_cons_zero, List.getD_cons_succ, b0, b1, b2, b3]; unfold leadP; (repeat' split) <;> omega
        · simp
theorem encB_pos (z : Nat) : encB z ≠ [] := by unfold encB encN; (repeat' split) <;> simp
theorem points_enc {z : Nat} (hs : scal z = true) (r : List UInt8) : points (encB z ++ r) = (points r).map (z :: ·) := by
  rw [points_step (by simp [encB_pos]), firstR_enc hs]
  simp
theorem points_encs : ∀ (zs : List Nat) (r : List UInt8), (∀ z ∈ zs, scal z = true) → points ((zs.map encB).flatten ++ r) = (points r).map (zs ++ ·)
  | [], r, _ => by simp
  | z :: zs, r, h => by
    rw [List.map_cons, List.flatten_cons, List.append_assoc, points_enc (h z (by simp)), points_encs zs r (fun x hx => h x (by simp [hx]))]
    simp [Option.map_map, Function.comp_def]
/-- two texts, one behind the other -/
theorem points_append {s t : List UInt8} {zs us : List Nat} (hs : points s = some zs) (ht : points t = some us) : points (s ++ t) = some (zs ++ us) := by
  obtain ⟨_, h1, h2⟩ := points_len _ s zs (Nat.le_refl _) hs
  rw [← h2, points_encs zs t h1, ht]; rfl
theorem points_inj {s t : List UInt8} {zs : List Nat} (hs : points s = some zs) (ht : points t = some zs) : s = t := by
  rw [← (points_len _ s zs (Nat.le_refl _) hs).2.2, ← (points_len _ t zs (Nat.le_refl _) ht).2.2]
/-! ### quoted texts -/
def qz (z : Nat) : List Nat := if specialI (z : Int) = true then [92, z] else [z]
theorem q1_enc {z : Nat} (hs : scal z = true) : (encB z).flatMap q1 = ((qz z).map encB).flatten := by
  have hz := (scal_iff.1 hs).1
  have e92 : encB 92 = [92] := by decide
  by_cases h1 : z < 128
  · have e : encB z = [UInt8.ofNat z] := by simp [encB, encN, h1]
    have b0 : (UInt8.ofNat z).toNat = z := by rw [UInt8.toNat_ofNat']; omega
    unfold qz
    rw [e]
    simp only [List.flatMap_cons, List.flatMap_nil, List.append_nil, q1, b0]
    split
    · simp [e, e92]
    · simp [e]
  · have hn : specialI (z : Int) = false := by
      rw [special_nat]; simp; omega
    unfold qz
    rw [if_neg (by rw [hn]; simp)]
    simp only [List.map_cons, List.map_nil, List.flatten_cons, List.flatten_nil, List.append_nil]
    have hb : ∀ c ∈ encB z, 128 ≤ c.toNat := by
      intro c hc
      unfold encB at hc
      obtain ⟨x, hx, rfl⟩ := List.mem_map.1 hc
      have hx2 : 128 ≤ x ∧ x < 256 := by
        unfold encN at hx
        (repeat' split at hx) <;> simp at hx <;> omega
      rw [UInt8.toNat_ofNat']; omega
    have hq : ∀ c ∈ encB z, q1 c = [c] := by
      intro c hc
      have := hb c hc
      have hlt := UInt8.toNat_lt c
      unfold q1
      rw [if_neg (by rw [special_nat]; simp; omega)]
    clear hb
    generalize encB z = l at hq
    induction l with
    | nil => rfl
    | cons c r ih => rw [List.flatMap_cons, hq c (by simp), ih (fun x hx => hq x (by simp [hx]))]; rfl
theorem quote_enc : ∀ (zs : List Nat), (∀ z ∈ zs, scal z = true) → quoteL ((zs.map encB).flatten) = ((zs.flatMap qz).map encB).flatten
  | [], _ => rfl
  | z :: r, h => by
    have ih := quote_enc r (fun x hx => h x (by simp [hx]))
    unfold quoteL at ih ⊢
    rw [List.map_cons, List.flatten_cons, List.flatMap_append, ih, q1_enc (h z (by simp))]
    simp
theorem qz_scal {zs : List Nat} (h : ∀ z ∈ zs, scal z = true) : ∀ z ∈ zs.flatMap qz, scal z = true := by
  intro z hz
  obtain ⟨x, hx, hm⟩ := List.mem_flatMap.1 hz
  unfold qz at hm
  split at hm
  · simp at hm; rcases hm with rfl | rfl
    · decide
    · exact h z hx
  · simp at hm; subst hm; exact h z hx
theorem points_quote {s : List UInt8} {zs : List Nat} (hs : points s = some zs) : points (quoteL s) = some (zs.flatMap qz) := by
  obtain ⟨_, h1, h2⟩ := points_len _ s zs (Nat.le_refl _) hs
  have := points_encs (zs.flatMap qz) [] (qz_scal h1)
  rw [← h2, quote_enc zs h1]
  simpa [points_nil] using this
theorem tokGo_quote : ∀ (zs : List Nat) (ts : List Int), tokGo (zs.flatMap qz) = some ts → ts = zs.map fun (z : Nat) => (z : Int)
  | [], ts, h => by simp [tokGo] at h; simp [h]
  | z :: r, ts, h => by
    rw [List.flatMap_cons] at h
    rw [show qz z = if specialI (z : Int) = true then [92, z] else [z] from rfl] at h
    split at h
    · rename_i hs
      simp only [List.cons_append, List.nil_append] at h
      rw [tokGo_cons, if_neg (by omega), if_pos rfl] at h
      dsimp only at h
      rw [if_pos hs] at h
      cases hr : tokGo (r.flatMap qz) with
      | none => rw [hr] at h; cases h
      | some us =>
        rw [hr] at h
        simp at h
        rw [← h, tokGo_quote r us hr]; rfl
    · rename_i hs
      rw [special_nat] at hs
      simp only [Bool.or_eq_true, decide_eq_true_eq] at hs
      simp only [List.cons_append, List.nil_append] at h
      rw [tokGo_cons] at h
      split at h
      · cases h
      · rw [if_neg (by omega)] at h
        cases hr : tokGo (r.flatMap qz) with
        | none => rw [hr] at h; cases h
        | some us =>
          rw [hr] at h
          simp at h
          rw [← h, tokGo_quote r us hr, if_neg (by omega), if_neg (by omega)]; rfl
end Go.Proofs.YtghbdkndmmmgmaaDoor
