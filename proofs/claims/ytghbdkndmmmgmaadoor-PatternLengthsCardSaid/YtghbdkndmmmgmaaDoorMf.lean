/-
  Plain facts: what the laws say, without the program.
-/
import Derived.Test.YtghbdkndmmmgmaaDoorMd
import Derived.Test.YtghbdkndmmmgmaaDoorMe
set_option linter.all false
namespace Go.Proofs.YtghbdkndmmmgmaaDoor

theorem tw_mem {α : Type} {p : α → Bool} {t : α} : ∀ {l : List α}, t ∈ l.takeWhile p → p t = true
  | [], h => by simp at h
  | a :: r, h => by
    rw [List.takeWhile_cons] at h
    split at h
    · rcases List.mem_cons.1 h with rfl | h
      · assumption
      · exact tw_mem h
    · cases h
theorem tw_all {α : Type} {p : α → Bool} : ∀ {l : List α}, (∀ t ∈ l, p t = true) → l.takeWhile p = l
  | [], _ => rfl
  | a :: r, h => by
    rw [List.takeWhile_cons, if_pos (h a (by simp)), tw_all (fun t ht => h t (by simp [ht]))]
theorem tokens_inv {p : List UInt8} {ts : List Int} (h : tokens p = .ok ts) : p ≠ [] ∧ ¬ 64 < p.length ∧ ∃ zs, points p = some zs ∧ tokGo zs = some ts := by
  unfold tokens at h
  split at h
  · cases h
  · rename_i h0
    split at h
    · cases h
    · rename_i h1
      split at h
      · cases h
      · rename_i zs hz
        split at h
        · cases h
        · rename_i us hu
          cases h
          exact ⟨h0, h1, zs, hz, hu⟩
theorem tokens_mk {p : List UInt8} {zs : List Nat} {ts : List Int} (h0 : p ≠ []) (h1 : ¬ 64 < p.length) (hp : points p = some zs) (ht : tokGo zs = some ts) : tokens p = .ok ts := by
  unfold tokens; rw [if_neg h0, if_neg h1, hp]; dsimp only; rw [ht]
theorem checkF_zero {p : List UInt8} (h : checkF p = 0) : ∃ ts, tokens p = .ok ts := by
  unfold checkF at h
  cases ht : tokens p with
  | ok ts => exact ⟨ts, rfl⟩
  | error e => rw [ht] at h; exact absurd h (err_ne ht)
theorem matchF_inv {p s : List UInt8} (h : matchF p s = true) : ∃ ts zs, tokens p = .ok ts ∧ points s = some zs ∧ mt zs ts.reverse zs.length := by
  unfold matchF at h
  cases ht : tokens p with
  | error e => rw [ht] at h; cases h
  | ok ts =>
    cases hp : points s with
    | none => rw [ht, hp] at h; cases h
    | some zs =>
      rw [ht, hp] at h
      exact ⟨ts, zs, rfl, rfl, (matchT_iff ts zs).1 h⟩
theorem matchF_mk {p s : List UInt8} {ts : List Int} {zs : List Nat} (ht : tokens p = .ok ts) (hp : points s = some zs) : matchF p s = true ↔ mt zs ts.reverse zs.length := by
  unfold matchF; rw [ht, hp]; exact matchT_iff ts zs
theorem nonneg_of {ts : List Int} (hok : ∀ t ∈ ts, TokOk t) (hw : ts.any wild = false) : ∀ t ∈ ts, 0 ≤ t := fun t ht => by
  have := List.any_eq_false.1 hw t ht
  simp only [wild, Bool.or_eq_true, decide_eq_true_eq] at this
  rcases hok t ht with h | h | h
  · exact absurd (.inl h) this
  · exact absurd (.inr h) this
  · exact h.1
theorem encT_nat (ts : List Int) : encT ts = ((ts.map Int.toNat).map encB).flatten := by simp [encT, List.map_map, Function.comp_def]
/-! ### Heads -/
theorem heads {p s : List UInt8} (h : matchF p s = true) : checkF p = 0 ∧ (∃ r, s = headF p ++ r) ∧ ∀ l, plainF p = some l → l = s := by
  obtain ⟨ts, zs, ht, hp, hm⟩ := matchF_inv h
  have hok := (tokens_ok ht).2.1
  obtain ⟨_, _, hf⟩ := points_len _ s zs (Nat.le_refl _) hp
  refine ⟨by unfold checkF; rw [ht], ?_, ?_⟩
  · unfold headF
    rw [ht]
    dsimp only
    obtain ⟨pre, hpre⟩ : ∃ pre, pre = ts.takeWhile fun t => !wild t := ⟨_, rfl⟩
    rw [← hpre]
    have hsp : ts = pre ++ ts.dropWhile fun t => !wild t := by rw [hpre, List.takeWhile_append_dropWhile]
    rw [hsp, List.reverse_append] at hm
    obtain ⟨j, hj, hm2⟩ := mt_tail _ _ _ _ hm
    have hnn : ∀ t ∈ pre.reverse, 0 ≤ t := fun t ht2 => by
      rw [List.mem_reverse, hpre] at ht2
      have h1 := tw_mem ht2
      have h2 : t ∈ ts := (List.takeWhile_prefix _).subset ht2
      rcases hok t h2 with h | h | h
      · rw [h] at h1; simp [wild] at h1
      · rw [h] at h1; simp [wild] at h1
      · exact h.1
    obtain ⟨_, h4⟩ := (mt_plain zs _ j hj hnn).1 hm2
    rw [List.map_reverse, List.reverse_reverse] at h4
    refine ⟨((zs.drop j).map encB).flatten, ?_⟩
    rw [encT_nat, ← h4, ← List.flatten_append, ← List.map_append, List.take_append_drop, hf]
  · intro l hl
    unfold plainF at hl
    rw [ht] at hl
    dsimp only at hl
    split at hl
    · cases hl
    · rename_i hw
      cases hl
      have hnn : ∀ t ∈ ts.reverse, 0 ≤ t := fun t ht2 => nonneg_of hok (by simpa using hw) t (by simpa using ht2)
      obtain ⟨_, h4⟩ := (mt_plain zs _ _ (Nat.le_refl _) hnn).1 hm
      rw [List.map_reverse, List.reverse_reverse, List.take_length] at h4
      rw [encT_nat, ← h4, hf]
/-! ### Lengths -/
theorem ones_points (n : Nat) : points (List.replicate n (63 : UInt8)) = some (List.replicate n 63) := by
  have e : ((List.replicate n 63).map encB).flatten = List.replicate n (63 : UInt8) := by
    rw [List.map_replicate, show encB 63 = [63] by decide]
    induction n with
    | zero => rfl
    | succ n ih => rw [List.replicate_succ, List.flatten_cons, ih, List.replicate_succ]; rfl
  have h := points_encs (List.replicate n 63) [] (fun z hz => by rw [List.eq_of_mem_replicate hz]; decide)
  rw [List.append_nil, e] at h
  simpa [points_nil] using h
theorem ones_tok (n : Nat) : tokGo (List.replicate n 63) = some (List.replicate n (-2)) := by
  induction n with
  | zero => rfl
  | succ n ih => rw [List.replicate_succ, tokGo_cons, if_neg (by omega), if_neg (by omega), ih]; simp [List.replicate_succ]
theorem lengths {n : Nat} (h1 : 1 ≤ n) (h2 : n ≤ 64) (s : List UInt8) : matchF (List.replicate n 63) s = match points s with | none => false | some zs => decide (zs.length = n) := by
  have ht : tokens (List.replicate n 63) = .ok (List.replicate n (-2)) := tokens_mk (by intro h; have := congrArg List.length h; simp at this; omega) (by simp; omega) (ones_points n) (ones_tok n)
  cases hp : points s with
  | none => unfold matchF; rw [ht, hp]
  | some zs =>
    rw [Bool.eq_iff_iff, matchF_mk ht hp, List.reverse_replicate, mt_ones]
    simp
/-! ### Stars -/
theorem tokGo_append : ∀ (k : Nat) (zs us : List Nat) (ts : List Int), zs.length ≤ k → tokGo zs = some ts → tokGo (zs ++ us) = (tokGo us).map (ts ++ ·)
  | 0, zs, us, ts, hk, h => by
    have : zs = [] := List.eq_nil_of_length_eq_zero (by omega)
    subst this
    simp [tokGo] at h; subst h; simp
  | k + 1, [], us, ts, _, h => by simp [tokGo] at h; subst h; simp
  | k + 1, z :: r, us, ts, hk, h => by
    simp only [List.length_cons] at hk
    rw [tokGo_cons] at h
    rw [List.cons_append, tokGo_cons]
    split at h
    · cases h
    · rename_i h1
      rw [if_neg h1]
      split at h
      · rename_i h92
        rw [if_pos h92]
        split at h
        · cases h
        · rename_i y r'
          simp only [List.cons_append, List.length_cons] at hk ⊢
          split at h
          · rename_i hy
            rw [if_pos hy]
            cases hr : tokGo r' with
            | none => rw [hr] at h; cases h
            | some vs =>
              rw [hr] at h
              simp at h
              rw [tokGo_append k r' us vs (by omega) hr, ← h]
              simp [Option.map_map, Function.comp_def]
          · cases h
      · rename_i h92
        rw [if_neg h92]
        cases hr : tokGo r with
        | none => rw [hr] at h; cases h
        | some vs =>
          rw [hr] at h
          simp at h
          rw [tokGo_append k r us vs (by omega) hr, ← h]
          simp [Option.map_map, Function.comp_def]
theorem stars {p s t : List UInt8} {us : List Nat} (hu : points t = some us) (h : matchF p s = true) (hc : checkF (p ++ [42]) = 0) : matchF (p ++ [42]) (s ++ t) = true ∧ matchF (p ++ [42]) s = true := by
  obtain ⟨ts, zs, ht, hp, hm⟩ := matchF_inv h
  obtain ⟨ts2, ht2⟩ := checkF_zero hc
  obtain ⟨_, h64, zq, hq, hqt⟩ := tokens_inv ht2
  obtain ⟨_, _, zp, hpp, hpt⟩ := tokens_inv ht
  have h42 : points [42] = some [42] := by decide
  have hq2 := points_append hpp h42
  rw [hq] at hq2
  cases hq2
  rw [tokGo_append _ zp [42] ts (Nat.le_refl _) hpt] at hqt
  have : tokGo [42] = some [-1] := by decide
  rw [this] at hqt
  simp at hqt
  subst hqt
  refine ⟨(matchF_mk ht2 (points_append hp hu)).2 ?_, (matchF_mk ht2 hp).2 ?_⟩
  · rw [List.reverse_append]
    exact .inl ⟨rfl, zs.length, by simp, (mt_append _ _ (Nat.le_refl _)).2 hm⟩
  · rw [List.reverse_append]
    exact .inl ⟨rfl, zs.length, Nat.le_refl _, hm⟩
/-! ### Alone -/
theorem take_quote : ∀ (l s x : List UInt8), (∀ c ∈ l, 128 ≤ c.toNat) → quoteL s = l ++ x → ∃ r, s = l ++ r ∧ x = quoteL r
  | [], s, x, _, h => ⟨s, rfl, h.symm⟩
  | c :: l, s, x, hc, h => by
    have h1 := hc c (by simp)
    cases s with
    | nil => simp [quoteL] at h
    | cons d s' =>
      have hq : quoteL (d :: s') = q1 d ++ quoteL s' := by simp [quoteL]
      rw [hq] at h
      unfold q1 at h
      split at h
      · simp only [List.cons_append] at h
        have := (List.cons.inj h).1
        subst this
        exact absurd h1 (by decide)
      · simp only [List.cons_append, List.nil_append] at h
        obtain ⟨h2, h3⟩ := List.cons.inj h
        subst h2
        obtain ⟨r, h4, h5⟩ := take_quote l s' x (fun c hc2 => hc c (by simp [hc2])) h3
        exact ⟨r, by rw [h4]; rfl, h5⟩
theorem encB_small {z : Nat} (h : z < 128) : encB z = [UInt8.ofNat z] := by simp [encB, encN, h]
theorem points_small {z : UInt8} (h : z.toNat < 128) (r : List UInt8) : points (z :: r) = (points r).map (z.toNat :: ·) := by
  have e := encB_small h
  have := points_enc (z := z.toNat) (by rw [scal_iff]; omega) r
  rw [e] at this
  simpa using this
theorem unquote : ∀ (k : Nat) (s : List UInt8) (zq : List Nat), s.length ≤ k → points (quoteL s) = some zq → ∃ zs, points s = some zs
  | _, [], _, _, _ => ⟨[], points_nil⟩
  | 0, c :: r, _, hk, _ => by simp at hk
  | k + 1, c :: r, zq, hk, h => by
    simp only [List.length_cons] at hk
    have hcl := UInt8.toNat_lt c
    have hq : quoteL (c :: r) = q1 c ++ quoteL r := by simp [quoteL]
    by_cases hc : c.toNat < 128
    · have hr : ∃ z2, points (quoteL r) = some z2 := by
        rw [hq] at h
        unfold q1 at h
        split at h
        · simp only [List.cons_append, List.nil_append] at h
          rw [points_small (by decide), points_small hc] at h
          cases hr : points (quoteL r) with
          | none => rw [hr] at h; cases h
          | some z2 => exact ⟨z2, rfl⟩
        · simp only [List.cons_append, List.nil_append] at h
          rw [points_small hc] at h
          cases hr : points (quoteL r) with
          | none => rw [hr] at h; cases h
          | some z2 => exact ⟨z2, rfl⟩
      obtain ⟨z2, hr⟩ := hr
      obtain ⟨zs, hz⟩ := unquote k r z2 (by omega) hr
      exact ⟨_, by rw [points_small hc, hz]; rfl⟩
    · have hne : quoteL (c :: r) ≠ [] := by
        rw [hq]; unfold q1; split <;> simp
      rw [points_step hne] at h
      cases hf : firstR (quoteL (c :: r)) with
      | none => rw [hf] at h; cases h
      | some q =>
        obtain ⟨z, n⟩ := q
        rw [hf] at h
        dsimp only at h
        obtain ⟨hn1, hn2, hs, he⟩ := firstR_some hf
        have hsplit : quoteL (c :: r) = encB z ++ (quoteL (c :: r)).drop n := by rw [he, List.take_append_drop]
        have hz128 : ¬ z < 128 := by
          intro hz
          rw [encB_small hz] at hsplit
          rw [hq] at hsplit
          have hb : (UInt8.ofNat z).toNat = z := by rw [UInt8.toNat_ofNat']; omega
          unfold q1 at hsplit
          rw [if_neg (by rw [special_nat]; simp; omega)] at hsplit
          simp only [List.cons_append, List.nil_append] at hsplit
          have := (List.cons.inj hsplit).1
          rw [this] at hc
          omega
        have hb : ∀ c ∈ encB z, 128 ≤ c.toNat := by
          intro c hc
          unfold encB at hc
          obtain ⟨x, hx, rfl⟩ := List.mem_map.1 hc
          have hx2 : 128 ≤ x ∧ x < 256 := by
            have hz := (scal_iff.1 hs).1
            unfold encN at hx
            (repeat' split at hx) <;> simp at hx <;> omega
          rw [UInt8.toNat_ofNat']; omega
        obtain ⟨r2, h4, h5⟩ := take_quote _ _ _ hb hsplit
        rw [h5] at h
        have hl : r2.length ≤ k := by
          have := congrArg List.length h4
          have hp := List.length_pos_iff.2 (encB_pos z)
          simp at this
          omega
        cases hr : points (quoteL r2) with
        | none => rw [hr] at h; cases h
        | some z2 =>
          obtain ⟨zs, hz⟩ := unquote k r2 z2 hl hr
          exact ⟨_, by rw [h4, points_enc hs, hz]; rfl⟩
theorem alone {s : List UInt8} (hc : checkF (quoteL s) = 0) : plainF (quoteL s) = some s ∧ headF (quoteL s) = s ∧ ∀ t, matchF (quoteL s) t = decide (s = t) := by
  obtain ⟨ts, ht⟩ := checkF_zero hc
  obtain ⟨_, _, zq, hq, hqt⟩ := tokens_inv ht
  obtain ⟨zs, hz⟩ := unquote _ s zq (Nat.le_refl _) hq
  rw [points_quote hz] at hq
  cases hq
  have hts := tokGo_quote zs ts hqt
  obtain ⟨_, _, hf⟩ := points_len _ s zs (Nat.le_refl _) hz
  have hnn : ∀ t ∈ ts, 0 ≤ t := by rw [hts]; simp
  have hnat : ts.map Int.toNat = zs := by rw [hts, List.map_map]; simp [Function.comp_def]
  have hw : ∀ t ∈ ts, wild t = false := fun t h => by have := hnn t h; simp [wild]; omega
  have hany : ts.any wild = false := List.any_eq_false.2 fun t h => by rw [hw t h]; simp
  have hen : encT ts = s := by rw [encT_nat, hnat, hf]
  refine ⟨?_, ?_, fun t => ?_⟩
  · unfold plainF; rw [ht]; dsimp only; rw [if_neg (by rw [hany]; simp), hen]
  · unfold headF; rw [ht]; dsimp only
    rw [tw_all (fun t h => by rw [hw t h]; rfl), hen]
  · cases hpt : points t with
    | none =>
      unfold matchF
      rw [ht, hpt]
      symm
      rw [decide_eq_false_iff_not]
      rintro rfl
      rw [hz] at hpt; cases hpt
    | some us =>
      rw [Bool.eq_iff_iff, matchF_mk ht hpt, mt_plain us _ _ (Nat.le_refl _) (fun t h => hnn t (by simpa using h)), List.map_reverse, List.reverse_reverse, hnat, List.take_length, decide_eq_true_eq]
      constructor
      · rintro ⟨_, rfl⟩; exact points_inj hz hpt
      · rintro rfl
        rw [hz] at hpt
        cases hpt
        exact ⟨by rw [List.length_reverse, hts]; simp, rfl⟩
end Go.Proofs.YtghbdkndmmmgmaaDoor
