/-
  Right indexes, plainly: what Put and Take do to them.
-/
import Derived.Test.YtjpjpgeeeigbkaaDoorMb
set_option linter.all false
namespace Go.Proofs.YtjpjpgeeeigbkaaDoor
open Go.RowKit Go.En
def Good (p : Post) : Prop := isRole p.role = true ∧ p.ids ≠ [] ∧ rise p.ids = true
/-- a right index -/
def Right (xs : List Post) : Prop := (∀ p ∈ xs, Good p) ∧ Ordered xs
theorem ord_cons {x : Post} {r : List Post} : Ordered (x :: r) ↔ (∀ p ∈ r, ltK x.role x.text p.role p.text) ∧ Ordered r := by
  constructor
  · intro h
    refine ⟨fun p hp => ?_, fun i j p q hij hp hq => h (i + 1) (j + 1) p q (by omega) (by simpa using hp) (by simpa using hq)⟩
    obtain ⟨j, hj⟩ := List.getElem?_of_mem hp
    exact h 0 (j + 1) x p (by omega) rfl (by simpa using hj)
  · rintro ⟨h1, h2⟩ i j p q hij hp hq
    cases j with
    | zero => omega
    | succ j =>
      cases i with
      | zero =>
        simp at hp hq; subst hp
        exact h1 q (List.mem_of_getElem? hq)
      | succ i => exact h2 i j p q (by omega) (by simpa using hp) (by simpa using hq)
theorem go_iff : ∀ (xs : List Post) (b : Option Post), checkGo b xs = 0 ↔ (∀ q, b = some q → ∀ p, xs.head? = some p → ltK q.role q.text p.role p.text) ∧ (∀ p ∈ xs, Good p) ∧ Ordered xs
  | [], b => by
    constructor
    · intro _; exact ⟨fun _ _ p hp => by simp at hp, fun p hp => by simp at hp, fun i j p q _ hp => by simp at hp⟩
    · intro _; rfl
  | x :: r, b => by
    have hb : (match b with | none => false | some q => !decide (ltK q.role q.text x.role x.text)) = false ↔ ∀ q, b = some q → ltK q.role q.text x.role x.text := by
      cases b with
      | none => simp
      | some q => simp
    have ih := go_iff r (some x)
    have e : checkGo b (x :: r) = 0 ↔ (isRole x.role = true ∧ (∀ q, b = some q → ltK q.role q.text x.role x.text) ∧ x.ids ≠ [] ∧ rise x.ids = true ∧ checkGo (some x) r = 0) := by
      by_cases h1 : isRole x.role = true
      · by_cases h3 : x.ids = []
        · cases b with
          | none => simp [checkGo, h1, h3]
          | some q => by_cases h4 : ltK q.role q.text x.role x.text <;> simp [checkGo, h1, h3, h4]
        · by_cases h2 : rise x.ids = true
          · cases b with
            | none => simp [checkGo, h1, h2, h3]
            | some q => by_cases h4 : ltK q.role q.text x.role x.text <;> simp [checkGo, h1, h2, h3, h4]
          · cases b with
            | none => simp [checkGo, h1, h2, h3]
            | some q => by_cases h4 : ltK q.role q.text x.role x.text <;> simp [checkGo, h1, h2, h3, h4]
      · simp [checkGo, h1]
    rw [e, ih, ord_cons]
    constructor
    · rintro ⟨h1, h2, h3, h4, h5, h6, h7⟩
      refine ⟨fun q hq p hp => by simp at hp; subst hp; exact h2 q hq, fun p hp => ?_, fun p hp => ?_, h7⟩
      · rcases List.mem_cons.1 hp with rfl | hp
        · exact ⟨h1, h3, h4⟩
        · exact h6 p hp
      · cases r with
        | nil => simp at hp
        | cons y r =>
          have hy := h5 x rfl y rfl
          rcases List.mem_cons.1 hp with rfl | hp
          · exact hy
          · exact ltK_trans hy ((ord_cons.1 h7).1 p hp)
    · rintro ⟨h1, h2, h3, h4⟩
      obtain ⟨g1, g2, g3⟩ := h2 x (List.mem_cons_self ..)
      exact ⟨g1, fun q hq => h1 q hq x rfl, g2, g3, fun q hq p hp => by cases hq; exact h3 p (List.mem_of_mem_head? hp), fun p hp => h2 p (List.mem_cons_of_mem _ hp), h4⟩
theorem right_iff {xs : List Post} : checkP xs = 0 ↔ Right xs := by
  unfold checkP Right
  rw [go_iff]
  exact ⟨fun h => h.2, fun h => ⟨fun q hq => by simp at hq, h⟩⟩
theorem ord_app {A B : List Post} : Ordered (A ++ B) ↔ Ordered A ∧ Ordered B ∧ ∀ p ∈ A, ∀ q ∈ B, ltK p.role p.text q.role q.text := by
  induction A with
  | nil => simp [Ordered]
  | cons x r ih =>
    rw [List.cons_append, ord_cons, ih, ord_cons]
    constructor
    · rintro ⟨h1, h2, h3, h4⟩
      refine ⟨⟨fun p hp => h1 p (List.mem_append_left _ hp), h2⟩, h3, fun p hp q hq => ?_⟩
      rcases List.mem_cons.1 hp with rfl | hp
      · exact h1 q (List.mem_append_right _ hq)
      · exact h4 p hp q hq
    · rintro ⟨⟨h1, h2⟩, h3, h4⟩
      refine ⟨fun p hp => ?_, h2, h3, fun p hp q hq => h4 p (List.mem_cons_of_mem _ hp) q hq⟩
      rcases List.mem_append.1 hp with hp | hp
      · exact h1 p hp
      · exact h4 x (List.mem_cons_self ..) p hp
theorem tw_mem2 {α : Type} {f : α → Bool} {x : α} : ∀ {l : List α}, x ∈ l.takeWhile f → f x = true
  | [], h => by simp at h
  | a :: l, h => by
    by_cases ha : f a = true
    · rw [List.takeWhile_cons_of_pos ha] at h
      rcases List.mem_cons.1 h with rfl | h
      · exact ha
      · exact tw_mem2 h
    · rw [List.takeWhile_cons_of_neg ha] at h; simp at h
/-- the two ways a key stands to an index in order -/
theorem split {xs : List Post} (ho : Ordered xs) (r : Int) (t : List UInt8) :
    ∃ A B, A.length = placeN xs r t ∧ (∀ p ∈ A, ltK p.role p.text r t) ∧ ((xs = A ++ B ∧ (∀ p ∈ B, ltK r t p.role p.text)) ∨ ∃ p, xs = A ++ p :: B ∧ p.role = r ∧ p.text = t ∧ ∀ q ∈ B, ltK r t q.role q.text) := by
  obtain ⟨A, hA⟩ : ∃ A, A = xs.takeWhile fun p => decide (ltK p.role p.text r t) := ⟨_, rfl⟩
  obtain ⟨B, hB⟩ : ∃ B, B = xs.dropWhile fun p => decide (ltK p.role p.text r t) := ⟨_, rfl⟩
  have hx : xs = A ++ B := by rw [hA, hB, List.takeWhile_append_dropWhile]
  have hAl : ∀ p ∈ A, ltK p.role p.text r t := fun p hp => by
    rw [hA] at hp
    have := tw_mem2 hp
    simpa using this
  rw [hx, ord_app] at ho
  cases hb : B with
  | nil => exact ⟨A, [], by rw [hA]; rfl, hAl, .inl ⟨by rw [hx, hb], fun p hp => by simp at hp⟩⟩
  | cons y r' =>
    have hy : ¬ ltK y.role y.text r t := by
      intro h
      have h2 := List.head?_dropWhile_not (fun p : Post => decide (ltK p.role p.text r t)) xs
      rw [← hB, hb] at h2
      simp [h] at h2
    have ho2 := ho.2.1
    rw [hb, ord_cons] at ho2
    rcases ltK_tri y.role y.text r t with h | ⟨h1, h2⟩ | h
    · exact absurd h hy
    · exact ⟨A, r', by rw [hA]; rfl, hAl, .inr ⟨y, by rw [hx, hb], h1, h2, fun q hq => by rw [← h1, ← h2]; exact ho2.1 q hq⟩⟩
    · refine ⟨A, y :: r', by rw [hA]; rfl, hAl, .inl ⟨by rw [hx, hb], fun q hq => ?_⟩⟩
      rcases List.mem_cons.1 hq with rfl | hq
      · exact h
      · exact ltK_trans h (ho2.1 q hq)
end Go.Proofs.YtjpjpgeeeigbkaaDoor
