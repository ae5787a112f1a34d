/-
  An index in order: the place of a key is where it stands.
-/
import Derived.Test.YtjpjpgeeeigbkaaDoorWl
set_option linter.all false
namespace Go.Proofs.YtjpjpgeeeigbkaaDoor
open Go.RowKit Go.En
/-- in order -/
def Ordered (xs : List Post) : Prop := ∀ (i j : Nat) (p q : Post), i < j → xs[i]? = some p → xs[j]? = some q → ltK p.role p.text q.role q.text
theorem ord_go : ∀ (xs : List Post) (before : Option Post), checkGo before xs = 0 → (∀ q, before = some q → ∀ p ∈ xs, ltK q.role q.text p.role p.text) ∧ Ordered xs
  | [], _, _ => ⟨fun _ _ _ h => by simp at h, fun i j p q _ h => by simp at h⟩
  | x :: r, before, h => by
    have key : checkGo (some x) r = 0 ∧ ∀ q, before = some q → ltK q.role q.text x.role x.text := by
      cases before with
      | none =>
        simp only [checkGo] at h
        refine ⟨?_, fun q hq => by cases hq⟩
        by_cases h1 : isRole x.role = true
        · by_cases h2 : x.ids = []
          · simp [h1, h2] at h
          · by_cases h3 : rise x.ids = true
            · simpa [h1, h2, h3] using h
            · simp [h1, h2, h3] at h
        · simp [h1] at h
      | some q0 =>
        simp only [checkGo] at h
        by_cases h1 : isRole x.role = true
        · by_cases h4 : ltK q0.role q0.text x.role x.text
          · by_cases h2 : x.ids = []
            · simp [h1, h2, h4] at h
            · by_cases h3 : rise x.ids = true
              · refine ⟨by simpa [h1, h2, h3, h4] using h, fun q hq => by cases hq; exact h4⟩
              · simp [h1, h2, h3, h4] at h
          · simp [h1, h4] at h
        · simp [h1] at h
    obtain ⟨h, hfst⟩ := key
    obtain ⟨hb, ho⟩ := ord_go r (some x) h
    refine ⟨fun q hq p hp => ?_, fun i j p q hij hp hq => ?_⟩
    · rcases List.mem_cons.1 hp with rfl | hp
      · exact hfst q hq
      · exact ltK_trans (hfst q hq) (hb x rfl p hp)
    · cases j with
      | zero => omega
      | succ j =>
        cases i with
        | zero =>
          simp at hp hq; subst hp
          exact hb _ rfl q (List.mem_of_getElem? hq)
        | succ i => exact ho i j p q (by omega) (by simpa using hp) (by simpa using hq)
theorem light_ord {xs : List Post} (h : lightF xs = true) : Ordered xs ∧ sizeP xs ≤ 100 := by
  simp only [lightF, Bool.and_eq_true, decide_eq_true_eq] at h
  exact ⟨(ord_go xs none h.2).2, h.1⟩
/-- the place of a key that stands there -/
theorem place_of {xs : List Post} (ho : Ordered xs) {i : Nat} {p : Post} (hp : xs[i]? = some p) : placeN xs p.role p.text = i := by
  refine takeWhile_stop2 (fun j hj q hq => decide_eq_true (ho j i q p hj hq hp)) (by have := (List.getElem?_eq_some_iff.1 hp).1; omega) (fun q hq => ?_)
  rw [hp] at hq; cases hq
  exact decide_eq_false ltK_irrefl
theorem find_eq {xs : List Post} (ho : Ordered xs) (r : Int) (t : List UInt8) : findF xs r t = rfindF xs r t := by
  unfold rfindF
  cases hf : xs.find? fun p => decide (p.role = r ∧ p.text = t) with
  | none =>
    have hno := List.find?_eq_none.1 hf
    unfold findF
    split
    · rfl
    · rename_i p hp
      exact if_neg (by have := hno p (List.mem_of_getElem? hp); simpa using this)
  | some p =>
    have hm := List.mem_of_find?_eq_some hf
    have hk := List.find?_some hf
    simp only [decide_eq_true_eq] at hk
    obtain ⟨i, hi⟩ := List.getElem?_of_mem hm
    obtain ⟨rfl, rfl⟩ := hk
    have hpl := place_of ho hi
    unfold findF
    rw [hpl, hi]
    exact if_pos ⟨rfl, rfl⟩
end Go.Proofs.YtjpjpgeeeigbkaaDoor
