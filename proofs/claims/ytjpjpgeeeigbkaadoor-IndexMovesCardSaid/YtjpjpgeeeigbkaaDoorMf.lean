/-
  Right indexes, plainly: the reference's Put and Take are the program's.
-/
import Derived.Test.YtjpjpgeeeigbkaaDoorMe
set_option linter.all false
namespace Go.Proofs.YtjpjpgeeeigbkaaDoor
open Go.RowKit Go.En
theorem rw_mid {p : Post} {B : List Post} (hB : High B p.role p.text) (out : List Post) : (let s := rwGo p B out false; if s.2 then s.1 else s.1 ++ [p]) = out ++ p :: B := by
  cases B with
  | nil => simp [rwGo]
  | cons q r =>
    have hq := hB q (List.mem_cons_self ..)
    have hk : q.role ≠ p.role ∨ q.text ≠ p.text := by
      by_cases h1 : q.role = p.role
      · exact .inr fun h2 => not_key hq ⟨h1, h2⟩
      · exact .inl h1
    simp only [rwGo, decide_eq_true hq, Bool.not_false, Bool.true_and, if_true, Bool.false_or]
    rw [if_pos hk, rw_done, filter_key (fun x hx => not_key (hB x (List.mem_cons_of_mem _ hx)))]
    simp
theorem low_key {A : List Post} {r : Int} {t : List UInt8} (h : Low A r t) : ∀ q ∈ A, ¬ (q.role = r ∧ q.text = t) := fun q hq => by
  rintro ⟨rfl, rfl⟩; exact ltK_irrefl (h q hq)
theorem rwith_c1 {A B : List Post} {p : Post} (hA : Low A p.role p.text) (hB : High B p.role p.text) : rwithF (A ++ B) p = A ++ (if p.ids = [] then B else p :: B) := by
  unfold rwithF
  by_cases h : p.ids = []
  · rw [decide_eq_true h, rw_done, if_pos h]
    simp only [if_true, List.nil_append, List.filter_append]
    rw [filter_key (low_key hA), filter_key (fun x hx => not_key (hB x hx))]
  · rw [decide_eq_false h, rw_low p A B [] hA, if_neg h]
    exact rw_mid hB _
theorem rwith_c2 {A B : List Post} {p x : Post} (hA : Low A p.role p.text) (hx : x.role = p.role ∧ x.text = p.text) (hB : High B p.role p.text) : rwithF (A ++ x :: B) p = A ++ (if p.ids = [] then B else p :: B) := by
  have hk : ¬ (x.role ≠ p.role ∨ x.text ≠ p.text) := by rintro (h | h); exact h hx.1; exact h hx.2
  unfold rwithF
  by_cases h : p.ids = []
  · rw [decide_eq_true h, rw_done, if_pos h]
    simp only [if_true, List.nil_append, List.filter_append]
    rw [filter_key (low_key hA), List.filter_cons_of_neg (by simpa using hk), filter_key (fun x hx => not_key (hB x hx))]
  · rw [decide_eq_false h, rw_low p A (x :: B) [] hA, if_neg h]
    have hn : ¬ ltK p.role p.text x.role x.text := by rw [hx.1, hx.2]; exact ltK_irrefl
    simp only [rwGo, decide_eq_false hn, Bool.and_false, Bool.false_eq_true, if_false, Bool.or_false]
    rw [if_neg hk]
    exact rw_mid hB _
def rputF (xs : List Post) (r : Int) (t : List UInt8) (id : Int) : List Post := if isRole r then rwithF xs ⟨r, t, unionF (rfindF xs r t) [id]⟩ else xs
def rtakeF (xs : List Post) (r : Int) (t : List UInt8) (id : Int) : List Post := rwithF xs ⟨r, t, minusF (rfindF xs r t) [id]⟩
theorem rput_eq {xs : List Post} (hR : Right xs) (r : Int) (t : List UInt8) (id : Int) : rputF xs r t id = putF xs r t id := by
  unfold rputF
  rw [← find_eq hR.2]
  by_cases hrole : isRole r = true
  · rw [if_pos hrole]
    obtain ⟨A, B, _, hA, hc⟩ := split hR.2 r t
    rcases hc with ⟨rfl, hB⟩ | ⟨p, rfl, hr, ht, hB⟩
    · rw [find_c1 hA hB, put_c1 hA hB hrole, union_one rfl, rwith_c1 (p := ⟨r, t, withF [] id⟩) hA hB]
      rfl
    · have hgood := hR.1 p (by simp)
      rw [find_c2 hA ⟨hr, ht⟩, put_c2 hA ⟨hr, ht⟩ hrole, union_one hgood.2.2, rwith_c2 (p := ⟨r, t, withF p.ids id⟩) hA ⟨hr, ht⟩ hB]
      dsimp only
      rw [if_neg (with_rise hgood.2.2).2.1]
  · rw [if_neg hrole]
    unfold putF
    rw [if_neg hrole]
theorem rtake_eq {xs : List Post} (hR : Right xs) (r : Int) (t : List UInt8) (id : Int) : rtakeF xs r t id = takeF xs r t id := by
  unfold rtakeF
  rw [← find_eq hR.2]
  obtain ⟨A, B, _, hA, hc⟩ := split hR.2 r t
  rcases hc with ⟨rfl, hB⟩ | ⟨p, rfl, hr, ht, hB⟩
  · rw [find_c1 hA hB, take_c1 hA hB, minus_one rfl, rwith_c1 (p := ⟨r, t, List.filter (fun z => decide (z ≠ id)) []⟩) hA hB]
    simp
  · have hgood := hR.1 p (by simp)
    rw [find_c2 hA ⟨hr, ht⟩, take_c2 hA ⟨hr, ht⟩, minus_one hgood.2.2, rwith_c2 (p := ⟨r, t, p.ids.filter fun z => decide (z ≠ id)⟩) hA ⟨hr, ht⟩ hB]
    dsimp only
    split <;> simp
end Go.Proofs.YtjpjpgeeeigbkaaDoor
