/-
  Right indexes, plainly: the reference's Put and Take.
-/
import Derived.Test.YtjpjpgeeeigbkaaDoorMd
set_option linter.all false
namespace Go.Proofs.YtjpjpgeeeigbkaaDoor
open Go.RowKit Go.En
/-- num.Put: an increasing list with another number -/
def nputF (l : List Int) (n : Int) : List Int :=
  l.take (withN l n) ++ n :: (if l[withN l n]? = some n then l.drop (withN l n + 1) else l.drop (withN l n))
def sortedF (l : List Int) : List Int := l.foldl nputF []
def unionF (a b : List Int) : List Int := b.foldl nputF (sortedF a)
def minusF (a b : List Int) : List Int := a.foldl (fun acc z => if z ∈ b then acc else nputF acc z) []
theorem nput_eq (l : List Int) (n : Int) : nputF l n = withF l n := by
  unfold nputF withF
  split
  · rename_i h
    have := (List.getElem?_eq_some_iff.1 h)
    obtain ⟨hl, he⟩ := this
    conv => rhs; rw [← List.take_append_drop (withN l n) l, List.drop_eq_getElem_cons hl, he]
  · rfl
/-- putting the numbers of an increasing list one behind the other -/
theorem nput_last {l : List Int} {n : Int} (h : ∀ z ∈ l, z < n) : nputF l n = l ++ [n] := by
  have hn : withN l n = l.length := takeWhile_stop2 (fun j hj z hz => decide_eq_true (h z (List.mem_of_getElem? hz))) (Nat.le_refl _) (fun z hz => by simp at hz)
  unfold nputF
  rw [hn, List.getElem?_eq_none (Nat.le_refl _), if_neg (by simp)]
  simp
theorem sorted_go : ∀ (l acc : List Int), (acc ++ l).Pairwise (· < ·) → l.foldl nputF acc = acc ++ l
  | [], acc, _ => by simp
  | z :: l, acc, h => by
    rw [List.foldl_cons, nput_last (fun y hy => by rw [List.pairwise_append] at h; exact h.2.2 y hy z (List.mem_cons_self ..)), sorted_go l (acc ++ [z]) (by simpa using h)]
    simp
theorem sorted_id {l : List Int} (h : rise l = true) : sortedF l = l := by
  have := sorted_go l [] (by simpa using rise_iff.1 h)
  simpa [sortedF] using this
theorem union_one {l : List Int} {n : Int} (h : rise l = true) : unionF l [n] = withF l n := by
  simp only [unionF, List.foldl_cons, List.foldl_nil, sorted_id h, nput_eq]
theorem minus_go (n : Int) : ∀ (l acc : List Int), (acc ++ l).Pairwise (· < ·) → l.foldl (fun acc z => if z ∈ [n] then acc else nputF acc z) acc = acc ++ l.filter fun z => decide (z ≠ n)
  | [], acc, _ => by simp
  | z :: l, acc, h => by
    rw [List.foldl_cons]
    by_cases hz : z = n
    · rw [if_pos (by simp [hz]), List.filter_cons_of_neg (by simp [hz])]
      refine minus_go n l acc ?_
      rw [List.pairwise_append] at h ⊢
      exact ⟨h.1, (List.pairwise_cons.1 h.2.1).2, fun a ha b hb => h.2.2 a ha b (List.mem_cons_of_mem _ hb)⟩
    · rw [if_neg (by simp [hz]), List.filter_cons_of_pos (by simp [hz]), nput_last (fun y hy => by rw [List.pairwise_append] at h; exact h.2.2 y hy z (List.mem_cons_self ..)), minus_go n l (acc ++ [z]) (by simpa using h)]
      simp
theorem minus_one {l : List Int} {n : Int} (h : rise l = true) : minusF l [n] = l.filter fun z => decide (z ≠ n) := by
  have := minus_go n l [] (by simpa using rise_iff.1 h)
  simpa [minusF] using this
/-- the reference's with, from what is laid and whether the posting is laid -/
def rwGo (p : Post) : List Post → List Post → Bool → List Post × Bool
  | [], out, done => (out, done)
  | q :: r, out, done =>
    let out1 := if !done && decide (ltK p.role p.text q.role q.text) then out ++ [p] else out
    let done1 := done || decide (ltK p.role p.text q.role q.text)
    rwGo p r (if q.role ≠ p.role ∨ q.text ≠ p.text then out1 ++ [q] else out1) done1
def rwithF (xs : List Post) (p : Post) : List Post :=
  let s := rwGo p xs [] (decide (p.ids = []))
  if s.2 then s.1 else s.1 ++ [p]
theorem rw_done (p : Post) : ∀ (l out : List Post), rwGo p l out true = (out ++ l.filter (fun q => decide (q.role ≠ p.role ∨ q.text ≠ p.text)), true)
  | [], out => by simp [rwGo]
  | q :: r, out => by
    simp only [rwGo, Bool.not_true, Bool.false_and, Bool.false_eq_true, if_false, Bool.true_or]
    rw [rw_done p r]
    by_cases h : q.role ≠ p.role ∨ q.text ≠ p.text
    · rw [if_pos h, List.filter_cons_of_pos (by simpa using h)]; simp
    · rw [if_neg h, List.filter_cons_of_neg (by simpa using h)]
theorem rw_low (p : Post) : ∀ (A r out : List Post), Low A p.role p.text → rwGo p (A ++ r) out false = rwGo p r (out ++ A) false
  | [], r, out, _ => by simp
  | q :: A, r, out, h => by
    have hq := h q (List.mem_cons_self ..)
    have hn : ¬ ltK p.role p.text q.role q.text := fun h2 => ltK_irrefl (ltK_trans hq h2)
    have hk : q.role ≠ p.role ∨ q.text ≠ p.text := by
      by_cases h1 : q.role = p.role
      · refine .inr fun h2 => ?_
        rw [h1, h2] at hq; exact ltK_irrefl hq
      · exact .inl h1
    simp only [List.cons_append, rwGo, decide_eq_false hn, Bool.and_false, Bool.false_eq_true, if_false, Bool.or_false]
    rw [if_pos hk, rw_low p A r _ (fun x hx => h x (List.mem_cons_of_mem _ hx))]
    simp
theorem filter_key {p : Post} {B : List Post} (h : ∀ q ∈ B, ¬ (q.role = p.role ∧ q.text = p.text)) : B.filter (fun q => decide (q.role ≠ p.role ∨ q.text ≠ p.text)) = B :=
  List.filter_eq_self.2 fun q hq => by
    have := h q hq
    simp only [decide_eq_true_eq]
    by_cases h1 : q.role = p.role
    · exact .inr fun h2 => this ⟨h1, h2⟩
    · exact .inl h1
end Go.Proofs.YtjpjpgeeeigbkaaDoor
