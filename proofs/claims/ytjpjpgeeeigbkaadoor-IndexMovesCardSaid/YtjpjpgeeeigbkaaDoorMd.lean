/-
  Right indexes, plainly: Put, Take and Find.
-/
import Derived.Test.YtjpjpgeeeigbkaaDoorMc
set_option linter.all false
namespace Go.Proofs.YtjpjpgeeeigbkaaDoor
open Go.RowKit Go.En
section
variable {A B : List Post} {r : Int} {t : List UInt8}
def Low (A : List Post) (r : Int) (t : List UInt8) : Prop := ∀ p ∈ A, ltK p.role p.text r t
def High (B : List Post) (r : Int) (t : List UInt8) : Prop := ∀ p ∈ B, ltK r t p.role p.text
theorem not_lt {p : Post} (h : ltK r t p.role p.text) : ¬ ltK p.role p.text r t := fun h2 => ltK_irrefl (ltK_trans h h2)
theorem not_key {p : Post} (h : ltK r t p.role p.text) : ¬ (p.role = r ∧ p.text = t) := by
  rintro ⟨rfl, rfl⟩; exact ltK_irrefl h
theorem place_c1 (hA : Low A r t) (hB : High B r t) : placeN (A ++ B) r t = A.length := by
  refine takeWhile_stop2 (fun j hj q hq => ?_) (by simp) (fun q hq => ?_)
  · rw [List.getElem?_append_left hj] at hq
    exact decide_eq_true (hA q (List.mem_of_getElem? hq))
  · rw [List.getElem?_append_right (Nat.le_refl _)] at hq
    exact decide_eq_false (not_lt (hB q (List.mem_of_getElem? hq)))
theorem place_c2 {p : Post} (hA : Low A r t) (hp : p.role = r ∧ p.text = t) : placeN (A ++ p :: B) r t = A.length := by
  refine takeWhile_stop2 (fun j hj q hq => ?_) (by simp) (fun q hq => ?_)
  · rw [List.getElem?_append_left hj] at hq
    exact decide_eq_true (hA q (List.mem_of_getElem? hq))
  · rw [List.getElem?_append_right (Nat.le_refl _), Nat.sub_self] at hq
    simp at hq; subst hq
    obtain ⟨rfl, rfl⟩ := hp
    exact decide_eq_false ltK_irrefl
theorem at_c1 (hB : High B r t) : ∀ q, (A ++ B)[A.length]? = some q → ¬ (q.role = r ∧ q.text = t) := fun q hq => by
  rw [List.getElem?_append_right (Nat.le_refl _)] at hq
  exact not_key (hB q (List.mem_of_getElem? hq))
theorem at_c2 {p : Post} : (A ++ p :: B)[A.length]? = some p := by
  rw [List.getElem?_append_right (Nat.le_refl _), Nat.sub_self]; rfl
theorem find_c1 (hA : Low A r t) (hB : High B r t) : findF (A ++ B) r t = [] := by
  unfold findF; rw [place_c1 hA hB]
  split
  · rfl
  · rename_i q hq; exact if_neg (at_c1 hB q hq)
theorem find_c2 {p : Post} (hA : Low A r t) (hp : p.role = r ∧ p.text = t) : findF (A ++ p :: B) r t = p.ids := by
  unfold findF; rw [place_c2 hA hp, at_c2]; exact if_pos hp
theorem put_c1 {id : Int} (hA : Low A r t) (hB : High B r t) (hr : isRole r = true) : putF (A ++ B) r t id = A ++ ⟨r, t, [id]⟩ :: B := by
  unfold putF; rw [if_pos hr, place_c1 hA hB]
  have e : (A ++ B).take A.length ++ (⟨r, t, [id]⟩ : Post) :: (A ++ B).drop A.length = A ++ ⟨r, t, [id]⟩ :: B := by simp
  split
  · rename_i q hq; rw [if_neg (at_c1 hB q hq), e]
  · exact e
theorem put_c2 {p : Post} {id : Int} (hA : Low A r t) (hp : p.role = r ∧ p.text = t) (hr : isRole r = true) : putF (A ++ p :: B) r t id = A ++ ⟨r, t, withF p.ids id⟩ :: B := by
  unfold putF; rw [if_pos hr, place_c2 hA hp, at_c2]
  dsimp only
  rw [if_pos hp, List.set_append_right _ _ (Nat.le_refl _), Nat.sub_self, hp.1, hp.2]; rfl
theorem take_c1 {id : Int} (hA : Low A r t) (hB : High B r t) : takeF (A ++ B) r t id = A ++ B := by
  unfold takeF; rw [place_c1 hA hB]
  split
  · rfl
  · rename_i q hq; exact if_neg (at_c1 hB q hq)
theorem take_c2 {p : Post} {id : Int} (hA : Low A r t) (hp : p.role = r ∧ p.text = t) :
    takeF (A ++ p :: B) r t id = A ++ ((if (p.ids.filter fun n => decide (n ≠ id)) = [] then [] else [⟨r, t, p.ids.filter fun n => decide (n ≠ id)⟩]) ++ B) := by
  unfold takeF; rw [place_c2 hA hp, at_c2]
  dsimp only
  rw [if_pos hp]
  congr 1
  · simp
  · congr 1
    simp [List.drop_append]
end
/-! ### numbers in order -/
theorem rise_iff : ∀ {ids : List Int}, rise ids = true ↔ ids.Pairwise (· < ·)
  | [] => by simp [rise]
  | [a] => by simp [rise]
  | a :: b :: r => by
    have ih := rise_iff (ids := b :: r)
    simp only [rise, Bool.and_eq_true, decide_eq_true_eq, ih]
    constructor
    · rintro ⟨h1, h2⟩
      refine List.Pairwise.cons (fun c hc => ?_) h2
      rcases List.mem_cons.1 hc with rfl | hc
      · exact h1
      · have := (List.pairwise_cons.1 h2).1 c hc; omega
    · intro h
      exact ⟨(List.pairwise_cons.1 h).1 b (List.mem_cons_self ..), (List.pairwise_cons.1 h).2⟩
theorem with_split {ids : List Int} {id : Int} (h : rise ids = true) : ∃ L R, ids = L ++ R ∧ L.length = withN ids id ∧ (∀ z ∈ L, z < id) ∧ (∀ z ∈ R, id ≤ z) := by
  refine ⟨ids.takeWhile fun z => decide (z < id), ids.dropWhile fun z => decide (z < id), by rw [List.takeWhile_append_dropWhile], rfl, fun z hz => by simpa using tw_mem2 hz, fun z hz => ?_⟩
  have hp := rise_iff.1 h
  rw [← List.takeWhile_append_dropWhile (p := fun z => decide (z < id)) (l := ids), List.pairwise_append] at hp
  have hd := hp.2.1
  cases hr : ids.dropWhile fun z => decide (z < id) with
  | nil => rw [hr] at hz; simp at hz
  | cons y r =>
    have h2 := List.head?_dropWhile_not (fun z : Int => decide (z < id)) ids
    rw [hr] at h2 hz hd
    simp at h2
    rcases List.mem_cons.1 hz with rfl | hz
    · exact h2
    · have := (List.pairwise_cons.1 hd).1 z hz; omega
theorem with_val {ids : List Int} {id : Int} (h : rise ids = true) : (id ∈ ids ∧ withF ids id = ids) ∨ (id ∉ ids ∧ ∃ L R, ids = L ++ R ∧ withF ids id = L ++ id :: R ∧ (∀ z ∈ L, z < id) ∧ (∀ z ∈ R, id < z)) := by
  obtain ⟨L, R, hx, hl, h1, h2⟩ := with_split (id := id) h
  have hp := rise_iff.1 h
  unfold withF
  rw [← hl]
  by_cases hm : id ∈ ids
  · refine .inl ⟨hm, if_pos ?_⟩
    rw [hx] at hm ⊢
    rcases List.mem_append.1 hm with hm | hm
    · have := h1 id hm; omega
    · rw [List.getElem?_append_right (Nat.le_refl _), Nat.sub_self]
      cases R with
      | nil => simp at hm
      | cons y r =>
        rw [hx, List.pairwise_append, List.pairwise_cons] at hp
        rcases List.mem_cons.1 hm with rfl | hm
        · rfl
        · have := hp.2.1.1 id hm
          have := h2 y (List.mem_cons_self ..)
          omega
  · refine .inr ⟨hm, L, R, hx, ?_, h1, fun z hz => ?_⟩
    · rw [if_neg (fun e => hm (List.mem_of_getElem? e)), hx]; simp
    · have := h2 z hz
      have : z ≠ id := fun e => hm (by rw [hx, ← e]; exact List.mem_append_right _ hz)
      omega
theorem with_rise {ids : List Int} {id : Int} (h : rise ids = true) : rise (withF ids id) = true ∧ withF ids id ≠ [] ∧ id ∈ withF ids id := by
  rcases with_val (id := id) h with ⟨hm, e⟩ | ⟨hm, L, R, hx, e, h1, h2⟩
  · rw [e]; exact ⟨h, List.ne_nil_of_mem hm, hm⟩
  · rw [e]
    refine ⟨?_, by simp, by simp⟩
    have hp := rise_iff.1 h
    rw [hx, List.pairwise_append] at hp
    rw [rise_iff, List.pairwise_append, List.pairwise_cons]
    refine ⟨hp.1, ⟨h2, hp.2.1⟩, fun a ha b hb => ?_⟩
    have := h1 a ha
    rcases List.mem_cons.1 hb with rfl | hb
    · exact this
    · have := h2 b hb; omega
theorem filter_rise {ids : List Int} {id : Int} (h : rise ids = true) : rise (ids.filter fun n => decide (n ≠ id)) = true := rise_iff.2 ((rise_iff.1 h).filter _)
theorem filter_with {ids : List Int} {id : Int} (h : rise ids = true) (hm : id ∉ ids) : ((withF ids id).filter fun n => decide (n ≠ id)) = ids := by
  rcases with_val (id := id) h with ⟨hm', _⟩ | ⟨_, L, R, hx, e, h1, h2⟩
  · exact absurd hm' hm
  · rw [e, List.filter_append, List.filter_cons_of_neg (by simp), List.filter_eq_self.2 (fun z hz => by have := h1 z hz; simp; omega), List.filter_eq_self.2 (fun z hz => by have := h2 z hz; simp; omega), ← hx]
/-! ### right indexes -/
theorem right_app {A B : List Post} : Right (A ++ B) ↔ Right A ∧ Right B ∧ ∀ p ∈ A, ∀ q ∈ B, ltK p.role p.text q.role q.text := by
  unfold Right
  rw [ord_app]
  constructor
  · rintro ⟨h1, h2, h3, h4⟩
    exact ⟨⟨fun p hp => h1 p (List.mem_append_left _ hp), h2⟩, ⟨fun p hp => h1 p (List.mem_append_right _ hp), h3⟩, h4⟩
  · rintro ⟨⟨h1, h2⟩, ⟨h3, h4⟩, h5⟩
    exact ⟨fun p hp => (List.mem_append.1 hp).elim (h1 p) (h3 p), h2, h4, h5⟩
theorem right_mid {A B : List Post} {q : Post} (hA : Right A) (hB : Right B) (hAB : ∀ p ∈ A, ∀ q ∈ B, ltK p.role p.text q.role q.text) (hq : Good q) (h1 : Low A q.role q.text) (h2 : High B q.role q.text) : Right (A ++ q :: B) := by
  rw [right_app]
  refine ⟨hA, ⟨fun p hp => ?_, ord_cons.2 ⟨h2, hB.2⟩⟩, fun p hp q' hq' => ?_⟩
  · rcases List.mem_cons.1 hp with rfl | hp
    · exact hq
    · exact hB.1 p hp
  · rcases List.mem_cons.1 hq' with rfl | hq'
    · exact h1 p hp
    · exact hAB p hp q' hq'
/-- what IndexKeeps says -/
theorem keeps {xs : List Post} (hR : Right xs) (r : Int) (t : List UInt8) (id : Int) :
    Right (putF xs r t id) ∧ Right (takeF (putF xs r t id) r t id) ∧ (id ∈ findF (putF xs r t id) r t ↔ isRole r = true) ∧ id ∉ findF (takeF (putF xs r t id) r t id) r t ∧
      (id ∉ findF xs r t → takeF (putF xs r t id) r t id = xs) ∧ (id ∈ findF xs r t → putF xs r t id = xs) := by
  obtain ⟨A, B, _, hA, hc⟩ := split hR.2 r t
  rcases hc with ⟨rfl, hB⟩ | ⟨p, rfl, hr, ht, hB⟩
  · have hf := find_c1 hA hB
    obtain ⟨hRA, hRB, hAB⟩ := right_app.1 hR
    by_cases hrole : isRole r = true
    · rw [put_c1 hA hB hrole, take_c2 hA ⟨rfl, rfl⟩, find_c2 hA ⟨rfl, rfl⟩]
      simp only [decide_not, List.filter_cons, decide_true, Bool.not_true, List.filter_nil, if_true, List.nil_append, Bool.false_eq_true, if_false]
      rw [hf]
      exact ⟨right_mid hRA hRB hAB ⟨hrole, by simp, rfl⟩ hA hB, hR, by simp [hrole], by simp, by simp, by simp⟩
    · have hp : putF (A ++ B) r t id = A ++ B := by unfold putF; rw [if_neg hrole]
      rw [hp, take_c1 hA hB, hf]
      exact ⟨hR, hR, by simp [hrole], by simp, fun _ => rfl, fun h => by simp at h⟩
  · have hk : p.role = r ∧ p.text = t := ⟨hr, ht⟩
    obtain ⟨hRA, hRB, hAB⟩ := right_app.1 hR
    have hgood := hRB.1 p (List.mem_cons_self ..)
    have hrole : isRole r = true := by rw [← hr]; exact hgood.1
    have hBr : Right B := ⟨fun q hq => hRB.1 q (List.mem_cons_of_mem _ hq), (ord_cons.1 hRB.2).2⟩
    have hAB' : ∀ p ∈ A, ∀ q ∈ B, ltK p.role p.text q.role q.text := fun a ha q hq => hAB a ha q (List.mem_cons_of_mem _ hq)
    have hf : findF (A ++ p :: B) r t = p.ids := find_c2 hA hk
    obtain ⟨w1, w2, w3⟩ := with_rise (id := id) hgood.2.2
    have hpp : (⟨r, t, p.ids⟩ : Post) = p := by cases p; simp_all
    rw [put_c2 hA hk hrole, take_c2 hA ⟨rfl, rfl⟩, find_c2 hA ⟨rfl, rfl⟩, hf]
    dsimp only
    refine ⟨right_mid hRA hBr hAB' ⟨hrole, w2, w1⟩ hA hB, ?_, by simp [w3, hrole], ?_, fun hn => ?_, fun hm => ?_⟩
    · split
      · exact right_app.2 ⟨hRA, hBr, hAB'⟩
      · rename_i hne
        exact right_mid hRA hBr hAB' ⟨hrole, hne, filter_rise w1⟩ hA hB
    · split
      · rw [List.nil_append, find_c1 hA hB]; simp
      · rw [List.singleton_append, find_c2 hA ⟨rfl, rfl⟩]; simp
    · rw [filter_with hgood.2.2 hn, if_neg hgood.2.1, List.singleton_append, hpp]
    · rcases with_val (id := id) hgood.2.2 with ⟨_, e⟩ | ⟨hm', _⟩
      · rw [e, hpp]
      · exact absurd hm hm'
end Go.Proofs.YtjpjpgeeeigbkaaDoor
