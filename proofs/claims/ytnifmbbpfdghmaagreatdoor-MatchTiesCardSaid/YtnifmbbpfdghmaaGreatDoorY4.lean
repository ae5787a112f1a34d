/-
  Sorting by insertion, plainly: what is sorted is one list. Documents, plainly: the notes of a tier stand in one order. Documents, plainly: the program's Of and Kids are the reference's order. Documents, plainly: chains, what lies under a note, where a note is. Documents, plainly: where a note is, the next note, the order of all. Documents, plainly: Next, Order. Documents, plainly: what lies at a time, what is within. Documents, plainly: what lies below a note is found once. Documents, plainly: the chapter's example.
-/
import Derived.Test.YtnifmbbpfdghmaaGreatDoorDa
import Derived.KernelRfl
set_option linter.all false
namespace Go.Proofs.YtnifmbbpfdghmaaGreatDoor
open Go.RowKit Go.En
/-- x goes in from the right, past those it precedes -/
def insR {α : Type} (lt : α → α → Bool) (l : List α) (x : α) : List α :=
  match l with
  | [] => [x]
  | y :: r => if (y :: r).all (fun z => lt x z) then x :: y :: r else y :: insR lt r x
/-- the elements one behind the other -/
def insSort {α : Type} (lt : α → α → Bool) (l : List α) : List α := l.foldl (insR lt) []
section
variable {α : Type} {lt : α → α → Bool}
theorem insR_perm : ∀ (l : List α) (x : α), (insR lt l x).Perm (x :: l)
  | [], x => List.Perm.refl _
  | y :: r, x => by
    unfold insR
    split
    · exact List.Perm.refl _
    · exact ((insR_perm r x).cons y).trans (List.Perm.swap x y r)
theorem insSort_go : ∀ (l acc : List α), (l.foldl (insR lt) acc).Perm (acc ++ l)
  | [], acc => by simp
  | x :: l, acc => by
    rw [List.foldl_cons]
    refine (insSort_go l _).trans ?_
    refine ((insR_perm acc x).append_right l).trans ?_
    rw [List.cons_append]
    exact List.perm_middle.symm
theorem insSort_perm (l : List α) : (insSort lt l).Perm l := by simpa [insSort] using insSort_go (lt := lt) l []
/-- the place from the right: a prefix that ends with one that x does not precede, and those that x precedes -/
theorem insR_at {l p s : List α} {x : α} (hl : l = p ++ s) (hs : ∀ z ∈ s, lt x z = true) (hp : ∀ q z, p = q ++ [z] → lt x z = false) : insR lt l x = p ++ x :: s := by
  subst hl
  induction p with
  | nil =>
    cases s with
    | nil => rfl
    | cons y r =>
      simp only [List.nil_append]
      unfold insR
      rw [if_pos (List.all_eq_true.2 hs)]
  | cons y p ih =>
    rw [List.cons_append]
    unfold insR
    rw [if_neg, ih (fun q z h => hp (y :: q) z (by rw [h, List.cons_append])), List.cons_append]
    intro hall
    obtain ⟨q, z, hqz⟩ : ∃ q z, y :: p = q ++ [z] := ⟨(y :: p).dropLast, (y :: p).getLast (by simp), (List.dropLast_concat_getLast (by simp)).symm⟩
    have h1 := hp q z hqz
    have h2 := List.all_eq_true.1 hall z (by rw [← List.cons_append, hqz]; simp)
    rw [h1] at h2; cases h2
theorem insR_congr {lt' : α → α → Bool} : ∀ (l : List α) (x : α), (∀ y ∈ l, lt x y = lt' x y) → insR lt l x = insR lt' l x
  | [], _, _ => rfl
  | y :: r, x, h => by
    have h1 : (y :: r).all (fun z => lt x z) = (y :: r).all (fun z => lt' x z) := by
      rw [Bool.eq_iff_iff, List.all_eq_true, List.all_eq_true]
      exact ⟨fun k z hz => by rw [← h z hz]; exact k z hz, fun k z hz => by rw [h z hz]; exact k z hz⟩
    unfold insR
    rw [h1, insR_congr r x (fun z hz => h z (List.mem_cons_of_mem _ hz))]
theorem insSort_congr {lt' : α → α → Bool} (l : List α) (h : ∀ x ∈ l, ∀ y ∈ l, lt x y = lt' x y) : insSort lt l = insSort lt' l := by
  have go : ∀ (r acc : List α), (∀ x ∈ r, x ∈ l) → (∀ x ∈ acc, x ∈ l) → r.foldl (insR lt) acc = r.foldl (insR lt') acc := by
    intro r
    induction r with
    | nil => intro acc _ _; rfl
    | cons x r ih =>
      intro acc h1 h2
      rw [List.foldl_cons, List.foldl_cons, insR_congr acc x (fun y hy => h x (h1 x (List.mem_cons_self ..)) y (h2 y hy))]
      refine ih _ (fun y hy => h1 y (List.mem_cons_of_mem _ hy)) (fun y hy => ?_)
      rcases List.mem_cons.1 ((insR_perm acc x).mem_iff.1 hy) with rfl | hy
      · exact h1 _ (List.mem_cons_self ..)
      · exact h2 y hy
  exact go l [] (fun _ h => h) (fun _ h => by simp at h)
/-- a strict order in which any two of a list stand -/
structure Strict (lt : α → α → Bool) (l : List α) : Prop where
  asymm : ∀ x ∈ l, ∀ y ∈ l, lt x y = true → lt y x = false
  trans : ∀ x ∈ l, ∀ y ∈ l, ∀ z ∈ l, lt x y = true → lt y z = true → lt x z = true
  total : ∀ x ∈ l, ∀ y ∈ l, x ≠ y → lt x y = true ∨ lt y x = true
theorem insR_sorted {l : List α} {x : α} {L : List α} (hS : Strict lt L) (hx : x ∈ L) (hl : ∀ y ∈ l, y ∈ L) (hxl : x ∉ l) (hs : l.Pairwise fun a b => lt a b = true) : (insR lt l x).Pairwise fun a b => lt a b = true := by
  induction l with
  | nil => simp [insR]
  | cons y r ih =>
    unfold insR
    split
    · rename_i hall
      exact List.Pairwise.cons (List.all_eq_true.1 hall) hs
    · rename_i hall
      have hyx : lt y x = true := by
        rcases hS.total x hx y (hl y (List.mem_cons_self ..)) (fun e => hxl (by rw [e]; exact List.mem_cons_self ..)) with h | h
        · exfalso
          refine hall (List.all_eq_true.2 fun z hz => ?_)
          rcases List.mem_cons.1 hz with rfl | hz
          · exact h
          · exact hS.trans x hx y (hl y (List.mem_cons_self ..)) z (hl z (List.mem_cons_of_mem _ hz)) h ((List.pairwise_cons.1 hs).1 z hz)
        · exact h
      refine List.Pairwise.cons (fun z hz => ?_) (ih (fun z hz => hl z (List.mem_cons_of_mem _ hz)) (fun h => hxl (List.mem_cons_of_mem _ h)) (List.pairwise_cons.1 hs).2)
      rcases List.mem_cons.1 ((insR_perm r x).mem_iff.1 hz) with rfl | hz
      · exact hyx
      · exact (List.pairwise_cons.1 hs).1 z hz
theorem insSort_sorted {l : List α} (hn : l.Nodup) (hS : Strict lt l) : (insSort lt l).Pairwise fun a b => lt a b = true := by
  have go : ∀ (r acc : List α), (acc ++ r).Nodup → (∀ x ∈ acc ++ r, x ∈ l) → acc.Pairwise (fun a b => lt a b = true) → (r.foldl (insR lt) acc).Pairwise fun a b => lt a b = true := by
    intro r
    induction r with
    | nil => intro acc _ _ h; exact h
    | cons x r ih =>
      intro acc h1 h2 h3
      rw [List.foldl_cons]
      have hp : (insR lt acc x ++ r).Perm (acc ++ x :: r) := ((insR_perm acc x).append_right r).trans List.perm_middle.symm
      refine ih _ (hp.nodup_iff.2 h1) (fun y hy => h2 y (hp.mem_iff.1 hy)) ?_
      refine insR_sorted hS (h2 x (by simp)) (fun y hy => h2 y (by simp [hy])) (fun hx => ?_) h3
      rw [List.nodup_append] at h1
      exact h1.2.2 x hx x (by simp) rfl
  exact go l [] (by simpa using hn) (by simp) List.Pairwise.nil
theorem sorted_one : ∀ {l m : List α}, l.Perm m → (∀ x ∈ l, ∀ y ∈ l, lt x y = true → lt y x = false) → l.Pairwise (fun a b => lt a b = true) → m.Pairwise (fun a b => lt a b = true) → l = m
  | [], m, hp, _, _, _ => hp.nil_eq
  | x :: l, [], hp, _, _, _ => hp.symm.nil_eq.symm
  | x :: l, y :: m, hp, ha, h1, h2 => by
    have hxy : x = y := by
      have hy : y ∈ x :: l := hp.mem_iff.2 (List.mem_cons_self ..)
      have hx : x ∈ y :: m := hp.mem_iff.1 (List.mem_cons_self ..)
      rcases List.mem_cons.1 hy with h | hy'
      · exact h.symm
      rcases List.mem_cons.1 hx with h | hx'
      · exact h
      have e1 := (List.pairwise_cons.1 h1).1 y hy'
      have e2 := (List.pairwise_cons.1 h2).1 x hx'
      rw [ha x (List.mem_cons_self ..) y hy e1] at e2; cases e2
    subst hxy
    rw [sorted_one (List.Perm.cons_inv hp) (fun a h b k => ha a (List.mem_cons_of_mem _ h) b (List.mem_cons_of_mem _ k)) (List.pairwise_cons.1 h1).2 (List.pairwise_cons.1 h2).2]
/-- what is sorted is what the sort gives -/
theorem insSort_eq {l m : List α} (hn : l.Nodup) (hS : Strict lt l) (hp : m.Perm l) (hm : m.Pairwise fun a b => lt a b = true) : insSort lt l = m :=
  sorted_one ((insSort_perm l).trans hp.symm) (fun x hx y hy => hS.asymm x ((insSort_perm l).mem_iff.1 hx) y ((insSort_perm l).mem_iff.1 hy)) (insSort_sorted hn hS) hm
end
end Go.Proofs.YtnifmbbpfdghmaaGreatDoor
namespace Go.Proofs.YtnifmbbpfdghmaaGreatDoor
open Go.RowKit Go.En
theorem get_some {ns : List Note} {id : Int} {n : Note} (h : getF ns id = some n) : n ∈ ns ∧ n.id = id := by
  unfold getF at h
  exact ⟨List.mem_of_find?_eq_some h, by simpa using List.find?_some h⟩
theorem ids_inj {ns : List Note} (h : ns.Pairwise fun a b => a.id < b.id) {a b : Note} (ha : a ∈ ns) (hb : b ∈ ns) (e : a.id = b.id) : a = b := by
  obtain ⟨i, hi⟩ := List.getElem?_of_mem ha
  obtain ⟨j, hj⟩ := List.getElem?_of_mem hb
  obtain ⟨hi1, rfl⟩ := List.getElem?_eq_some_iff.1 hi
  obtain ⟨hj1, rfl⟩ := List.getElem?_eq_some_iff.1 hj
  have hp := List.pairwise_iff_getElem.1 h
  rcases Nat.lt_trichotomy i j with hlt | heq | hlt
  · have := hp i j hi1 hj1 hlt; omega
  · subst heq; rfl
  · have := hp j i hj1 hi1 hlt; omega
theorem get_mem {ns : List Note} (h : ns.Pairwise fun a b => a.id < b.id) {n : Note} (hn : n ∈ ns) : getF ns n.id = some n := by
  cases hg : getF ns n.id with
  | none =>
    unfold getF at hg
    have := List.find?_eq_none.1 hg n hn
    simp at this
  | some m =>
    obtain ⟨h1, h2⟩ := get_some hg
    rw [ids_inj h h1 hn h2]
theorem ids_rise {d : Dc} (h : LightD d) : d.notes.Pairwise fun a b => a.id < b.id := by
  have step : ∀ (j i : Nat) (hj : j < d.notes.length) (hi : i < d.notes.length), i < j → d.notes[i].id < d.notes[j].id := by
    intro j
    induction j with
    | zero => intro i _ _ h; omega
    | succ j ih =>
      intro i hj hi hij
      have h1 := (h.notes (j + 1) _ (List.getElem?_eq_getElem hj)).inc d.notes[j] (by omega) (by simp [List.getElem?_eq_getElem (show j < d.notes.length by omega)])
      by_cases he : i = j
      · subst he; exact h1
      · have := ih i (by omega) hi (by omega)
        omega
  exact List.pairwise_iff_getElem.2 fun i j hi hj hij => step j i hj hi hij
theorem notes_nodup {d : Dc} (h : LightD d) : d.notes.Nodup := (ids_rise h).imp fun {a b} hab e => by subst e; omega
/-- a note, its tier -/
theorem note_tier {d : Dc} (h : LightD d) {n : Note} (hn : n ∈ d.notes) : ∃ (k : Nat) (t : Tier), n.tier = (k : Int) ∧ d.tiers[k]? = some t ∧ PlacedOK d n t ∧ TierOK d.tiers k t ∧ SibsOK t.kind (sibs d.notes (k : Int) n.parent) := by
  obtain ⟨i, hi⟩ := List.getElem?_of_mem hn
  obtain ⟨t, k, h1, h2, h3⟩ := (h.notes i n hi).placed
  exact ⟨k, t, h1, h2, h3, h.tiers k t h2, h.sib k t h2 n hn h1⟩
theorem note_at {d : Dc} (h : LightD d) {n : Note} {k : Nat} {t : Tier} (hn : n ∈ d.notes) (hk : n.tier = (k : Int)) (ht : d.tiers[k]? = some t) : PlacedOK d n t ∧ TierOK d.tiers k t ∧ SibsOK t.kind (sibs d.notes (k : Int) n.parent) := by
  obtain ⟨k', t', h1, h2, h3, h4, h5⟩ := note_tier h hn
  have hkk : k' = k := by omega
  subst hkk
  rw [ht] at h2; cases h2
  exact ⟨h3, h4, h5⟩
/-- before: the reference's order, k a bound on the depth -/
def befF (d : Dc) : Nat → Note → Note → Bool
  | 0, _, _ => false
  | f + 1, a, b =>
    if a.parent ≠ b.parent then
      (match getF d.notes a.parent, getF d.notes b.parent with
       | some p, some q => befF d f p q
       | _, _ => false)
    else if (match d.tiers[a.tier.toNat]? with | some t => timedB t.kind | none => false) then decide (a.frm < b.frm) else decide (a.rank < b.rank)
def ofTier (d : Dc) (k : Int) : List Note := d.notes.filter fun n => decide (n.tier = k)
theorem of_mem {d : Dc} {k : Int} {n : Note} : n ∈ ofTier d k ↔ n ∈ d.notes ∧ n.tier = k := by simp [ofTier]
theorem sibs_mem {ns : List Note} {k p : Int} {n : Note} : n ∈ sibs ns k p ↔ n ∈ ns ∧ n.tier = k ∧ n.parent = p := by simp [sibs]
/-- m numbers take m elements -/
theorem cover {α : Type} (f : α → Int) : ∀ (m : Nat) (l : List α), (∀ n : Nat, n < m → ∃ x ∈ l, f x = (n : Int)) → m ≤ l.length
  | 0, _, _ => Nat.zero_le _
  | m + 1, l, h => by
    obtain ⟨x, hx, hf⟩ := h m (by omega)
    obtain ⟨s, t, rfl⟩ := List.append_of_mem hx
    have := cover f m (s ++ t) fun n hn => by
      obtain ⟨y, hy, hfy⟩ := h n (by omega)
      refine ⟨y, ?_, hfy⟩
      rcases List.mem_append.1 hy with hy | hy
      · exact List.mem_append_left _ hy
      · rcases List.mem_cons.1 hy with rfl | hy
        · omega
        · exact List.mem_append_right _ hy
    simp only [List.length_append, List.length_cons] at this ⊢
    omega
theorem ranked_inj {l : List Note} (h : Ranked l) {x y : Note} (hx : x ∈ l) (hy : y ∈ l) (e : x.rank = y.rank) : x = y := by
  apply Classical.byContradiction
  intro hne
  obtain ⟨s, t, rfl⟩ := List.append_of_mem hy
  have hx2 : x ∈ s ++ t := by
    rcases List.mem_append.1 hx with hx | hx
    · exact List.mem_append_left _ hx
    · rcases List.mem_cons.1 hx with hx | hx
      · exact absurd hx hne
      · exact List.mem_append_right _ hx
  have := cover (fun z : Note => z.rank) (s ++ y :: t).length (s ++ t) fun n hn => by
    obtain ⟨z, hz, hr⟩ := h n hn
    rcases List.mem_append.1 hz with hz | hz
    · exact ⟨z, List.mem_append_left _ hz, hr⟩
    · rcases List.mem_cons.1 hz with rfl | hz
      · exact ⟨x, hx2, by rw [e]; exact hr⟩
      · exact ⟨z, List.mem_append_right _ hz, hr⟩
  simp only [List.length_append, List.length_cons] at this
  omega
/-- two siblings: the keys differ -/
theorem sib_keys {d : Dc} (h : LightD d) {k : Nat} {t : Tier} {x y : Note} (ht : d.tiers[k]? = some t) (hx : x ∈ d.notes) (hy : y ∈ d.notes) (hxk : x.tier = (k : Int)) (hyk : y.tier = (k : Int)) (hp : x.parent = y.parent) (hne : x ≠ y) :
    (timedB t.kind = true → x.frm ≠ y.frm) ∧ (timedB t.kind = false → x.rank ≠ y.rank) := by
  obtain ⟨px, tk, sx⟩ := note_at h hx hxk ht
  obtain ⟨py, _, _⟩ := note_at h hy hyk ht
  have mx : x ∈ sibs d.notes (k : Int) x.parent := sibs_mem.2 ⟨hx, hxk, rfl⟩
  have my : y ∈ sibs d.notes (k : Int) x.parent := sibs_mem.2 ⟨hy, hyk, hp.symm⟩
  refine ⟨fun htm e => ?_, fun htm e => ?_⟩
  · have rx := px.on htm
    have ry := py.on htm
    unfold rightB at rx ry
    simp only [Bool.and_eq_true, decide_eq_true_eq] at rx ry
    obtain ⟨i, hi⟩ := List.getElem?_of_mem mx
    obtain ⟨j, hj⟩ := List.getElem?_of_mem my
    rcases Nat.lt_trichotomy i j with hlt | heq | hlt
    · exact sx.apart htm j i y x hlt hj hi ⟨by omega, by omega⟩
    · subst heq; rw [hi] at hj; cases hj; exact hne rfl
    · exact sx.apart htm i j x y hlt hi hj ⟨by omega, by omega⟩
  · have hk34 : t.kind = 3 ∨ t.kind = 4 := by
      have := tk.kind
      have h0 : ¬ (t.kind = 0 ∨ t.kind = 1 ∨ t.kind = 2) := fun hh => by rw [timed_iff.2 hh] at htm; cases htm
      omega
    rcases hk34 with h3 | h4
    · exact hne (ranked_inj (sx.series h3) mx my e)
    · have hl := sx.label h4
      obtain ⟨i, hi⟩ := List.getElem?_of_mem mx
      obtain ⟨j, hj⟩ := List.getElem?_of_mem my
      have h1 := (List.getElem?_eq_some_iff.1 hi).1
      have h2 := (List.getElem?_eq_some_iff.1 hj).1
      have : i = j := by omega
      subst this
      rw [hi] at hj; cases hj; exact hne rfl
theorem bef_same {d : Dc} {k f : Nat} {t : Tier} {x y : Note} (ht : d.tiers[k]? = some t) (hxk : x.tier = (k : Int)) (hp : x.parent = y.parent) : befF d (f + 1) x y = if timedB t.kind then decide (x.frm < y.frm) else decide (x.rank < y.rank) := by
  simp only [befF]
  rw [if_neg (by simpa using hp), hxk, Int.toNat_natCast, ht]
theorem bef_diff {d : Dc} {f : Nat} {x y p q : Note} (hp : getF d.notes x.parent = some p) (hq : getF d.notes y.parent = some q) (hne : x.parent ≠ y.parent) : befF d (f + 1) x y = befF d f p q := by
  simp only [befF]
  rw [if_pos hne, hp, hq]
/-- the parent of a note below the root tiers -/
theorem parent_of {d : Dc} (h : LightD d) {k : Nat} {t : Tier} {x : Note} (ht : d.tiers[k]? = some t) (hx : x ∈ d.notes) (hxk : x.tier = (k : Int)) (h0 : t.kind ≠ 0) :
    ∃ (j : Nat) (u : Tier) (p : Note), t.parent = (j : Int) ∧ j < k ∧ d.tiers[j]? = some u ∧ getF d.notes x.parent = some p ∧ p ∈ d.notes ∧ p.id = x.parent ∧ p.tier = (j : Int) := by
  obtain ⟨px, tk, _⟩ := note_at h hx hxk ht
  obtain ⟨p, hp, hpt⟩ := px.par h0
  have hr := tk.par h0
  obtain ⟨h1, h2⟩ := get_some hp
  have hk := (List.getElem?_eq_some_iff.1 ht).1
  exact ⟨t.parent.toNat, d.tiers[t.parent.toNat]'(by omega), p, by omega, by omega, List.getElem?_eq_getElem (by omega), hp, h1, h2, by omega⟩
theorem bef_fuel {d : Dc} (h : LightD d) : ∀ (k f g : Nat), k < f → k < g → ∀ x ∈ d.notes, ∀ y ∈ d.notes, x.tier = (k : Int) → y.tier = (k : Int) → befF d f x y = befF d g x y := by
  intro k
  induction k using Nat.strongRecOn with
  | _ k ih =>
    intro f g hf hg x hx y hy hxk hyk
    obtain ⟨f, rfl⟩ : ∃ f', f = f' + 1 := ⟨f - 1, by omega⟩
    obtain ⟨g, rfl⟩ : ∃ g', g = g' + 1 := ⟨g - 1, by omega⟩
    obtain ⟨k', t, h1, ht, _⟩ := note_tier h hx
    have hkk : k' = k := by omega
    subst hkk
    by_cases hp : x.parent = y.parent
    · rw [bef_same ht hxk hp, bef_same ht hxk hp]
    · have h0 : t.kind ≠ 0 := fun h0 => hp (by rw [(note_at h hx hxk ht).1.root h0, (note_at h hy hyk ht).1.root h0])
      obtain ⟨j, u, p, e1, hj, _, gp, mp, _, tp⟩ := parent_of h ht hx hxk h0
      obtain ⟨j', u', q, e2, _, _, gq, mq, _, tq⟩ := parent_of h ht hy hyk h0
      have hjj : j' = j := by omega
      subst hjj
      rw [bef_diff gp gq hp, bef_diff gp gq hp]
      exact ih j' hj f g (by omega) (by omega) p mp q mq tp tq
theorem bef_strict {d : Dc} (h : LightD d) : ∀ k : Nat, Strict (befF d (k + 1)) (ofTier d k) := by
  intro k
  induction k using Nat.strongRecOn with
  | _ k ih =>
    -- two notes: of one parent, or of two
    have key : ∀ x ∈ ofTier d k, ∀ y ∈ ofTier d k, (x.parent = y.parent ∧ ∃ t, d.tiers[k]? = some t ∧ ∀ z w : Note, z.tier = (k : Int) → z.parent = w.parent → befF d (k + 1) z w = if timedB t.kind then decide (z.frm < w.frm) else decide (z.rank < w.rank)) ∨
        (x.parent ≠ y.parent ∧ ∃ (j : Nat) (p q : Note), j < k ∧ getF d.notes x.parent = some p ∧ getF d.notes y.parent = some q ∧ p ∈ ofTier d j ∧ q ∈ ofTier d j ∧ p ≠ q ∧ befF d (k + 1) x y = befF d (j + 1) p q ∧ befF d (k + 1) y x = befF d (j + 1) q p) := by
      intro x hx y hy
      obtain ⟨hx1, hxk⟩ := of_mem.1 hx
      obtain ⟨hy1, hyk⟩ := of_mem.1 hy
      obtain ⟨k', t, h1, ht, _⟩ := note_tier h hx1
      have hkk : k' = k := by omega
      subst hkk
      by_cases hp : x.parent = y.parent
      · exact .inl ⟨hp, t, ht, fun z w hz hzw => bef_same ht hz hzw⟩
      · have h0 : t.kind ≠ 0 := fun h0 => hp (by rw [(note_at h hx1 hxk ht).1.root h0, (note_at h hy1 hyk ht).1.root h0])
        obtain ⟨j, u, p, e1, hj, _, gp, mp, ip, tp⟩ := parent_of h ht hx1 hxk h0
        obtain ⟨j', u', q, e2, _, _, gq, mq, iq, tq⟩ := parent_of h ht hy1 hyk h0
        have hjj : j' = j := by omega
        subst hjj
        refine .inr ⟨hp, j', p, q, hj, gp, gq, of_mem.2 ⟨mp, tp⟩, of_mem.2 ⟨mq, tq⟩, fun e => hp (by rw [← ip, ← iq, e]), ?_, ?_⟩
        · rw [bef_diff gp gq hp]
          exact bef_fuel h j' k' (j' + 1) hj (by omega) p mp q mq tp tq
        · rw [bef_diff gq gp (fun e => hp e.symm)]
          exact bef_fuel h j' k' (j' + 1) hj (by omega) q mq p mp tq tp
    refine ⟨fun x hx y hy hxy => ?_, fun x hx y hy z hz hxy hyz => ?_, fun x hx y hy hne => ?_⟩
    · rcases key x hx y hy with ⟨hp, t, ht, hb⟩ | ⟨hp, j, p, q, hj, _, _, mp, mq, _, e1, e2⟩
      · rw [hb x y (of_mem.1 hx).2 hp] at hxy
        rw [hb y x (of_mem.1 hy).2 hp.symm]
        split at hxy
        · rename_i htm
          rw [if_pos htm]
          simp only [decide_eq_true_eq] at hxy
          simp; omega
        · rename_i htm
          rw [if_neg htm]
          simp only [decide_eq_true_eq] at hxy
          simp; omega
      · rw [e1] at hxy
        rw [e2]
        exact (ih j hj).asymm p mp q mq hxy
    · rcases key x hx y hy with ⟨hp, t, ht, hb⟩ | ⟨hp, j, p, q, hj, gp, gq, mp, mq, hpq, e1, e2⟩
      · rcases key y hy z hz with ⟨hp2, t2, ht2, hb2⟩ | ⟨hp2, j2, p2, q2, hj2, gp2, gq2, mp2, mq2, hpq2, e12, e22⟩
        · rw [hb x y (of_mem.1 hx).2 hp] at hxy
          rw [hb y z (of_mem.1 hy).2 hp2] at hyz
          rw [hb x z (of_mem.1 hx).2 (hp.trans hp2)]
          split at hxy
          · rename_i htm
            rw [if_pos htm] at hyz ⊢
            simp only [decide_eq_true_eq] at hxy hyz ⊢
            omega
          · rename_i htm
            rw [if_neg htm] at hyz ⊢
            simp only [decide_eq_true_eq] at hxy hyz ⊢
            omega
        · rcases key x hx z hz with ⟨hp3, _⟩ | ⟨hp3, j3, p3, q3, hj3, gp3, gq3, mp3, mq3, hpq3, e13, e23⟩
          · exact absurd (hp.symm.trans hp3) hp2
          · rw [hp, gp2] at gp3; cases gp3
            rw [gq2] at gq3; cases gq3
            have hjj : j3 = j2 := by have := (of_mem.1 mp2).2; have := (of_mem.1 mp3).2; omega
            subst hjj
            rw [e13, ← e12]; exact hyz
      · rcases key y hy z hz with ⟨hp2, t2, ht2, hb2⟩ | ⟨hp2, j2, p2, q2, hj2, gp2, gq2, mp2, mq2, hpq2, e12, e22⟩
        · rcases key x hx z hz with ⟨hp3, _⟩ | ⟨hp3, j3, p3, q3, hj3, gp3, gq3, mp3, mq3, hpq3, e13, e23⟩
          · exact absurd (hp3.trans hp2.symm) hp
          · rw [gp] at gp3; cases gp3
            rw [← hp2, gq] at gq3; cases gq3
            have hjj : j3 = j := by have := (of_mem.1 mp).2; have := (of_mem.1 mp3).2; omega
            subst hjj
            rw [e13, ← e1]; exact hxy
        · rw [gq] at gp2; cases gp2
          have hjj : j2 = j := by have := (of_mem.1 mq).2; have := (of_mem.1 mp2).2; omega
          subst hjj
          rw [e1] at hxy
          rw [e12] at hyz
          rcases key x hx z hz with ⟨hp3, _⟩ | ⟨hp3, j3, p3, q3, hj3, gp3, gq3, mp3, mq3, hpq3, e13, e23⟩
          · exfalso
            rw [hp3, gq2] at gp; cases gp
            have := (ih j2 hj).asymm p mp q mq hxy
            rw [this] at hyz; cases hyz
          · rw [gp] at gp3; cases gp3
            rw [gq2] at gq3; cases gq3
            have hjj : j3 = j2 := by have := (of_mem.1 mp).2; have := (of_mem.1 mp3).2; omega
            subst hjj
            rw [e13]
            exact (ih j3 hj).trans p mp q mq q2 mq2 hxy hyz
    · rcases key x hx y hy with ⟨hp, t, ht, hb⟩ | ⟨hp, j, p, q, hj, _, _, mp, mq, hpq, e1, e2⟩
      · obtain ⟨hx1, hxk⟩ := of_mem.1 hx
        obtain ⟨hy1, hyk⟩ := of_mem.1 hy
        have hs := sib_keys h ht hx1 hy1 hxk hyk hp hne
        rw [hb x y hxk hp, hb y x hyk hp.symm]
        cases htm : timedB t.kind with
        | true =>
          have := hs.1 htm
          simp; omega
        | false =>
          have := hs.2 htm
          simp; omega
      · rw [e1, e2]
        exact (ih j hj).total p mp q mq hpq
end Go.Proofs.YtnifmbbpfdghmaaGreatDoor
namespace Go.Proofs.YtnifmbbpfdghmaaGreatDoor
open Go.RowKit Go.En
/-- the program's order of siblings -/
def ordB (a b : Note) : Bool := decide (a.parent < b.parent) || (decide (a.parent = b.parent) && (decide (a.frm < b.frm) || (decide (a.frm = b.frm) && decide (a.rank < b.rank))))
def kidsN (d : Dc) (id k : Int) : List Note := if 0 ≤ k ∧ k < d.tiers.length then insSort ordB (sibs d.notes k id) else []
/-- the program's Of, f a bound on the depth -/
def ofN (d : Dc) : Nat → Int → List Note
  | 0, _ => []
  | f + 1, k =>
    if 0 ≤ k ∧ k < d.tiers.length then
      (match d.tiers[k.toNat]? with
       | none => []
       | some t => if t.kind = 0 then kidsN d 0 k else (ofN d f t.parent).flatMap fun p => kidsN d p.id k)
    else []
/-- the reference's Of -/
def ofR (d : Dc) (k : Int) : List Note := insSort (befF d (k.toNat + 1)) (ofTier d k)
theorem ord_bef {d : Dc} (h : LightD d) {k : Nat} {t : Tier} {x y : Note} (f : Nat) (ht : d.tiers[k]? = some t) (hx : x ∈ d.notes) (hy : y ∈ d.notes) (hxk : x.tier = (k : Int)) (hyk : y.tier = (k : Int)) (hp : x.parent = y.parent) : ordB x y = befF d (f + 1) x y := by
  rw [bef_same ht hxk hp]
  obtain ⟨px, tk, sx⟩ := note_at h hx hxk ht
  obtain ⟨py, _, _⟩ := note_at h hy hyk ht
  unfold ordB
  rw [decide_eq_false (show ¬ x.parent < y.parent by omega), decide_eq_true hp, Bool.false_or, Bool.true_and]
  cases htm : timedB t.kind with
  | true =>
    have h3 : t.kind ≠ 3 := fun e => by rw [e] at htm; cases htm
    have rx := px.rank.2 h3
    have ry := py.rank.2 h3
    rw [if_pos rfl, decide_eq_false (show ¬ x.rank < y.rank by omega), Bool.and_false, Bool.or_false]
  | false =>
    have ox := (px.off htm).1
    have oy := (py.off htm).1
    rw [if_neg (by simp), decide_eq_false (show ¬ x.frm < y.frm by omega), decide_eq_true (show x.frm = y.frm by omega), Bool.false_or, Bool.true_and]
theorem Strict.sub {α : Type} {lt : α → α → Bool} {l m : List α} (h : Strict lt l) (hs : ∀ x ∈ m, x ∈ l) : Strict lt m :=
  ⟨fun x hx y hy => h.asymm x (hs x hx) y (hs y hy), fun x hx y hy z hz => h.trans x (hs x hx) y (hs y hy) z (hs z hz), fun x hx y hy => h.total x (hs x hx) y (hs y hy)⟩
theorem sibs_of {d : Dc} {k p : Int} {x : Note} (hx : x ∈ sibs d.notes k p) : x ∈ ofTier d k := of_mem.2 ⟨(sibs_mem.1 hx).1, (sibs_mem.1 hx).2.1⟩
theorem tier_lt {d : Dc} {k : Nat} {t : Tier} (ht : d.tiers[k]? = some t) : k < d.tiers.length := (List.getElem?_eq_some_iff.1 ht).1
theorem kids_eq {d : Dc} (h : LightD d) {k : Nat} {t : Tier} (ht : d.tiers[k]? = some t) (p : Int) : kidsN d p (k : Int) = insSort (befF d (k + 1)) (sibs d.notes (k : Int) p) := by
  unfold kidsN
  rw [if_pos ⟨by omega, by have := tier_lt ht; omega⟩]
  refine insSort_congr _ fun x hx y hy => ?_
  obtain ⟨hx1, hx2, hx3⟩ := sibs_mem.1 hx
  obtain ⟨hy1, hy2, hy3⟩ := sibs_mem.1 hy
  exact ord_bef h k ht hx1 hy1 hx2 hy2 (by omega)
theorem sibs_nodup {d : Dc} (h : LightD d) (k p : Int) : (sibs d.notes k p).Nodup := (notes_nodup h).filter _
theorem kids_sorted {d : Dc} (h : LightD d) {k : Nat} {t : Tier} (ht : d.tiers[k]? = some t) (p : Int) : (kidsN d p (k : Int)).Pairwise fun a b => befF d (k + 1) a b = true := by
  rw [kids_eq h ht]
  exact insSort_sorted (sibs_nodup h _ _) ((bef_strict h k).sub fun x hx => sibs_of hx)
theorem kids_mem {d : Dc} (h : LightD d) {k : Nat} {t : Tier} (ht : d.tiers[k]? = some t) {p : Int} {x : Note} : x ∈ kidsN d p (k : Int) ↔ x ∈ d.notes ∧ x.tier = (k : Int) ∧ x.parent = p := by
  rw [kids_eq h ht, (insSort_perm _).mem_iff, sibs_mem]
theorem pairwise_nodup {α : Type} {lt : α → α → Bool} {l L : List α} (hS : Strict lt L) (hl : ∀ x ∈ l, x ∈ L) (h : l.Pairwise fun a b => lt a b = true) : l.Nodup := by
  refine List.Pairwise.imp_of_mem (fun {a b} ha hb hab e => ?_) h
  subst e
  have := hS.asymm a (hl a ha) a (hl a ha) hab
  rw [this] at hab; cases hab
theorem perm_of {α : Type} {l m : List α} (hl : l.Nodup) (hm : m.Nodup) (h : ∀ x, x ∈ l ↔ x ∈ m) : l.Perm m := (List.perm_ext_iff_of_nodup hl hm).2 h
/-- the program's Of: the notes of the tier in their order -/
theorem ofN_eq {d : Dc} (h : LightD d) : ∀ (k f : Nat) (t : Tier), d.tiers[k]? = some t → k < f → ofN d f (k : Int) = ofR d (k : Int) := by
  intro k
  induction k using Nat.strongRecOn with
  | _ k ih =>
    intro f t ht hf
    obtain ⟨f, rfl⟩ : ∃ f', f = f' + 1 := ⟨f - 1, by omega⟩
    have hkl := tier_lt ht
    have tk := h.tiers k t ht
    have hS := bef_strict h k
    have hnd : (ofTier d (k : Int)).Nodup := (notes_nodup h).filter _
    simp only [ofN, Int.toNat_natCast]
    rw [if_pos ⟨by omega, by omega⟩, ht]
    dsimp only
    unfold ofR
    rw [Int.toNat_natCast]
    by_cases h0 : t.kind = 0
    · rw [if_pos h0, kids_eq h ht]
      congr 1
      unfold sibs ofTier
      refine List.filter_congr fun n hn => ?_
      by_cases hk : n.tier = (k : Int)
      · simp [hk, (note_at h hn hk ht).1.root h0]
      · simp [hk]
    · rw [if_neg h0]
      have hr := tk.par h0
      obtain ⟨j, hj⟩ : ∃ j : Nat, t.parent = (j : Int) := ⟨t.parent.toNat, by omega⟩
      have hjk : j < k := by omega
      obtain ⟨u, hu⟩ : ∃ u, d.tiers[j]? = some u := ⟨_, List.getElem?_eq_getElem (by omega)⟩
      rw [hj, ih j hjk f u hu (by omega)]
      have hSj := bef_strict h j
      have hndj : (ofTier d (j : Int)).Nodup := (notes_nodup h).filter _
      have hso : (ofR d (j : Int)).Pairwise fun a b => befF d (j + 1) a b = true := by
        unfold ofR; rw [Int.toNat_natCast]; exact insSort_sorted hndj hSj
      have hmo : ∀ p, p ∈ ofR d (j : Int) ↔ p ∈ ofTier d (j : Int) := fun p => by unfold ofR; exact (insSort_perm _).mem_iff
      -- the notes below the notes of the tier above
      have hmem : ∀ x, x ∈ (ofR d (j : Int)).flatMap (fun p => kidsN d p.id (k : Int)) ↔ x ∈ ofTier d (k : Int) := by
        intro x
        rw [List.mem_flatMap]
        constructor
        · rintro ⟨p, _, hx⟩
          obtain ⟨h1, h2, _⟩ := (kids_mem h ht).1 hx
          exact of_mem.2 ⟨h1, h2⟩
        · intro hx
          obtain ⟨h1, h2⟩ := of_mem.1 hx
          obtain ⟨j', u', p, e1, _, _, _, mp, ip, tp⟩ := parent_of h ht h1 h2 h0
          have hjj : j' = j := by omega
          subst hjj
          exact ⟨p, (hmo p).2 (of_mem.2 ⟨mp, tp⟩), (kids_mem h ht).2 ⟨h1, h2, ip.symm⟩⟩
      have hsort : ((ofR d (j : Int)).flatMap fun p => kidsN d p.id (k : Int)).Pairwise fun a b => befF d (k + 1) a b = true := by
        rw [List.pairwise_flatMap]
        refine ⟨fun p _ => kids_sorted h ht p.id, ?_⟩
        refine List.Pairwise.imp_of_mem (fun {p q} hp hq hpq => ?_) hso
        intro x hx y hy
        obtain ⟨hp1, hp2⟩ := of_mem.1 ((hmo p).1 hp)
        obtain ⟨hq1, hq2⟩ := of_mem.1 ((hmo q).1 hq)
        obtain ⟨x1, x2, x3⟩ := (kids_mem h ht).1 hx
        obtain ⟨y1, y2, y3⟩ := (kids_mem h ht).1 hy
        have hne : p.id ≠ q.id := fun e => by
          have := ids_inj (ids_rise h) hp1 hq1 e
          subst this
          have := hSj.asymm p ((hmo p).1 hp) p ((hmo p).1 hp) hpq
          rw [this] at hpq; cases hpq
        have gp : getF d.notes x.parent = some p := by rw [x3]; exact get_mem (ids_rise h) hp1
        have gq : getF d.notes y.parent = some q := by rw [y3]; exact get_mem (ids_rise h) hq1
        rw [bef_diff gp gq (by rw [x3, y3]; exact hne), bef_fuel h j k (j + 1) hjk (by omega) p hp1 q hq1 hp2 hq2]
        exact hpq
      exact (insSort_eq hnd hS (perm_of (pairwise_nodup hS (fun x hx => (hmem x).1 hx) hsort) hnd hmem) hsort).symm
theorem of_out {d : Dc} (h : LightD d) {k : Int} (hk : ¬ (0 ≤ k ∧ k < d.tiers.length)) : ofR d k = [] := by
  have : ofTier d k = [] := by
    rw [ofTier, List.filter_eq_nil_iff]
    intro n hn
    obtain ⟨k', t, h1, h2, _⟩ := note_tier h hn
    have := tier_lt h2
    simp; omega
  unfold ofR; rw [this]; rfl
theorem ofR_mem {d : Dc} {k : Int} {n : Note} : n ∈ ofR d k ↔ n ∈ d.notes ∧ n.tier = k := by
  unfold ofR; rw [(insSort_perm _).mem_iff, of_mem]
theorem ofR_sorted {d : Dc} (h : LightD d) (k : Nat) : (ofR d (k : Int)).Pairwise fun a b => befF d (k + 1) a b = true := by
  unfold ofR; rw [Int.toNat_natCast]; exact insSort_sorted ((notes_nodup h).filter _) (bef_strict h k)
end Go.Proofs.YtnifmbbpfdghmaaGreatDoor
namespace Go.Proofs.YtnifmbbpfdghmaaGreatDoor
open Go.RowKit Go.En
/-- the notes from an Id upwards, at most f -/
def chainN (ns : List Note) : Nat → Int → List Note
  | 0, _ => []
  | f + 1, id => match getF ns id with
    | none => []
    | some n => n :: chainN ns f n.parent
/-- a step upwards: none, or a tier nearer to the root -/
theorem step_up {d : Dc} (h : LightD d) {n : Note} {k : Nat} (hn : n ∈ d.notes) (hk : n.tier = (k : Int)) : getF d.notes n.parent = none ∨ ∃ p j, getF d.notes n.parent = some p ∧ p ∈ d.notes ∧ p.id = n.parent ∧ p.tier = ((j : Nat) : Int) ∧ j < k := by
  obtain ⟨k', t, h1, ht, px, tk, _⟩ := note_tier h hn
  have hkk : k' = k := by omega
  subst hkk
  by_cases h0 : t.kind = 0
  · refine .inl ?_
    have hp := px.root h0
    cases hg : getF d.notes n.parent with
    | none => rfl
    | some p =>
      obtain ⟨m1, m2⟩ := get_some hg
      obtain ⟨i, hi⟩ := List.getElem?_of_mem m1
      have := (h.notes i p hi).id
      omega
  · obtain ⟨j, u, p, _, hj, _, gp, mp, ip, tp⟩ := parent_of h ht hn h1 h0
    exact .inr ⟨p, j, gp, mp, ip, tp, hj⟩
theorem chain_fuel {d : Dc} (h : LightD d) : ∀ (k f g : Nat) (n : Note), n ∈ d.notes → n.tier = (k : Int) → k < f → k < g → chainN d.notes f n.id = chainN d.notes g n.id := by
  intro k
  induction k using Nat.strongRecOn with
  | _ k ih =>
    intro f g n hn hk hf hg
    obtain ⟨f, rfl⟩ : ∃ f', f = f' + 1 := ⟨f - 1, by omega⟩
    obtain ⟨g, rfl⟩ : ∃ g', g = g' + 1 := ⟨g - 1, by omega⟩
    simp only [chainN, get_mem (ids_rise h) hn]
    congr 1
    rcases step_up h hn hk with h0 | ⟨p, j, gp, mp, ip, tp, hj⟩
    · cases f <;> cases g <;> simp [chainN, h0]
    · rw [← ip]
      exact ih j hj f g p mp tp (by omega) (by omega)
theorem note_lt {d : Dc} (h : LightD d) {n : Note} (hn : n ∈ d.notes) : ∃ k : Nat, n.tier = (k : Int) ∧ k < d.tiers.length := by
  obtain ⟨k, t, h1, ht, _⟩ := note_tier h hn
  exact ⟨k, h1, tier_lt ht⟩
theorem chain_all {d : Dc} (h : LightD d) (id : Int) (f g : Nat) (hf : d.tiers.length ≤ f) (hg : d.tiers.length ≤ g) : chainN d.notes f id = chainN d.notes g id := by
  cases hgt : getF d.notes id with
  | none => cases f <;> cases g <;> simp [chainN, hgt]
  | some n =>
    obtain ⟨hn, hid⟩ := get_some hgt
    obtain ⟨k, hk, hlt⟩ := note_lt h hn
    rw [← hid]
    exact chain_fuel h k f g n hn hk (by omega) (by omega)
/-- the chain of an Id -/
def chainF (d : Dc) (id : Int) : List Note := chainN d.notes (d.tiers.length + 1) id
theorem chain_none {d : Dc} {id : Int} (hg : getF d.notes id = none) : chainF d id = [] := by simp [chainF, chainN, hg]
theorem chain_cons {d : Dc} (h : LightD d) {n : Note} (hn : n ∈ d.notes) : chainF d n.id = n :: chainF d n.parent := by
  show chainN d.notes (d.tiers.length + 1) n.id = _
  simp only [chainN, get_mem (ids_rise h) hn]
  congr 1
  exact chain_all h _ _ _ (Nat.le_refl _) (by omega)
theorem chain_len (ns : List Note) : ∀ (f : Nat) (id : Int), (chainN ns f id).length ≤ f
  | 0, _ => Nat.le_refl _
  | f + 1, id => by
    simp only [chainN]
    cases getF ns id with
    | none => simp
    | some n => have := chain_len ns f n.parent; simp; omega
/-- every note of a chain is a note, above its beginning -/
theorem chain_up {d : Dc} (h : LightD d) : ∀ (k : Nat) (n : Note), n ∈ d.notes → n.tier = (k : Int) → (∀ m ∈ chainF d n.id, m ∈ d.notes ∧ m.tier ≤ n.tier) ∧ (∀ m ∈ chainF d n.parent, m.tier < n.tier) := by
  intro k
  induction k using Nat.strongRecOn with
  | _ k ih =>
    intro n hn hk
    have h2 : ∀ m ∈ chainF d n.parent, m ∈ d.notes ∧ m.tier < n.tier := by
      intro m hm
      rcases step_up h hn hk with h0 | ⟨p, j, gp, mp, ip, tp, hj⟩
      · rw [chain_none h0] at hm; simp at hm
      · rw [← ip] at hm
        obtain ⟨e1, e2⟩ := (ih j hj p mp tp).1 m hm
        exact ⟨e1, by omega⟩
    refine ⟨fun m hm => ?_, fun m hm => (h2 m hm).2⟩
    rw [chain_cons h hn] at hm
    rcases List.mem_cons.1 hm with rfl | hm
    · exact ⟨hn, Int.le_refl _⟩
    · obtain ⟨e1, e2⟩ := h2 m hm
      exact ⟨e1, by omega⟩
theorem chain_id {d : Dc} {id : Int} : ∀ (f : Nat) (m : Note), m ∈ chainN d.notes f id → m ∈ d.notes
  | 0, _, h => by simp [chainN] at h
  | f + 1, m, h => by
    simp only [chainN] at h
    cases hg : getF d.notes id with
    | none => rw [hg] at h; simp at h
    | some n =>
      rw [hg] at h
      rcases List.mem_cons.1 h with rfl | h
      · exact (get_some hg).1
      · exact chain_id f m h
/-- below an Id, at most f deep: each note before what lies below it -/
def dfsN (ns : List Note) : Nat → Int → List Int
  | 0, _ => []
  | f + 1, id => (ns.filter fun n => decide (n.parent = id)).flatMap fun n => n.id :: dfsN ns f n.id
/-- the reference's Under -/
def underR (d : Dc) (id : Int) : List Int := (d.notes.filter fun n => !decide (n.id = id) && decide (id ∈ (chainF d n.id).map (·.id))).map (·.id)
/-- what is found below a note are the notes that lead to it -/
theorem dfs_mem {d : Dc} (h : LightD d) : ∀ (f : Nat) (id : Int) (a : Note) (k : Nat), getF d.notes id = some a → a.tier = (k : Int) → d.tiers.length ≤ f + k → ∀ x : Int, x ∈ dfsN d.notes f id ↔ ∃ n ∈ d.notes, n.id = x ∧ ∃ m ∈ chainF d n.parent, m.id = id := by
  intro f
  induction f with
  | zero =>
    intro id a k ha hk hf x
    obtain ⟨k', h1, h2⟩ := note_lt h (get_some ha).1
    omega
  | succ f ih =>
    intro id a k ha hk hf x
    obtain ⟨ha1, ha2⟩ := get_some ha
    simp only [dfsN, List.mem_flatMap, List.mem_filter, decide_eq_true_eq, List.mem_cons]
    constructor
    · rintro ⟨n, ⟨hn, hp⟩, hx⟩
      have hchain : a ∈ chainF d n.parent := by rw [hp, ← ha2, chain_cons h ha1]; exact List.mem_cons_self ..
      rcases hx with rfl | hx
      · exact ⟨n, hn, rfl, a, hchain, ha2⟩
      · obtain ⟨kn, hkn, _⟩ := note_lt h hn
        have hup := (chain_up h kn n hn hkn).2 a hchain
        obtain ⟨m, hm, hmx, c, hc, hcid⟩ := (ih n.id n kn (get_mem (ids_rise h) hn) hkn (by omega) x).1 hx
        refine ⟨m, hm, hmx, ?_⟩
        -- c is n, and above n stands a
        have hcn : c = n := ids_inj (ids_rise h) (chain_id _ c hc) hn hcid
        subst hcn
        have : ∀ (g : Nat) (i : Int), c ∈ chainN d.notes g i → a ∈ chainF d i := by
          intro g
          induction g with
          | zero => intro i hci; simp [chainN] at hci
          | succ g ihg =>
            intro i hci
            simp only [chainN] at hci
            cases hgi : getF d.notes i with
            | none => rw [hgi] at hci; simp at hci
            | some y =>
              rw [hgi] at hci
              obtain ⟨hy1, hy2⟩ := get_some hgi
              rw [← hy2, chain_cons h hy1]
              rcases List.mem_cons.1 hci with rfl | hci
              · exact List.mem_cons_of_mem _ hchain
              · exact List.mem_cons_of_mem _ (ihg _ hci)
        exact ⟨a, this _ _ hc, ha2⟩
    · rintro ⟨n, hn, hx, m, hm, hmid⟩
      have hma : m = a := ids_inj (ids_rise h) (chain_id _ m hm) ha1 (hmid.trans ha2.symm)
      subst hma
      -- go up from n until the parent is the note itself
      have up : ∀ (kn : Nat) (n : Note), n ∈ d.notes → n.tier = (kn : Int) → m ∈ chainF d n.parent → ∃ c ∈ d.notes, c.parent = id ∧ (c = n ∨ ∃ e ∈ chainF d n.parent, e.id = c.id) := by
        intro kn
        induction kn using Nat.strongRecOn with
        | _ kn ihk =>
          intro n hn hkn hmn
          rcases step_up h hn hkn with h0 | ⟨p, j, gp, mp, ip, tp, hj⟩
          · rw [chain_none h0] at hmn; simp at hmn
          · rw [← ip, chain_cons h mp] at hmn
            rcases List.mem_cons.1 hmn with hmp | hmn
            · exact ⟨n, hn, by rw [← ip, ← hmp, ha2], .inl rfl⟩
            · obtain ⟨c, hc, hcp, hce⟩ := ihk j hj p mp tp hmn
              refine ⟨c, hc, hcp, .inr ?_⟩
              rw [← ip, chain_cons h mp]
              rcases hce with rfl | ⟨e, he, hec⟩
              · exact ⟨c, List.mem_cons_self .., rfl⟩
              · exact ⟨e, List.mem_cons_of_mem _ he, hec⟩
      obtain ⟨kn, hkn, _⟩ := note_lt h hn
      obtain ⟨c, hc, hcp, hce⟩ := up kn n hn hkn hm
      refine ⟨c, ⟨hc, hcp⟩, ?_⟩
      rcases hce with rfl | ⟨e, he, hec⟩
      · exact .inl hx.symm
      · refine .inr ?_
        obtain ⟨kc, hkc, _⟩ := note_lt h hc
        have hmc : m ∈ chainF d c.parent := by rw [hcp, ← ha2, chain_cons h ha1]; exact List.mem_cons_self ..
        have hup := (chain_up h kc c hc hkc).2 m hmc
        exact (ih c.id c kc (get_mem (ids_rise h) hc) hkc (by omega) x).2 ⟨n, hn, hx, e, he, hec⟩
/-- the reference's Under has the same elements -/
theorem under_mem {d : Dc} (h : LightD d) (id : Int) (x : Int) : x ∈ underR d id ↔ ∃ n ∈ d.notes, n.id = x ∧ ∃ m ∈ chainF d n.parent, m.id = id := by
  unfold underR
  simp only [List.mem_map, List.mem_filter, Bool.and_eq_true, Bool.not_eq_true', decide_eq_false_iff_not, decide_eq_true_eq]
  constructor
  · rintro ⟨n, ⟨hn, hne, m, hm, hmid⟩, rfl⟩
    refine ⟨n, hn, rfl, m, ?_, hmid⟩
    rw [chain_cons h hn] at hm
    rcases List.mem_cons.1 hm with rfl | hm
    · exact absurd hmid hne
    · exact hm
  · rintro ⟨n, hn, rfl, m, hm, hmid⟩
    refine ⟨n, ⟨hn, fun e => ?_, m, ?_, hmid⟩, rfl⟩
    · obtain ⟨kn, hkn, _⟩ := note_lt h hn
      have h1 := (chain_up h kn n hn hkn).2 m hm
      have : m = n := ids_inj (ids_rise h) (chain_id _ m hm) hn (hmid.trans e.symm)
      subst this; omega
    · rw [chain_cons h hn]; exact List.mem_cons_of_mem _ hm
theorem under_rise {d : Dc} (h : LightD d) (id : Int) : (underR d id).Pairwise (· < ·) := by
  unfold underR
  rw [List.pairwise_map]
  exact (ids_rise h).filter _
/-- two increasing lists of the same numbers -/
theorem rise_one {l m : List Int} (hl : l.Pairwise (· < ·)) (hm : m.Pairwise (· < ·)) (h : ∀ x, x ∈ l ↔ x ∈ m) : l = m := by
  have hp : l.Perm m := (List.perm_ext_iff_of_nodup (hl.imp fun {a b} hab e => by omega) (hm.imp fun {a b} hab e => by omega)).2 h
  exact sorted_one (lt := fun a b => decide (a < b)) hp (fun x _ y _ hxy => by simp at hxy ⊢; omega) (hl.imp fun {a b} hab => by simpa using hab) (hm.imp fun {a b} hab => by simpa using hab)
/-- what the program's Under sorts is the reference's Under -/
theorem under_eq {d : Dc} (h : LightD d) {id : Int} {a : Note} (ha : getF d.notes id = some a) (f : Nat) (hf : d.tiers.length ≤ f) {l : List Int} (hl : l.Pairwise (· < ·)) (hm : ∀ x, x ∈ l ↔ x ∈ dfsN d.notes f id) : l = underR d id := by
  obtain ⟨k, hk, _⟩ := note_lt h (get_some ha).1
  exact rise_one hl (under_rise h id) fun x => by rw [hm, dfs_mem h f id a k ha hk (by omega), under_mem h]
theorem under_none {d : Dc} (h : LightD d) {id : Int} (ha : getF d.notes id = none) : underR d id = [] := by
  refine List.eq_nil_iff_forall_not_mem.2 fun x hx => ?_
  obtain ⟨n, _, _, m, hm, hmid⟩ := (under_mem h id x).1 hx
  have hmn := chain_id _ m hm
  have := get_mem (ids_rise h) hmn
  rw [hmid, ha] at this; cases this
/-- Where: the first note of the chain whose tier is aligned -/
def alignedB (d : Dc) (k : Int) : Bool := match d.tiers[k.toNat]? with
  | some t => decide (0 ≤ k) && timedB t.kind
  | none => false
def whereF (d : Dc) (id : Int) : Option Note := (chainF d id).find? fun n => alignedB d n.tier
end Go.Proofs.YtnifmbbpfdghmaaGreatDoor
namespace Go.Proofs.YtnifmbbpfdghmaaGreatDoor
open Go.RowKit Go.En
theorem aligned_at {d : Dc} {k : Nat} {t : Tier} (ht : d.tiers[k]? = some t) : alignedB d (k : Int) = timedB t.kind := by
  unfold alignedB
  rw [Int.toNat_natCast, ht]
  simp
/-- an aligned note: its span is right, within the recording, and within that of every note above it, which is aligned too -/
theorem aligned_up {d : Dc} (h : LightD d) : ∀ (k : Nat) (n : Note), n ∈ d.notes → n.tier = (k : Int) → alignedB d n.tier = true →
    (0 ≤ n.frm ∧ n.frm < n.til ∧ n.til ≤ d.len) ∧ ∀ m ∈ chainF d n.id, alignedB d m.tier = true ∧ m.frm ≤ n.frm ∧ n.til ≤ m.til := by
  intro k
  induction k using Nat.strongRecOn with
  | _ k ih =>
    intro n hn hk ha
    obtain ⟨k', t, h1, ht, px, tk, _⟩ := note_tier h hn
    have hkk : k' = k := by omega
    subst hkk
    have htm : timedB t.kind = true := by rw [hk, aligned_at ht] at ha; exact ha
    have hr := px.on htm
    unfold rightB at hr
    simp only [Bool.and_eq_true, decide_eq_true_eq] at hr
    by_cases h0 : t.kind = 0
    · have hlen := px.len h0
      refine ⟨by omega, fun m hm => ?_⟩
      rw [chain_cons h hn] at hm
      rcases List.mem_cons.1 hm with rfl | hm
      · exact ⟨ha, Int.le_refl _, Int.le_refl _⟩
      · rcases step_up h hn hk with hg | ⟨p, j, gp, mp, ip, tp, hj⟩
        · rw [chain_none hg] at hm; simp at hm
        · exfalso
          have hp0 := px.root h0
          obtain ⟨i, hi⟩ := List.getElem?_of_mem mp
          have := (h.notes i p hi).id
          omega
    · have hk12 : t.kind = 1 ∨ t.kind = 2 := by
        have := timed_iff.1 htm; omega
      obtain ⟨u, hu, hut⟩ := tk.tim hk12
      obtain ⟨p, gp, tp⟩ := px.par h0
      obtain ⟨mp, ip⟩ := get_some gp
      have hpar := tk.par h0
      have hin := px.inn hk12 p gp
      have tp2 : p.tier = ((t.parent.toNat : Nat) : Int) := by omega
      have hpa : alignedB d p.tier = true := by rw [tp2, aligned_at hu]; exact hut
      obtain ⟨e1, e2⟩ := ih t.parent.toNat (by omega) p mp tp2 hpa
      refine ⟨by omega, fun m hm => ?_⟩
      rw [chain_cons h hn, ← ip] at hm
      rcases List.mem_cons.1 hm with rfl | hm
      · exact ⟨ha, Int.le_refl _, Int.le_refl _⟩
      · obtain ⟨f1, f2, f3⟩ := e2 m hm
        exact ⟨f1, by omega, by omega⟩
theorem where_pos {d : Dc} (h : LightD d) {n : Note} (hn : n ∈ d.notes) (ha : alignedB d n.tier = true) : whereF d n.id = some n := by
  unfold whereF
  rw [chain_cons h hn]
  exact List.find?_cons_of_pos (p := fun n : Note => alignedB d n.tier) ha
theorem where_neg {d : Dc} (h : LightD d) {n : Note} (hn : n ∈ d.notes) (ha : alignedB d n.tier = false) : whereF d n.id = whereF d n.parent := by
  unfold whereF
  rw [chain_cons h hn]
  exact List.find?_cons_of_neg (p := fun n : Note => alignedB d n.tier) (by simp [ha])
/-- every note leads to a time -/
theorem where_some {d : Dc} (h : LightD d) : ∀ (k : Nat) (n : Note), n ∈ d.notes → n.tier = (k : Int) → ∃ m, whereF d n.id = some m ∧ m ∈ chainF d n.id ∧ alignedB d m.tier = true := by
  intro k
  induction k using Nat.strongRecOn with
  | _ k ih =>
    intro n hn hk
    obtain ⟨k', t, h1, ht, px, tk, _⟩ := note_tier h hn
    have hkk : k' = k := by omega
    subst hkk
    cases ha : alignedB d n.tier with
    | true => exact ⟨n, where_pos h hn ha, by rw [chain_cons h hn]; exact List.mem_cons_self .., ha⟩
    | false =>
      have h0 : t.kind ≠ 0 := fun h0 => by
        rw [hk, aligned_at ht, h0] at ha; cases ha
      obtain ⟨p, gp, tp⟩ := px.par h0
      obtain ⟨mp, ip⟩ := get_some gp
      have hpar := tk.par h0
      obtain ⟨m, e1, e2, e3⟩ := ih t.parent.toNat (by omega) p mp (by omega)
      exact ⟨m, by rw [where_neg h hn ha, ← ip]; exact e1, by rw [chain_cons h hn, ← ip]; exact List.mem_cons_of_mem _ e2, e3⟩
theorem where_none {d : Dc} {id : Int} (hg : getF d.notes id = none) : whereF d id = none := by unfold whereF; rw [chain_none hg]; rfl
/-- where a note of the chain is: around the note -/
theorem where_chain {d : Dc} (h : LightD d) : ∀ (k : Nat) (n : Note), n ∈ d.notes → n.tier = (k : Int) → ∀ m ∈ chainF d n.id, ∃ s u, whereF d n.id = some s ∧ whereF d m.id = some u ∧ u.frm ≤ s.frm ∧ s.til ≤ u.til := by
  intro k
  induction k using Nat.strongRecOn with
  | _ k ih =>
    intro n hn hk m hm
    obtain ⟨s, hs, hsc, hsa⟩ := where_some h k n hn hk
    rw [chain_cons h hn] at hm
    rcases List.mem_cons.1 hm with rfl | hm
    · exact ⟨s, s, hs, hs, Int.le_refl _, Int.le_refl _⟩
    · cases ha : alignedB d n.tier with
      | true =>
        have hsn : s = n := by
          rw [where_pos h hn ha] at hs
          exact (Option.some.inj hs).symm
        subst hsn
        have hm2 : m ∈ chainF d s.id := by rw [chain_cons h hn]; exact List.mem_cons_of_mem _ hm
        obtain ⟨e1, e2, e3⟩ := (aligned_up h k s hn hk ha).2 m hm2
        have hmn := chain_id _ m hm
        exact ⟨s, m, hs, where_pos h hmn e1, e2, e3⟩
      | false =>
        rcases step_up h hn hk with hg | ⟨p, j, gp, mp, ip, tp, hj⟩
        · rw [chain_none hg] at hm; simp at hm
        · rw [← ip] at hm
          obtain ⟨s', u, e1, e2, e3, e4⟩ := ih j hj p mp tp m hm
          have : whereF d n.id = whereF d p.id := by rw [where_neg h hn ha, ip]
          exact ⟨s', u, by rw [this]; exact e1, e2, e3, e4⟩
/-! ### the next note -/
/-- the element behind one with an Id -/
def behind (l : List Note) (id : Int) : Option Note := match l with
  | a :: b :: r => if a.id = id then some b else behind (b :: r) id
  | _ => none
/-- the program's Next, the reference's Next -/
def nextF (d : Dc) (id : Int) : Int := match getF d.notes id with
  | none => 0
  | some n => match behind (kidsN d n.parent n.tier) id with | some m => m.id | none => 0
def nextR (d : Dc) (id : Int) : Int := match getF d.notes id with
  | none => 0
  | some n => match behind (ofR d n.tier) id with | some m => if m.parent = n.parent then m.id else 0 | none => 0
theorem behind_app {a b : Note} {s t : List Note} (hs : ∀ x ∈ s ++ [a], x.id ≠ b.id → True) (h : ∀ x ∈ s, x.id ≠ a.id) : behind (s ++ a :: b :: t) a.id = some b := by
  induction s with
  | nil => simp [behind]
  | cons y s ih =>
    cases s with
    | nil =>
      have := h y (List.mem_cons_self ..)
      simp [behind, this]
    | cons z s =>
      have := h y (List.mem_cons_self ..)
      simp only [List.cons_append, behind]
      rw [if_neg this]
      exact ih (fun _ _ _ => trivial) (fun x hx => h x (List.mem_cons_of_mem _ hx))
theorem behind_last {a : Note} {s : List Note} (h : ∀ x ∈ s, x.id ≠ a.id) : behind (s ++ [a]) a.id = none := by
  induction s with
  | nil => rfl
  | cons y s ih =>
    have hy := h y (List.mem_cons_self ..)
    cases s with
    | nil => simp [behind, hy]
    | cons z s =>
      simp only [List.cons_append, behind]
      rw [if_neg hy]
      exact ih (fun x hx => h x (List.mem_cons_of_mem _ hx))
/-- the kids of a parent stand one behind the other in the order of the tier -/
theorem contig {d : Dc} (h : LightD d) {k : Nat} {x y z : Note} (hx : x ∈ ofTier d k) (hy : y ∈ ofTier d k) (hz : z ∈ ofTier d k) (h1 : befF d (k + 1) x z = true) (h2 : befF d (k + 1) z y = true) (hp : x.parent = y.parent) : z.parent = x.parent := by
  apply Classical.byContradiction
  intro hne
  obtain ⟨hx1, hxk⟩ := of_mem.1 hx
  obtain ⟨hy1, hyk⟩ := of_mem.1 hy
  obtain ⟨hz1, hzk⟩ := of_mem.1 hz
  obtain ⟨k', t, e1, ht, _⟩ := note_tier h hx1
  have hkk : k' = k := by omega
  subst hkk
  have h0 : t.kind ≠ 0 := fun h0 => hne (by rw [(note_at h hz1 hzk ht).1.root h0, (note_at h hx1 hxk ht).1.root h0])
  obtain ⟨j, u, p, _, hj, _, gp, mp, ip, tp⟩ := parent_of h ht hx1 hxk h0
  obtain ⟨j', u', q, _, _, _, gq, mq, iq, tq⟩ := parent_of h ht hz1 hzk h0
  have gp2 : getF d.notes y.parent = some p := by rw [← hp]; exact gp
  rw [bef_diff gp gq (fun e => hne e.symm)] at h1
  rw [bef_diff gq gp2 (fun e => hne (by rw [e, hp]))] at h2
  have hjj : j' = j := by
    obtain ⟨_, _⟩ := note_at h hx1 hxk ht
    omega
  subst hjj
  rw [bef_fuel h j' k' (j' + 1) hj (by omega) p mp q mq tp tq] at h1
  rw [bef_fuel h j' k' (j' + 1) hj (by omega) q mq p mp tq tp] at h2
  have := (bef_strict h j').asymm p (of_mem.2 ⟨mp, tp⟩) q (of_mem.2 ⟨mq, tq⟩) h1
  rw [this] at h2; cases h2
/-- the kids are those of the tier's order that have the parent -/
theorem kids_of {d : Dc} (h : LightD d) {k : Nat} {t : Tier} (ht : d.tiers[k]? = some t) (p : Int) : kidsN d p (k : Int) = (ofR d (k : Int)).filter fun n => decide (n.parent = p) := by
  rw [kids_eq h ht]
  have hS := (bef_strict h k).sub fun x (hx : x ∈ sibs d.notes (k : Int) p) => sibs_of hx
  refine insSort_eq (sibs_nodup h _ _) hS (perm_of (List.Pairwise.filter _ (pairwise_nodup (bef_strict h k) (fun x hx => of_mem.2 (ofR_mem.1 hx)) (ofR_sorted h k))) (sibs_nodup h _ _) fun x => ?_) ((ofR_sorted h k).filter _)
  rw [List.mem_filter, ofR_mem, sibs_mem]
  simp [and_assoc]
end Go.Proofs.YtnifmbbpfdghmaaGreatDoor
namespace Go.Proofs.YtnifmbbpfdghmaaGreatDoor
open Go.RowKit Go.En
theorem ofR_nodup {d : Dc} (h : LightD d) (k : Nat) : (ofR d (k : Int)).Nodup := pairwise_nodup (bef_strict h k) (fun x hx => of_mem.2 (ofR_mem.1 hx)) (ofR_sorted h k)
/-- a note of a tier's order, and the one behind it -/
theorem next_split {d : Dc} (h : LightD d) {n : Note} {k : Nat} {t : Tier} (hn : n ∈ d.notes) (hk : n.tier = (k : Int)) (ht : d.tiers[k]? = some t) :
    ∃ s r, ofR d (k : Int) = s ++ n :: r ∧ (∀ x ∈ s, x.id ≠ n.id) ∧
      ((r = [] ∧ kidsN d n.parent (k : Int) = s.filter (fun m => decide (m.parent = n.parent)) ++ [n]) ∨
       ∃ w r', r = w :: r' ∧ befF d (k + 1) n w = true ∧ w ∈ d.notes ∧ w.tier = (k : Int) ∧
        ((w.parent = n.parent ∧ kidsN d n.parent (k : Int) = s.filter (fun m => decide (m.parent = n.parent)) ++ n :: w :: r'.filter (fun m => decide (m.parent = n.parent))) ∨
         (w.parent ≠ n.parent ∧ kidsN d n.parent (k : Int) = s.filter (fun m => decide (m.parent = n.parent)) ++ [n]))) := by
  obtain ⟨s, r, hsr⟩ := List.append_of_mem (ofR_mem.2 ⟨hn, hk⟩ : n ∈ ofR d (k : Int))
  have hnd := ofR_nodup h k
  have hso := ofR_sorted h k
  have hmem : ∀ x ∈ ofR d (k : Int), x ∈ d.notes ∧ x.tier = (k : Int) := fun x hx => ofR_mem.1 hx
  have hkid := kids_of h ht n.parent
  rw [hsr] at hnd hso hmem hkid
  rw [List.nodup_append] at hnd
  rw [List.pairwise_append] at hso
  refine ⟨s, r, hsr, fun x hx e => ?_, ?_⟩
  · have hx1 := (hmem x (by simp [hx])).1
    exact hnd.2.2 x hx n (List.mem_cons_self ..) (ids_inj (ids_rise h) hx1 hn e)
  · rw [List.filter_append, List.filter_cons_of_pos (by simp)] at hkid
    cases r with
    | nil => exact .inl ⟨rfl, by rw [hkid]; rfl⟩
    | cons w r' =>
      have h2 := List.pairwise_cons.1 hso.2.1
      have h3 := List.pairwise_cons.1 h2.2
      have hw := hmem w (by simp)
      have hnw := h2.1 w (List.mem_cons_self ..)
      refine .inr ⟨w, r', rfl, hnw, hw.1, hw.2, ?_⟩
      by_cases hp : w.parent = n.parent
      · exact .inl ⟨hp, by rw [hkid, List.filter_cons_of_pos (by simp [hp])]⟩
      · refine .inr ⟨hp, ?_⟩
        have hr0 : r'.filter (fun m => decide (m.parent = n.parent)) = [] := List.filter_eq_nil_iff.2 fun z hz hzp => by
          simp only [decide_eq_true_eq] at hzp
          have hz1 := hmem z (by simp [hz])
          exact hp (contig h (of_mem.2 ⟨hn, hk⟩) (of_mem.2 hz1) (of_mem.2 hw) hnw (h3.1 z hz) hzp.symm)
        rw [hkid, List.filter_cons_of_neg (by simp [hp]), hr0]
theorem next_eq {d : Dc} (h : LightD d) (id : Int) : nextF d id = nextR d id := by
  unfold nextF nextR
  cases hg : getF d.notes id with
  | none => rfl
  | some n =>
    dsimp only
    obtain ⟨hn, hid⟩ := get_some hg
    obtain ⟨k, t, hk, ht, _⟩ := note_tier h hn
    obtain ⟨s, r, hsr, hs, hc⟩ := next_split h hn hk ht
    have hsf : ∀ x ∈ s.filter (fun m => decide (m.parent = n.parent)), x.id ≠ n.id := fun x hx => hs x (List.mem_filter.1 hx).1
    rw [hk, hsr, ← hid]
    rcases hc with ⟨rfl, e⟩ | ⟨w, r', rfl, _, hw, hwk, hc⟩
    · rw [e, behind_last hs, behind_last hsf]
    · rw [behind_app (fun _ _ _ => trivial) hs]
      rcases hc with ⟨hp, e⟩ | ⟨hp, e⟩
      · rw [e, behind_app (fun _ _ _ => trivial) hsf]
        simp [hp]
      · rw [e, behind_last hsf]
        simp [hp]
/-- the order of all notes -/
def orderF (d : Dc) : List Note := (List.range d.tiers.length).flatMap fun k => ofR d ((k : Nat) : Int)
theorem next_of {d : Dc} (h : LightD d) {a : Note} (ha : a ∈ d.notes) {k : Int} (hk : a.tier = k) : (∀ m, behind (kidsN d a.parent k) a.id = some m → nextF d a.id = m.id) ∧ (behind (kidsN d a.parent k) a.id = none → nextF d a.id = 0) := by
  subst hk
  unfold nextF
  rw [get_mem (ids_rise h) ha]
  exact ⟨fun m hm => by dsimp only; rw [hm], fun hm => by dsimp only; rw [hm]⟩
/-- Next leads to the one behind in the order, with the same parent, behind it in time -/
theorem next_order {d : Dc} (h : LightD d) {a : Note} (ha : a ∈ d.notes) (hne : nextF d a.id ≠ 0) : ∃ s b r, orderF d = s ++ a :: b :: r ∧ b ∈ d.notes ∧ nextF d a.id = b.id ∧ a.tier = b.tier ∧ a.parent = b.parent ∧ (alignedB d a.tier = true → a.til ≤ b.frm) := by
  obtain ⟨k, t, hk, ht, px, tk, sx⟩ := note_tier h ha
  obtain ⟨s, r, hsr, hs, hc⟩ := next_split h ha hk ht
  have hsf : ∀ x ∈ s.filter (fun m => decide (m.parent = a.parent)), x.id ≠ a.id := fun x hx => hs x (List.mem_filter.1 hx).1
  obtain ⟨nx1, nx2⟩ := next_of h ha hk
  rcases hc with ⟨rfl, e⟩ | ⟨w, r', rfl, hb, hw, hwk, hc⟩
  · exact absurd (nx2 (by rw [e, behind_last hsf])) hne
  · rcases hc with ⟨hp, e⟩ | ⟨hp, e⟩
    · have hnx := nx1 w (by rw [e, behind_app (fun _ _ _ => trivial) hsf])
      have hkr : k ∈ List.range d.tiers.length := List.mem_range.2 (tier_lt ht)
      obtain ⟨s1, s2, hr⟩ := List.append_of_mem hkr
      refine ⟨s1.flatMap (fun k => ofR d ((k : Nat) : Int)) ++ s, w, r' ++ s2.flatMap (fun k => ofR d ((k : Nat) : Int)), ?_, hw, hnx, by omega, hp.symm, fun hal => ?_⟩
      · unfold orderF
        rw [hr, List.flatMap_append, List.flatMap_cons, hsr]
        simp
      · have htm : timedB t.kind = true := by rw [hk, aligned_at ht] at hal; exact hal
        rw [bef_same ht hk hp.symm, if_pos htm] at hb
        simp only [decide_eq_true_eq] at hb
        obtain ⟨pw, _, _⟩ := note_at h hw hwk ht
        have ra := px.on htm
        have rw' := pw.on htm
        unfold rightB at ra rw'
        simp only [Bool.and_eq_true, decide_eq_true_eq] at ra rw'
        have ma : a ∈ sibs d.notes (k : Int) a.parent := sibs_mem.2 ⟨ha, hk, rfl⟩
        have mw : w ∈ sibs d.notes (k : Int) a.parent := sibs_mem.2 ⟨hw, hwk, hp⟩
        obtain ⟨i, hi⟩ := List.getElem?_of_mem ma
        obtain ⟨j, hj⟩ := List.getElem?_of_mem mw
        rcases Nat.lt_trichotomy i j with hlt | heq | hlt
        · have := sx.apart htm j i w a hlt hj hi
          omega
        · subst heq; rw [hi] at hj; cases hj; omega
        · have := sx.apart htm i j a w hlt hi hj
          omega
    · exact absurd (nx2 (by rw [e, behind_last hsf])) hne
end Go.Proofs.YtnifmbbpfdghmaaGreatDoor
namespace Go.Proofs.YtnifmbbpfdghmaaGreatDoor
open Go.RowKit Go.En
/-- the time of a note meets a span; zero where there is none -/
def spanF (d : Dc) (id : Int) : Int × Int := match whereF d id with | some n => (n.frm, n.til) | none => (0, 0)
/-- a note is under another one exactly if the other one comes after it in its chain -/
theorem under_chain {d : Dc} (h : LightD d) {n : Note} (hn : n ∈ d.notes) (y : Int) : n.id ∈ underR d y ↔ n.id ≠ y ∧ y ∈ (chainF d n.id).map (·.id) := by
  rw [under_mem h, chain_cons h hn]
  simp only [List.map_cons, List.mem_cons, List.mem_map]
  constructor
  · rintro ⟨m, hm, he, c, hc, hcy⟩
    have hmn : m = n := ids_inj (ids_rise h) hm hn he
    subst hmn
    refine ⟨fun e => ?_, .inr ⟨c, hc, hcy⟩⟩
    obtain ⟨k, hk, _⟩ := note_lt h hn
    have h1 := (chain_up h k m hn hk).2 c hc
    have : c = m := ids_inj (ids_rise h) (chain_id _ c hc) hn (hcy.trans e.symm)
    subst this; omega
  · rintro ⟨hne, hy | ⟨c, hc, hcy⟩⟩
    · exact absurd hy.symm hne
    · exact ⟨n, hn, rfl, c, hc, hcy⟩
end Go.Proofs.YtnifmbbpfdghmaaGreatDoor
namespace Go.Proofs.YtnifmbbpfdghmaaGreatDoor
open Go.RowKit Go.En
theorem chain_lin {d : Dc} (h : LightD d) : ∀ (k : Nat) (n : Note), n ∈ d.notes → n.tier = (k : Int) → ∀ a ∈ chainF d n.id, ∀ b ∈ chainF d n.id, a = b ∨ a ∈ chainF d b.parent ∨ b ∈ chainF d a.parent := by
  intro k
  induction k using Nat.strongRecOn with
  | _ k ih =>
    intro n hn hk a ha b hb
    rw [chain_cons h hn] at ha hb
    rcases List.mem_cons.1 ha with rfl | ha'
    · rcases List.mem_cons.1 hb with rfl | hb'
      · exact .inl rfl
      · exact .inr (.inr hb')
    · rcases List.mem_cons.1 hb with rfl | hb'
      · exact .inr (.inl ha')
      · rcases step_up h hn hk with h0 | ⟨p, j, gp, mp, ip, tp, hj⟩
        · rw [chain_none h0] at ha'; simp at ha'
        · rw [← ip] at ha' hb'
          exact ih j hj p mp tp a ha' b hb'
theorem child_up {d : Dc} (h : LightD d) {id : Int} {a c : Note} {k : Nat} (ha : getF d.notes id = some a) (hk : a.tier = (k : Int)) (hc : c ∈ d.notes) (hp : c.parent = id) : ∃ kc : Nat, c.tier = (kc : Int) ∧ k < kc := by
  obtain ⟨kc, hkc, _⟩ := note_lt h hc
  refine ⟨kc, hkc, ?_⟩
  rcases step_up h hc hkc with h0 | ⟨p, j, gp, mp, ip, tp, hj⟩
  · rw [hp, ha] at h0; cases h0
  · rw [hp, ha] at gp; cases gp
    omega
theorem below_chain {d : Dc} (h : LightD d) {f : Nat} {c : Note} {kc : Nat} (hc : c ∈ d.notes) (hk : c.tier = (kc : Int)) (hf : d.tiers.length ≤ f + kc) {x : Int} (hx : x ∈ c.id :: dfsN d.notes f c.id) : ∃ n ∈ d.notes, n.id = x ∧ c ∈ chainF d n.id := by
  rcases List.mem_cons.1 hx with rfl | hx
  · exact ⟨c, hc, rfl, by rw [chain_cons h hc]; exact List.mem_cons_self ..⟩
  · obtain ⟨n, hn, hnx, m, hm, hmc⟩ := (dfs_mem h f c.id c kc (get_mem (ids_rise h) hc) hk hf x).1 hx
    have : m = c := ids_inj (ids_rise h) (chain_id _ m hm) hc hmc
    subst this
    exact ⟨n, hn, hnx, by rw [chain_cons h hn]; exact List.mem_cons_of_mem _ hm⟩
theorem dfs_nodup {d : Dc} (h : LightD d) : ∀ (f : Nat) (id : Int) (a : Note) (k : Nat), getF d.notes id = some a → a.tier = (k : Int) → d.tiers.length ≤ f + k → (dfsN d.notes f id).Nodup := by
  intro f
  induction f with
  | zero => intro id a k ha hk hf; exact List.nodup_nil
  | succ f ih =>
    intro id a k ha hk hf
    obtain ⟨ham, hai⟩ := get_some ha
    unfold dfsN List.Nodup
    rw [List.pairwise_flatMap]
    constructor
    · intro c hc
      obtain ⟨hcm, hcp⟩ := List.mem_filter.1 hc
      have hcp' : c.parent = id := by simpa using hcp
      obtain ⟨kc, hkc, hlt⟩ := child_up h ha hk hcm hcp'
      refine List.Pairwise.cons (fun x hx e => ?_) (ih c.id c kc (get_mem (ids_rise h) hcm) hkc (by omega))
      obtain ⟨n, hn, hnx, m, hm, hmc⟩ := (dfs_mem h f c.id c kc (get_mem (ids_rise h) hcm) hkc (by omega) x).1 hx
      have e1 : n = c := ids_inj (ids_rise h) hn hcm (hnx.trans e.symm)
      subst e1
      have e2 : m = n := ids_inj (ids_rise h) (chain_id _ m hm) hn hmc
      subst e2
      have := (chain_up h kc m hn hkc).2 m hm
      omega
    · refine List.Pairwise.imp_of_mem (fun {c1 c2} h1 h2 hne => ?_) ((notes_nodup h).filter _)
      intro x hx y hy e
      subst e
      obtain ⟨hm1, hp1⟩ := List.mem_filter.1 h1
      obtain ⟨hm2, hp2⟩ := List.mem_filter.1 h2
      have hp1' : c1.parent = id := by simpa using hp1
      have hp2' : c2.parent = id := by simpa using hp2
      obtain ⟨k1, hk1, hl1⟩ := child_up h ha hk hm1 hp1'
      obtain ⟨k2, hk2, hl2⟩ := child_up h ha hk hm2 hp2'
      obtain ⟨n, hn, hnx, hc1⟩ := below_chain h hm1 hk1 (by omega) hx
      obtain ⟨n', hn', hnx', hc2⟩ := below_chain h hm2 hk2 (by omega) hy
      have : n' = n := ids_inj (ids_rise h) hn' hn (hnx'.trans hnx.symm)
      subst this
      obtain ⟨kn, hkn, _⟩ := note_lt h hn
      have hup := (chain_up h k a ham hk).1
      rcases chain_lin h kn n' hn hkn c1 hc1 c2 hc2 with e | e | e
      · exact hne e
      · rw [hp2', ← hai] at e
        have := (hup c1 e).2
        omega
      · rw [hp1', ← hai] at e
        have := (hup c2 e).2
        omega
theorem dfs_len {d : Dc} (h : LightD d) (f : Nat) (id : Int) (a : Note) (k : Nat) (ha : getF d.notes id = some a) (hk : a.tier = (k : Int)) (hf : d.tiers.length ≤ f + k) : (dfsN d.notes f id).length ≤ 14 := by
  have hp : (dfsN d.notes f id).Perm (underR d id) := (List.perm_ext_iff_of_nodup (dfs_nodup h f id a k ha hk hf) ((under_rise h id).imp fun {a b} hab e => by omega)).2 fun x => by rw [dfs_mem h f id a k ha hk hf, under_mem h]
  rw [hp.length_eq]
  unfold underR
  rw [List.length_map]
  exact Nat.le_trans (List.length_filter_le _ _) h.nnotes
theorem under_sort {d : Dc} (h : LightD d) {id : Int} {a : Note} {k : Nat} (ha : getF d.notes id = some a) (hk : a.tier = (k : Int)) (f : Nat) (hf : d.tiers.length ≤ f) : (dfsN d.notes f id).mergeSort (fun x y => decide (x ≤ y)) = underR d id := by
  have hp := List.mergeSort_perm (dfsN d.notes f id) (fun x y => decide (x ≤ y))
  have hnd := hp.nodup_iff.2 (dfs_nodup h f id a k ha hk (by omega))
  refine under_eq h ha f hf ?_ (fun x => hp.mem_iff)
  have hs := List.pairwise_mergeSort (le := fun x y : Int => decide (x ≤ y)) (fun a b c h1 h2 => by simp at h1 h2 ⊢; omega) (fun a b => by simp; omega) (dfsN d.notes f id)
  exact List.Pairwise.imp (fun {x y} hxy => by have := hxy.1; have := hxy.2; simp at *; omega) (hs.and hnd)
end Go.Proofs.YtnifmbbpfdghmaaGreatDoor
namespace Go.Proofs.YtnifmbbpfdghmaaGreatDoor
open Go.RowKit Go.En
def exT : List Tier := [⟨[116, 101, 120, 116], 0, 1, -1⟩, ⟨[119, 111, 114, 100], 2, 2, 0⟩, ⟨[109, 111, 114, 112, 104], 3, 3, 1⟩, ⟨[103, 108, 111, 115, 115], 4, 4, 2⟩, ⟨[102, 114, 101, 101], 4, 5, 0⟩]
def exN : List Note := [⟨1, 0, 0, 0, 900, 0, [98, 97, 32, 109, 105]⟩, ⟨2, 1, 1, 400, 900, 0, [109, 105]⟩, ⟨3, 1, 1, 0, 300, 0, [98, 97]⟩, ⟨4, 2, 3, 0, 0, 0, [98, 97]⟩, ⟨5, 3, 4, 0, 0, 0, [100, 111, 103]⟩]
def exD : Dc := ⟨1, [], 1000, 0, [], exT, exN⟩
theorem ex_tier {k : Nat} {t : Tier} (h : exD.tiers[k]? = some t) : (k = 0 ∧ t = ⟨[116, 101, 120, 116], 0, 1, -1⟩) ∨ (k = 1 ∧ t = ⟨[119, 111, 114, 100], 2, 2, 0⟩) ∨ (k = 2 ∧ t = ⟨[109, 111, 114, 112, 104], 3, 3, 1⟩) ∨ (k = 3 ∧ t = ⟨[103, 108, 111, 115, 115], 4, 4, 2⟩) ∨ (k = 4 ∧ t = ⟨[102, 114, 101, 101], 4, 5, 0⟩) := by
  rcases k with _ | _ | _ | _ | _ | k
  · exact .inl ⟨rfl, (Option.some.inj h).symm⟩
  · exact .inr (.inl ⟨rfl, (Option.some.inj h).symm⟩)
  · exact .inr (.inr (.inl ⟨rfl, (Option.some.inj h).symm⟩))
  · exact .inr (.inr (.inr (.inl ⟨rfl, (Option.some.inj h).symm⟩)))
  · exact .inr (.inr (.inr (.inr ⟨rfl, (Option.some.inj h).symm⟩)))
  · cases h
theorem ex_note {k : Nat} {n : Note} (h : exD.notes[k]? = some n) : (k = 0 ∧ n = ⟨1, 0, 0, 0, 900, 0, [98, 97, 32, 109, 105]⟩) ∨ (k = 1 ∧ n = ⟨2, 1, 1, 400, 900, 0, [109, 105]⟩) ∨ (k = 2 ∧ n = ⟨3, 1, 1, 0, 300, 0, [98, 97]⟩) ∨ (k = 3 ∧ n = ⟨4, 2, 3, 0, 0, 0, [98, 97]⟩) ∨ (k = 4 ∧ n = ⟨5, 3, 4, 0, 0, 0, [100, 111, 103]⟩) := by
  rcases k with _ | _ | _ | _ | _ | k
  · exact .inl ⟨rfl, (Option.some.inj h).symm⟩
  · exact .inr (.inl ⟨rfl, (Option.some.inj h).symm⟩)
  · exact .inr (.inr (.inl ⟨rfl, (Option.some.inj h).symm⟩))
  · exact .inr (.inr (.inr (.inl ⟨rfl, (Option.some.inj h).symm⟩)))
  · exact .inr (.inr (.inr (.inr ⟨rfl, (Option.some.inj h).symm⟩)))
  · cases h
theorem ex_tiers (i : Nat) (t : Tier) (h : exD.tiers[i]? = some t) : TierOK exD.tiers i t := by
  rcases ex_tier h with ⟨rfl, rfl⟩ | ⟨rfl, rfl⟩ | ⟨rfl, rfl⟩ | ⟨rfl, rfl⟩ | ⟨rfl, rfl⟩
  all_goals
    refine ⟨by dsimp only; omega, by dsimp only; omega, fun _ k p hk hp => ?_, by dsimp only; omega, by dsimp only; omega, ?_, by dsimp only; omega, ?_⟩
    · rcases ex_tier hp with ⟨rfl, rfl⟩ | ⟨rfl, rfl⟩ | ⟨rfl, rfl⟩ | ⟨rfl, rfl⟩ | ⟨rfl, rfl⟩ <;> dsimp only <;> omega
    · intro hk
      first
        | (exfalso; dsimp only at hk; omega)
        | exact ⟨_, rfl, rfl⟩
    · refine ⟨fun hk => ?_, fun hk => ?_, fun hk => ?_⟩
      all_goals
        first
          | (exfalso; dsimp only at hk; omega)
          | exact ⟨_, rfl, rfl⟩
          | exact ⟨by dsimp only; omega, _, rfl, rfl⟩
theorem ex_placed (n : Note) (t : Tier) (k : Nat) (hn : n ∈ exD.notes) (hk : n.tier = (k : Int)) (ht : exD.tiers[k]? = some t) : PlacedOK exD n t := by
  obtain ⟨i, hi⟩ := List.getElem?_of_mem hn
  rcases ex_note hi with ⟨rfl, rfl⟩ | ⟨rfl, rfl⟩ | ⟨rfl, rfl⟩ | ⟨rfl, rfl⟩ | ⟨rfl, rfl⟩
  all_goals
    rcases ex_tier ht with ⟨rfl, rfl⟩ | ⟨rfl, rfl⟩ | ⟨rfl, rfl⟩ | ⟨rfl, rfl⟩ | ⟨rfl, rfl⟩
    all_goals first | (exfalso; dsimp only at hk; omega) | skip
  all_goals
    refine ⟨by dsimp only; omega, fun hk0 => ?_, fun hoff => ?_, fun hon => ?_, fun hk0 => ?_, fun hk0 p hp => ?_, ?_⟩
    · first | (exfalso; dsimp only at hk0; omega) | exact ⟨_, rfl, rfl⟩
    · first | (exfalso; cases hoff; done) | exact ⟨rfl, rfl⟩
    · first | (exfalso; cases hon; done) | rfl
    · first | (exfalso; dsimp only at hk0; omega) | (show (_ : Int) ≤ 1000; dsimp only; omega)
    · first | (exfalso; dsimp only at hk0; omega) | (cases hp; exact ⟨by dsimp only; omega, by dsimp only; omega⟩)
    · exact ⟨by dsimp only; omega, fun _ => rfl⟩
theorem ex_notes (i : Nat) (n : Note) (h : exD.notes[i]? = some n) : NoteOK exD i n := by
  have hm := List.mem_of_getElem? h
  refine ⟨?_, fun m h0 hm' => ?_, ?_, ?_⟩
  · rcases ex_note h with ⟨rfl, rfl⟩ | ⟨rfl, rfl⟩ | ⟨rfl, rfl⟩ | ⟨rfl, rfl⟩ | ⟨rfl, rfl⟩ <;> dsimp only <;> omega
  · rcases ex_note h with ⟨rfl, rfl⟩ | ⟨rfl, rfl⟩ | ⟨rfl, rfl⟩ | ⟨rfl, rfl⟩ | ⟨rfl, rfl⟩
    all_goals rcases ex_note hm' with ⟨e, rfl⟩ | ⟨e, rfl⟩ | ⟨e, rfl⟩ | ⟨e, rfl⟩ | ⟨e, rfl⟩ <;> dsimp only <;> omega
  · rcases ex_note h with ⟨rfl, rfl⟩ | ⟨rfl, rfl⟩ | ⟨rfl, rfl⟩ | ⟨rfl, rfl⟩ | ⟨rfl, rfl⟩
    all_goals exact ⟨by decide, _, rfl, by decide⟩
  · rcases ex_note h with ⟨rfl, rfl⟩ | ⟨rfl, rfl⟩ | ⟨rfl, rfl⟩ | ⟨rfl, rfl⟩ | ⟨rfl, rfl⟩
    · exact ⟨_, 0, rfl, rfl, ex_placed _ _ 0 hm rfl rfl⟩
    · exact ⟨_, 1, rfl, rfl, ex_placed _ _ 1 hm rfl rfl⟩
    · exact ⟨_, 1, rfl, rfl, ex_placed _ _ 1 hm rfl rfl⟩
    · exact ⟨_, 2, rfl, rfl, ex_placed _ _ 2 hm rfl rfl⟩
    · exact ⟨_, 3, rfl, rfl, ex_placed _ _ 3 hm rfl rfl⟩
theorem ex_sib (k : Nat) (t : Tier) (h : exD.tiers[k]? = some t) : TierNotes exD k t := by
  intro n hn hk
  obtain ⟨i, hi⟩ := List.getElem?_of_mem hn
  rcases ex_note hi with ⟨rfl, rfl⟩ | ⟨rfl, rfl⟩ | ⟨rfl, rfl⟩ | ⟨rfl, rfl⟩ | ⟨rfl, rfl⟩
  all_goals
    rcases ex_tier h with ⟨rfl, rfl⟩ | ⟨rfl, rfl⟩ | ⟨rfl, rfl⟩ | ⟨rfl, rfl⟩ | ⟨rfl, rfl⟩
    all_goals first | (exfalso; dsimp only at hk; omega) | skip
  · refine ⟨fun _ i k a b hlt ha hb => ?_, fun e => by dsimp only at e; omega, fun e => by dsimp only at e; omega⟩
    have e : sibs exD.notes ((0 : Nat) : Int) 0 = [⟨1, 0, 0, 0, 900, 0, [98, 97, 32, 109, 105]⟩] := rfl
    dsimp only at ha hb
    rw [e] at ha hb
    have := (List.getElem?_eq_some_iff.1 ha).1
    simp at this; omega
  iterate 2
    · refine ⟨fun _ i k a b hlt ha hb => ?_, fun e => by dsimp only at e; omega, fun e => by dsimp only at e; omega⟩
      have e : sibs exD.notes ((1 : Nat) : Int) 1 = [⟨2, 1, 1, 400, 900, 0, [109, 105]⟩, ⟨3, 1, 1, 0, 300, 0, [98, 97]⟩] := rfl
      dsimp only at ha hb
      rw [e] at ha hb
      have h2 := (List.getElem?_eq_some_iff.1 ha).1
      simp at h2
      obtain rfl : i = 1 := by omega
      obtain rfl : k = 0 := by omega
      cases ha; cases hb
      dsimp only; omega
  · refine ⟨fun e => (by cases e), fun _ n hl => ?_, fun e => by dsimp only at e; omega⟩
    have e : sibs exD.notes ((2 : Nat) : Int) 3 = [⟨4, 2, 3, 0, 0, 0, [98, 97]⟩] := rfl
    dsimp only at hl ⊢
    rw [e] at hl ⊢
    simp at hl
    subst hl
    exact ⟨_, List.mem_singleton.2 rfl, rfl⟩
  · refine ⟨fun e => (by cases e), fun e => by dsimp only at e; omega, fun _ => ?_⟩
    have e : sibs exD.notes ((3 : Nat) : Int) 4 = [⟨5, 3, 4, 0, 0, 0, [100, 111, 103]⟩] := rfl
    dsimp only
    rw [e]; exact Nat.le_refl _
theorem ex_light : LightD exD := ⟨by decide, by decide, by decide, ex_tiers, ⟨by decide, by decide⟩, ex_notes, ex_sib⟩
end Go.Proofs.YtnifmbbpfdghmaaGreatDoor
