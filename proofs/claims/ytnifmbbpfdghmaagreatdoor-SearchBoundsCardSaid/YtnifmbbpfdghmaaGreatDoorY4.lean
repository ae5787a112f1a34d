/-
  Sorting by insertion, plainly: what is sorted is one list. Documents, plainly: the notes of a tier stand in one order. Documents, plainly: the program's Of and Kids are the reference's order. Documents, plainly: chains, what lies under a note, where a note is. Documents, plainly: where a note is, the next note, the order of all. Documents, plainly: Next, Order. Documents, plainly: what lies at a time, what is within. Documents, plainly: what lies below a note is found once. Documents, plainly: the chapter's example.
-/
import Derived.Test.YtnifmbbpfdghmaaGreatDoorDa
import Derived.KernelRfl
set_option linter.all false
namespace Go.Proofs.YtnifmbbpfdghmaaGreatDoor
open Go.RowKit Go.En
/-- x goes in from the right, past those it precedes -/
def insR {α : Type} (lt : α → α → Bool) (l : List α) (x : α) : List α :=
  match l with
  | [] => [x]
  | y :: r => if (y :: r).all (fun z => lt x z) then x :: y :: r else y :: insR lt r x
/-- the elements one behind the other -/
def insSort {α : Type} (lt : α → α → Bool) (l : List α) : List α := l.foldl (insR lt) []
section
variable {α : Type} {lt : α → α → Bool}
theorem insR_perm : ∀ (l : List α) (x : α), (insR lt l x).Perm (x :: l)
  | [], x => List.Perm.refl _
  | y :: r, x => by
    unfold insR
    split
    · exact List.Perm.refl _
    · exact ((insR_perm r x).cons y).trans (List.Perm.swap x y r)
theorem insSort_go : ∀ (l acc : List α), (l.foldl (insR lt) acc).Perm (acc ++ l)
  | [], acc => by simp
  | x :: l, acc => by
    rw [List.foldl_cons]
    refine (insSort_go l _).trans ?_
    refine ((insR_perm acc x).append_right l).trans ?_
    rw [List.cons_append]
    exact List.perm_middle.symm
theorem insSort_perm (l : List α) : (insSort lt l).Perm l := by simpa [insSort] using insSort_go (lt := lt) l []
/-- the place from the right: a prefix that ends with one that x does not precede, and those that x precedes -/
theorem insR_at {l p s : List α} {x : α} (hl : l = p ++ s) (hs : ∀ z ∈ s, lt x z = true) (hp : ∀ q z, p = q ++ [z] → lt x z = false) : insR lt l x = p ++ x :: s := by
  subst hl
  induction p with
  | nil =>
    cases s with
    | nil => rfl
    | cons y r =>
      simp only [List.nil_append]
      unfold insR
      rw [if_pos (List.all_eq_true.2 hs)]
  | cons y p ih =>
    rw [List.cons_append]
    unfold insR
    rw [if_neg, ih (fun q z h => hp (y :: q) z (by rw [h, List.cons_append])), List.cons_append]
    intro hall
    obtain ⟨q, z, hqz⟩ : ∃ q z, y :: p = q ++ [z] := ⟨(y :: p).dropLast, (y :: p).getLast (by simp), (List.dropLast_concat_getLast (by simp)).symm⟩
    have h1 := hp q z hqz
    have h2 := List.all_eq_true.1 hall z (by rw [← List.cons_append, hqz]; simp)
    rw [h1] at h2; cases h2
/-- a strict order in which any two of a list stand -/
structure Strict (lt : α → α → Bool) (l : List α) : Prop where
  asymm : ∀ x ∈ l, ∀ y ∈ l, lt x y = true → lt y x = false
  trans : ∀ x ∈ l, ∀ y ∈ l, ∀ z ∈ l, lt x y = true → lt y z = true → lt x z = true
  total : ∀ x ∈ l, ∀ y ∈ l, x ≠ y → lt x y = true ∨ lt y x = true
end
end Go.Proofs.YtnifmbbpfdghmaaGreatDoor
namespace Go.Proofs.YtnifmbbpfdghmaaGreatDoor
open Go.RowKit Go.En
theorem get_some {ns : List Note} {id : Int} {n : Note} (h : getF ns id = some n) : n ∈ ns ∧ n.id = id := by
  unfold getF at h
  exact ⟨List.mem_of_find?_eq_some h, by simpa using List.find?_some h⟩
theorem ids_inj {ns : List Note} (h : ns.Pairwise fun a b => a.id < b.id) {a b : Note} (ha : a ∈ ns) (hb : b ∈ ns) (e : a.id = b.id) : a = b := by
  obtain ⟨i, hi⟩ := List.getElem?_of_mem ha
  obtain ⟨j, hj⟩ := List.getElem?_of_mem hb
  obtain ⟨hi1, rfl⟩ := List.getElem?_eq_some_iff.1 hi
  obtain ⟨hj1, rfl⟩ := List.getElem?_eq_some_iff.1 hj
  have hp := List.pairwise_iff_getElem.1 h
  rcases Nat.lt_trichotomy i j with hlt | heq | hlt
  · have := hp i j hi1 hj1 hlt; omega
  · subst heq; rfl
  · have := hp j i hj1 hi1 hlt; omega
theorem get_mem {ns : List Note} (h : ns.Pairwise fun a b => a.id < b.id) {n : Note} (hn : n ∈ ns) : getF ns n.id = some n := by
  cases hg : getF ns n.id with
  | none =>
    unfold getF at hg
    have := List.find?_eq_none.1 hg n hn
    simp at this
  | some m =>
    obtain ⟨h1, h2⟩ := get_some hg
    rw [ids_inj h h1 hn h2]
theorem ids_rise {d : Dc} (h : LightD d) : d.notes.Pairwise fun a b => a.id < b.id := by
  have step : ∀ (j i : Nat) (hj : j < d.notes.length) (hi : i < d.notes.length), i < j → d.notes[i].id < d.notes[j].id := by
    intro j
    induction j with
    | zero => intro i _ _ h; omega
    | succ j ih =>
      intro i hj hi hij
      have h1 := (h.notes (j + 1) _ (List.getElem?_eq_getElem hj)).inc d.notes[j] (by omega) (by simp [List.getElem?_eq_getElem (show j < d.notes.length by omega)])
      by_cases he : i = j
      · subst he; exact h1
      · have := ih i (by omega) hi (by omega)
        omega
  exact List.pairwise_iff_getElem.2 fun i j hi hj hij => step j i hj hi hij
/-- a note, its tier -/
theorem note_tier {d : Dc} (h : LightD d) {n : Note} (hn : n ∈ d.notes) : ∃ (k : Nat) (t : Tier), n.tier = (k : Int) ∧ d.tiers[k]? = some t ∧ PlacedOK d n t ∧ TierOK d.tiers k t ∧ SibsOK t.kind (sibs d.notes (k : Int) n.parent) := by
  obtain ⟨i, hi⟩ := List.getElem?_of_mem hn
  obtain ⟨t, k, h1, h2, h3⟩ := (h.notes i n hi).placed
  exact ⟨k, t, h1, h2, h3, h.tiers k t h2, h.sib k t h2 n hn h1⟩
theorem note_at {d : Dc} (h : LightD d) {n : Note} {k : Nat} {t : Tier} (hn : n ∈ d.notes) (hk : n.tier = (k : Int)) (ht : d.tiers[k]? = some t) : PlacedOK d n t ∧ TierOK d.tiers k t ∧ SibsOK t.kind (sibs d.notes (k : Int) n.parent) := by
  obtain ⟨k', t', h1, h2, h3, h4, h5⟩ := note_tier h hn
  have hkk : k' = k := by omega
  subst hkk
  rw [ht] at h2; cases h2
  exact ⟨h3, h4, h5⟩
/-- before: the reference's order, k a bound on the depth -/
def befF (d : Dc) : Nat → Note → Note → Bool
  | 0, _, _ => false
  | f + 1, a, b =>
    if a.parent ≠ b.parent then
      (match getF d.notes a.parent, getF d.notes b.parent with
       | some p, some q => befF d f p q
       | _, _ => false)
    else if (match d.tiers[a.tier.toNat]? with | some t => timedB t.kind | none => false) then decide (a.frm < b.frm) else decide (a.rank < b.rank)
def ofTier (d : Dc) (k : Int) : List Note := d.notes.filter fun n => decide (n.tier = k)
theorem of_mem {d : Dc} {k : Int} {n : Note} : n ∈ ofTier d k ↔ n ∈ d.notes ∧ n.tier = k := by simp [ofTier]
/-- the parent of a note below the root tiers -/
theorem parent_of {d : Dc} (h : LightD d) {k : Nat} {t : Tier} {x : Note} (ht : d.tiers[k]? = some t) (hx : x ∈ d.notes) (hxk : x.tier = (k : Int)) (h0 : t.kind ≠ 0) :
    ∃ (j : Nat) (u : Tier) (p : Note), t.parent = (j : Int) ∧ j < k ∧ d.tiers[j]? = some u ∧ getF d.notes x.parent = some p ∧ p ∈ d.notes ∧ p.id = x.parent ∧ p.tier = (j : Int) := by
  obtain ⟨px, tk, _⟩ := note_at h hx hxk ht
  obtain ⟨p, hp, hpt⟩ := px.par h0
  have hr := tk.par h0
  obtain ⟨h1, h2⟩ := get_some hp
  have hk := (List.getElem?_eq_some_iff.1 ht).1
  exact ⟨t.parent.toNat, d.tiers[t.parent.toNat]'(by omega), p, by omega, by omega, List.getElem?_eq_getElem (by omega), hp, h1, h2, by omega⟩
end Go.Proofs.YtnifmbbpfdghmaaGreatDoor
namespace Go.Proofs.YtnifmbbpfdghmaaGreatDoor
open Go.RowKit Go.En
/-- the program's order of siblings -/
def ordB (a b : Note) : Bool := decide (a.parent < b.parent) || (decide (a.parent = b.parent) && (decide (a.frm < b.frm) || (decide (a.frm = b.frm) && decide (a.rank < b.rank))))
def kidsN (d : Dc) (id k : Int) : List Note := if 0 ≤ k ∧ k < d.tiers.length then insSort ordB (sibs d.notes k id) else []
/-- the reference's Of -/
def ofR (d : Dc) (k : Int) : List Note := insSort (befF d (k.toNat + 1)) (ofTier d k)
theorem Strict.sub {α : Type} {lt : α → α → Bool} {l m : List α} (h : Strict lt l) (hs : ∀ x ∈ m, x ∈ l) : Strict lt m :=
  ⟨fun x hx y hy => h.asymm x (hs x hx) y (hs y hy), fun x hx y hy z hz => h.trans x (hs x hx) y (hs y hy) z (hs z hz), fun x hx y hy => h.total x (hs x hx) y (hs y hy)⟩
theorem tier_lt {d : Dc} {k : Nat} {t : Tier} (ht : d.tiers[k]? = some t) : k < d.tiers.length := (List.getElem?_eq_some_iff.1 ht).1
theorem perm_of {α : Type} {l m : List α} (hl : l.Nodup) (hm : m.Nodup) (h : ∀ x, x ∈ l ↔ x ∈ m) : l.Perm m := (List.perm_ext_iff_of_nodup hl hm).2 h
theorem ofR_mem {d : Dc} {k : Int} {n : Note} : n ∈ ofR d k ↔ n ∈ d.notes ∧ n.tier = k := by
  unfold ofR; rw [(insSort_perm _).mem_iff, of_mem]
end Go.Proofs.YtnifmbbpfdghmaaGreatDoor
namespace Go.Proofs.YtnifmbbpfdghmaaGreatDoor
open Go.RowKit Go.En
/-- the notes from an Id upwards, at most f -/
def chainN (ns : List Note) : Nat → Int → List Note
  | 0, _ => []
  | f + 1, id => match getF ns id with
    | none => []
    | some n => n :: chainN ns f n.parent
/-- a step upwards: none, or a tier nearer to the root -/
theorem step_up {d : Dc} (h : LightD d) {n : Note} {k : Nat} (hn : n ∈ d.notes) (hk : n.tier = (k : Int)) : getF d.notes n.parent = none ∨ ∃ p j, getF d.notes n.parent = some p ∧ p ∈ d.notes ∧ p.id = n.parent ∧ p.tier = ((j : Nat) : Int) ∧ j < k := by
  obtain ⟨k', t, h1, ht, px, tk, _⟩ := note_tier h hn
  have hkk : k' = k := by omega
  subst hkk
  by_cases h0 : t.kind = 0
  · refine .inl ?_
    have hp := px.root h0
    cases hg : getF d.notes n.parent with
    | none => rfl
    | some p =>
      obtain ⟨m1, m2⟩ := get_some hg
      obtain ⟨i, hi⟩ := List.getElem?_of_mem m1
      have := (h.notes i p hi).id
      omega
  · obtain ⟨j, u, p, _, hj, _, gp, mp, ip, tp⟩ := parent_of h ht hn h1 h0
    exact .inr ⟨p, j, gp, mp, ip, tp, hj⟩
theorem chain_fuel {d : Dc} (h : LightD d) : ∀ (k f g : Nat) (n : Note), n ∈ d.notes → n.tier = (k : Int) → k < f → k < g → chainN d.notes f n.id = chainN d.notes g n.id := by
  intro k
  induction k using Nat.strongRecOn with
  | _ k ih =>
    intro f g n hn hk hf hg
    obtain ⟨f, rfl⟩ : ∃ f', f = f' + 1 := ⟨f - 1, by omega⟩
    obtain ⟨g, rfl⟩ : ∃ g', g = g' + 1 := ⟨g - 1, by omega⟩
    simp only [chainN, get_mem (ids_rise h) hn]
    congr 1
    rcases step_up h hn hk with h0 | ⟨p, j, gp, mp, ip, tp, hj⟩
    · cases f <;> cases g <;> simp [chainN, h0]
    · rw [← ip]
      exact ih j hj f g p mp tp (by omega) (by omega)
theorem note_lt {d : Dc} (h : LightD d) {n : Note} (hn : n ∈ d.notes) : ∃ k : Nat, n.tier = (k : Int) ∧ k < d.tiers.length := by
  obtain ⟨k, t, h1, ht, _⟩ := note_tier h hn
  exact ⟨k, h1, tier_lt ht⟩
theorem chain_all {d : Dc} (h : LightD d) (id : Int) (f g : Nat) (hf : d.tiers.length ≤ f) (hg : d.tiers.length ≤ g) : chainN d.notes f id = chainN d.notes g id := by
  cases hgt : getF d.notes id with
  | none => cases f <;> cases g <;> simp [chainN, hgt]
  | some n =>
    obtain ⟨hn, hid⟩ := get_some hgt
    obtain ⟨k, hk, hlt⟩ := note_lt h hn
    rw [← hid]
    exact chain_fuel h k f g n hn hk (by omega) (by omega)
/-- the chain of an Id -/
def chainF (d : Dc) (id : Int) : List Note := chainN d.notes (d.tiers.length + 1) id
theorem chain_none {d : Dc} {id : Int} (hg : getF d.notes id = none) : chainF d id = [] := by simp [chainF, chainN, hg]
theorem chain_cons {d : Dc} (h : LightD d) {n : Note} (hn : n ∈ d.notes) : chainF d n.id = n :: chainF d n.parent := by
  show chainN d.notes (d.tiers.length + 1) n.id = _
  simp only [chainN, get_mem (ids_rise h) hn]
  congr 1
  exact chain_all h _ _ _ (Nat.le_refl _) (by omega)
theorem chain_len (ns : List Note) : ∀ (f : Nat) (id : Int), (chainN ns f id).length ≤ f
  | 0, _ => Nat.le_refl _
  | f + 1, id => by
    simp only [chainN]
    cases getF ns id with
    | none => simp
    | some n => have := chain_len ns f n.parent; simp; omega
/-- every note of a chain is a note, above its beginning -/
theorem chain_up {d : Dc} (h : LightD d) : ∀ (k : Nat) (n : Note), n ∈ d.notes → n.tier = (k : Int) → (∀ m ∈ chainF d n.id, m ∈ d.notes ∧ m.tier ≤ n.tier) ∧ (∀ m ∈ chainF d n.parent, m.tier < n.tier) := by
  intro k
  induction k using Nat.strongRecOn with
  | _ k ih =>
    intro n hn hk
    have h2 : ∀ m ∈ chainF d n.parent, m ∈ d.notes ∧ m.tier < n.tier := by
      intro m hm
      rcases step_up h hn hk with h0 | ⟨p, j, gp, mp, ip, tp, hj⟩
      · rw [chain_none h0] at hm; simp at hm
      · rw [← ip] at hm
        obtain ⟨e1, e2⟩ := (ih j hj p mp tp).1 m hm
        exact ⟨e1, by omega⟩
    refine ⟨fun m hm => ?_, fun m hm => (h2 m hm).2⟩
    rw [chain_cons h hn] at hm
    rcases List.mem_cons.1 hm with rfl | hm
    · exact ⟨hn, Int.le_refl _⟩
    · obtain ⟨e1, e2⟩ := h2 m hm
      exact ⟨e1, by omega⟩
theorem chain_id {d : Dc} {id : Int} : ∀ (f : Nat) (m : Note), m ∈ chainN d.notes f id → m ∈ d.notes
  | 0, _, h => by simp [chainN] at h
  | f + 1, m, h => by
    simp only [chainN] at h
    cases hg : getF d.notes id with
    | none => rw [hg] at h; simp at h
    | some n =>
      rw [hg] at h
      rcases List.mem_cons.1 h with rfl | h
      · exact (get_some hg).1
      · exact chain_id f m h
/-- Where: the first note of the chain whose tier is aligned -/
def alignedB (d : Dc) (k : Int) : Bool := match d.tiers[k.toNat]? with
  | some t => decide (0 ≤ k) && timedB t.kind
  | none => false
def whereF (d : Dc) (id : Int) : Option Note := (chainF d id).find? fun n => alignedB d n.tier
end Go.Proofs.YtnifmbbpfdghmaaGreatDoor
namespace Go.Proofs.YtnifmbbpfdghmaaGreatDoor
open Go.RowKit Go.En
theorem aligned_at {d : Dc} {k : Nat} {t : Tier} (ht : d.tiers[k]? = some t) : alignedB d (k : Int) = timedB t.kind := by
  unfold alignedB
  rw [Int.toNat_natCast, ht]
  simp
theorem where_pos {d : Dc} (h : LightD d) {n : Note} (hn : n ∈ d.notes) (ha : alignedB d n.tier = true) : whereF d n.id = some n := by
  unfold whereF
  rw [chain_cons h hn]
  exact List.find?_cons_of_pos (p := fun n : Note => alignedB d n.tier) ha
theorem where_neg {d : Dc} (h : LightD d) {n : Note} (hn : n ∈ d.notes) (ha : alignedB d n.tier = false) : whereF d n.id = whereF d n.parent := by
  unfold whereF
  rw [chain_cons h hn]
  exact List.find?_cons_of_neg (p := fun n : Note => alignedB d n.tier) (by simp [ha])
theorem where_none {d : Dc} {id : Int} (hg : getF d.notes id = none) : whereF d id = none := by unfold whereF; rw [chain_none hg]; rfl
/-! ### the next note -/
/-- the element behind one with an Id -/
def behind (l : List Note) (id : Int) : Option Note := match l with
  | a :: b :: r => if a.id = id then some b else behind (b :: r) id
  | _ => none
/-- the program's Next, the reference's Next -/
def nextF (d : Dc) (id : Int) : Int := match getF d.notes id with
  | none => 0
  | some n => match behind (kidsN d n.parent n.tier) id with | some m => m.id | none => 0
end Go.Proofs.YtnifmbbpfdghmaaGreatDoor
namespace Go.Proofs.YtnifmbbpfdghmaaGreatDoor
open Go.RowKit Go.En
end Go.Proofs.YtnifmbbpfdghmaaGreatDoor
namespace Go.Proofs.YtnifmbbpfdghmaaGreatDoor
open Go.RowKit Go.En
/-- the time of a note meets a span; zero where there is none -/
def spanF (d : Dc) (id : Int) : Int × Int := match whereF d id with | some n => (n.frm, n.til) | none => (0, 0)
end Go.Proofs.YtnifmbbpfdghmaaGreatDoor
namespace Go.Proofs.YtnifmbbpfdghmaaGreatDoor
open Go.RowKit Go.En
end Go.Proofs.YtnifmbbpfdghmaaGreatDoor
namespace Go.Proofs.YtnifmbbpfdghmaaGreatDoor
open Go.RowKit Go.En
def exT : List Tier := [⟨[116, 101, 120, 116], 0, 1, -1⟩, ⟨[119, 111, 114, 100], 2, 2, 0⟩, ⟨[109, 111, 114, 112, 104], 3, 3, 1⟩, ⟨[103, 108, 111, 115, 115], 4, 4, 2⟩, ⟨[102, 114, 101, 101], 4, 5, 0⟩]
def exN : List Note := [⟨1, 0, 0, 0, 900, 0, [98, 97, 32, 109, 105]⟩, ⟨2, 1, 1, 400, 900, 0, [109, 105]⟩, ⟨3, 1, 1, 0, 300, 0, [98, 97]⟩, ⟨4, 2, 3, 0, 0, 0, [98, 97]⟩, ⟨5, 3, 4, 0, 0, 0, [100, 111, 103]⟩]
def exD : Dc := ⟨1, [], 1000, 0, [], exT, exN⟩
end Go.Proofs.YtnifmbbpfdghmaaGreatDoor
