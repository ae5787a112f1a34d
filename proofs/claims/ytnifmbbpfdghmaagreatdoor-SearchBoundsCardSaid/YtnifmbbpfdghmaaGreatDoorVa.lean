/-
  The reference's Of: a note put into a list of notes, in whatever order the parts are made ('append(append(append([]Note{}, l[:at]...), n), l[at:]...)').
-/
import Derived.Test.YtnifmbbpfdghmaaGreatDoorY9
import Derived.Test.YtnifmbbpfdghmaaGreatDoorY3
set_option linter.all false
namespace Go.Proofs.YtnifmbbpfdghmaaGreatDoor
open Go.RowKit Go.En
abbrev Q3 := Nat × Nat × Value
theorem q_keep {QL : List Q3} {C C' : Nat → Prop} {δ : Nat → Value} {i : Nat} {d : Option Tmp} {v : Value} (hq : ∀ t ∈ QL, C t.1 → δ t.2.1 = t.2.2) (hC' : ∀ j, C' j ↔ j = i ∨ C j) (hnew : ∀ t ∈ QL, t.1 = i → d = some t.2.1 ∧ v = t.2.2) (hold : ∀ t ∈ QL, t.1 ≠ i → d ≠ some t.2.1) : ∀ t ∈ QL, C' t.1 → upd δ d v t.2.1 = t.2.2 := by
  intro t ht hc
  unfold upd
  by_cases hi : t.1 = i
  · obtain ⟨h1, h2⟩ := hnew t ht hi
    rw [if_pos h1, h2]
  · rw [if_neg (hold t ht hi)]
    exact hq t ht (((hC' _).1 hc).resolve_left hi)
/-- what holds when some of the 13 operations are done -/
structure PhI (w0 : World) (Lb : List (Nat × Value)) (QL : List Q3) (vO : Value) (tk dr : List Note) (nt : Note) (C : Nat → Prop) (δ : Nat → Value) (w : World) : Prop where
  ext : Ext w0 w
  bs : ∀ s v, lk Lb s = some v → δ s = v
  s5 : ¬ C 12 → δ 5 = vO
  qs : ∀ t ∈ QL, C t.1 → δ t.2.1 = t.2.2
  a0 : C 0 → ¬ C 4 → w.ownsRow w0.heap.size 74 7 (δ 44) 0 []
  a6 : C 6 → ¬ C 7 → ∃ b, δ 50 = .slice (some ⟨b, 0, none⟩) 1 1 ∧ Row w b 74 (noteC nt)
  n06 : C 0 → ¬ C 4 → C 6 → (δ 44).ownBlock ≠ (δ 50).ownBlock
  a4 : C 4 → ¬ C 7 → w.ownsRow w0.heap.size 74 7 (δ 48) tk.length (tk.map noteC).flatten
  n46 : C 4 → ¬ C 7 → C 6 → (δ 48).ownBlock ≠ (δ 50).ownBlock
  a7 : C 7 → ¬ C 11 → w.ownsRow w0.heap.size 74 7 (δ 51) (tk.length + 1) ((tk.map noteC).flatten ++ noteC nt)
  a11 : C 11 → w.ownsRow w0.heap.size 74 7 (δ 55) (tk.length + 1 + dr.length) ((tk.map noteC).flatten ++ noteC nt ++ (dr.map noteC).flatten)
  a12 : C 12 → δ 5 = δ 55
theorem PhI.quiet {w0 : World} {Lb : List (Nat × Value)} {QL : List Q3} {vO : Value} {tk dr : List Note} {nt : Note} {C C' : Nat → Prop} {δ : Nat → Value} {w : World} {i : Nat} {d : Nat} {v : Value} (I : PhI w0 Lb QL vO tk dr nt C δ w) (hC' : ∀ j, C' j ↔ j = i ∨ C j)
    (hi : i ≠ 0 ∧ i ≠ 4 ∧ i ≠ 6 ∧ i ≠ 7 ∧ i ≠ 11 ∧ i ≠ 12) (hd : d ≠ 5 ∧ d ≠ 44 ∧ d ≠ 48 ∧ d ≠ 50 ∧ d ≠ 51 ∧ d ≠ 55) (hlb : lk Lb d = none)
    (hnew : ∀ t ∈ QL, t.1 = i → some d = some t.2.1 ∧ v = t.2.2) (hold : ∀ t ∈ QL, t.1 ≠ i → some d ≠ some t.2.1) : PhI w0 Lb QL vO tk dr nt C' (upd δ (some d) v) w := by
  have e : ∀ s, d ≠ s → upd δ (some d) v s = δ s := fun s hs => if_neg (fun h => hs (Option.some.inj h))
  have c : ∀ j, i ≠ j → (C' j ↔ C j) := fun j hj => ⟨fun h => ((hC' j).1 h).resolve_left (fun h => hj h.symm), fun h => (hC' j).2 (.inr h)⟩
  have c0 := c 0 (by omega)
  have c4 := c 4 (by omega)
  have c6 := c 6 (by omega)
  have c7 := c 7 (by omega)
  have c11 := c 11 (by omega)
  have c12 := c 12 (by omega)
  have d5 := e 5 (by omega)
  have d44 := e 44 (by omega)
  have d48 := e 48 (by omega)
  have d50 := e 50 (by omega)
  have d51 := e 51 (by omega)
  have d55 := e 55 (by omega)
  refine ⟨I.ext, fun s u hs => ?_, ?_, q_keep I.qs hC' hnew hold, ?_, ?_, ?_, ?_, ?_, ?_, ?_, ?_⟩
  · rw [e s (fun h => by subst h; rw [hlb] at hs; cases hs)]; exact I.bs s u hs
  · rw [c12, d5]; exact I.s5
  · rw [c0, c4, d44]; exact I.a0
  · rw [c6, c7, d50]; exact I.a6
  · rw [c0, c4, c6, d44, d50]; exact I.n06
  · rw [c4, c7, d48]; exact I.a4
  · rw [c4, c7, c6, d48, d50]; exact I.n46
  · rw [c7, c11, d51]; exact I.a7
  · rw [c11, d55]; exact I.a11
  · rw [c12, d5, d55]; exact I.a12
theorem upd_eq (δ : Nat → Value) (d : Nat) (v : Value) : upd δ (some d) v d = v := if_pos rfl
theorem upd_ne {δ : Nat → Value} {d s : Nat} {v : Value} (h : d ≠ s) : upd δ (some d) v s = δ s := if_neg (fun e => h (Option.some.inj e))
section
variable {w0 : World} {Lb : List (Nat × Value)} {QL : List Q3} {vO : Value} {tk dr : List Note} {nt : Note} {C C' : Nat → Prop} {δ : Nat → Value} {w w' : World} {v : Value}
/-- the empty list is made -/
theorem PhI.s0 (I : PhI w0 Lb QL vO tk dr nt C δ w) (hC' : ∀ j, C' j ↔ j = 0 ∨ C j) (h4 : ¬ C 4) (h7 : ¬ C 7) (h11 : ¬ C 11) (h12 : ¬ C 12) (hx : Ext w w') (hv : w'.ownsRow w0.heap.size 74 7 v 0 []) (hb : ∃ b, v.ownBlock = some b ∧ w.heap.size ≤ b) (hlb : lk Lb 44 = none) (hq : ∀ t ∈ QL, t.1 ≠ 0 ∧ t.2.1 ≠ 44) : PhI w0 Lb QL vO tk dr nt C' (upd δ (some 44) v) w' := by
  have c : ∀ j, j ≠ 0 → (C' j ↔ C j) := fun j hj => ⟨fun h => ((hC' j).1 h).resolve_left hj, fun h => (hC' j).2 (.inr h)⟩
  refine ⟨I.ext.trans hx, fun s u hs => ?_, ?_, q_keep I.qs hC' (fun t ht h => absurd h (hq t ht).1) (fun t ht _ e => (hq t ht).2 (Option.some.inj e).symm), ?_, ?_, ?_, ?_, ?_, ?_, ?_, ?_⟩
  · rw [upd_ne (fun h => by subst h; rw [hlb] at hs; cases hs)]; exact I.bs s u hs
  · rw [upd_ne (by decide), c 12 (by decide)]; exact I.s5
  · intro _ _; rw [upd_eq]; exact hv
  · rw [c 6 (by decide), c 7 (by decide), upd_ne (by decide)]
    intro h1 h2
    obtain ⟨b, e1, e2⟩ := I.a6 h1 h2
    exact ⟨b, e1, e2.ext hx⟩
  · rw [c 6 (by decide), upd_eq, upd_ne (by decide)]
    intro _ _ h6 he
    obtain ⟨b, e1, e2⟩ := hb
    obtain ⟨b', e3, e4⟩ := I.a6 h6 h7
    rw [e1, e3] at he
    have he' : b = b' := Option.some.inj he
    exact absurd e4.lt (by omega)
  · rw [c 4 (by decide)]; exact fun h => absurd h h4
  · rw [c 4 (by decide)]; exact fun h => absurd h h4
  · rw [c 7 (by decide)]; exact fun h => absurd h h7
  · rw [c 11 (by decide)]; exact fun h => absurd h h11
  · rw [c 12 (by decide)]; exact fun h => absurd h h12
end
end Go.Proofs.YtnifmbbpfdghmaaGreatDoor
