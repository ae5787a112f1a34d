/-
  Two notes: what Then, Within and Has say of them.
-/
import Derived.Test.YtnifmbbpfdghmaaGreatDoorMG
set_option linter.all false
namespace Go.Proofs.YtnifmbbpfdghmaaGreatDoor
open Go.RowKit Go.En
def oneL (b : Bool) (x : Int) : List Int := if b then [x] else []
theorem len_one (b : Bool) (x : Int) : decide ((((oneL b x).length : Nat) : Int) = 1) = b := by cases b <;> rfl
theorem cur_mem {d : Dc} {x : Int} (hx : (getF d.notes x).isSome = true) : curN d.notes x ∈ d.notes ∧ (curN d.notes x).id = x := by
  obtain ⟨n, hn⟩ := Option.isSome_iff_exists.1 hx
  unfold curN
  rw [hn]
  exact get_some hn
theorem then_one {d : Dc} (h : LightD d) {x y : Int} (hx : (getF d.notes x).isSome = true) (hy : (getF d.notes y).isSome = true) : idsOf d (thenP d [x] [y]) = oneL (decide (nextF d x = y)) x := by
  rw [idsOf_one h ⟨_, cur_mem hx⟩ (fun z hz => by have := thenP_sub hz; simpa using this)]
  have : thenP d [x] [y] x = decide (nextF d x = y) := by
    unfold thenP
    by_cases e : nextF d x = y
    · have : isId d y = true := hy
      simp [e, this]
    · simp [e]
  rw [this]; rfl
theorem then_tier {d : Dc} (h : LightD d) {x y : Int} (hx : (getF d.notes x).isSome = true) (hy : (getF d.notes y).isSome = true) (e : nextF d x = y) : (curN d.notes x).tier = (curN d.notes y).tier ∧ (curN d.notes x).parent = (curN d.notes y).parent := by
  obtain ⟨hm, hid⟩ := cur_mem hx
  obtain ⟨ym, yid⟩ := cur_mem hy
  obtain ⟨i, hi⟩ := List.getElem?_of_mem ym
  have hy1 := (h.notes i _ hi).id.1
  obtain ⟨s, b, r, _, hb, hn, ht, hp, _⟩ := next_order h hm (by rw [hid, e]; omega)
  rw [hid, e] at hn
  have : b = curN d.notes y := ids_inj (ids_rise h) hb ym (by rw [yid]; exact hn.symm)
  rw [← this]
  exact ⟨ht, hp⟩
theorem within_one {d : Dc} (h : LightD d) {x y : Int} (hx : (getF d.notes x).isSome = true) (hy : (getF d.notes y).isSome = true) :
    idsOf d (withinP d [x] [y]) = oneL (decide (y ≠ x) && (decide ((spanF d y).1 ≤ (spanF d x).1) && decide ((spanF d x).2 ≤ (spanF d y).2))) x := by
  rw [idsOf_one h ⟨_, cur_mem hx⟩ (fun z hz => by have := withinP_sub hz; simpa using this)]
  have : withinP d [x] [y] x = (decide (y ≠ x) && (decide ((spanF d y).1 ≤ (spanF d x).1) && decide ((spanF d x).2 ≤ (spanF d y).2))) := by
    unfold withinP
    rw [Bool.eq_iff_iff]
    constructor
    · intro hh
      rw [Bool.and_eq_true, List.any_eq_true] at hh
      obtain ⟨_, n, hn, hc⟩ := hh
      rw [Bool.and_eq_true, decide_eq_true_eq, List.mem_singleton] at hc
      rw [hc.1] at hc
      exact hc.2
    · intro hh
      obtain ⟨ym, yid⟩ := cur_mem hy
      rw [Bool.and_eq_true, List.any_eq_true]
      exact ⟨by simp, curN d.notes y, ym, by rw [yid, hh]; simp⟩
  rw [this]; rfl
theorem has_one {d : Dc} (h : LightD d) {x y : Int} (hx : (getF d.notes x).isSome = true) (hy : (getF d.notes y).isSome = true) : idsOf d (hasP d [x] [y]) = oneL (decide (y ∈ underR d x)) x := by
  rw [idsOf_one h ⟨_, cur_mem hx⟩ (fun z hz => by have := hasP_sub hz; simpa using this)]
  obtain ⟨ym, yid⟩ := cur_mem hy
  have hu := under_chain h ym x
  rw [yid] at hu
  have : hasP d [x] [y] x = decide (y ∈ underR d x) := by
    unfold hasP
    rw [Bool.eq_iff_iff, decide_eq_true_eq, hu]
    constructor
    · intro hh
      rw [Bool.and_eq_true, List.any_eq_true] at hh
      obtain ⟨_, n, hn, hc⟩ := hh
      rw [Bool.and_eq_true, decide_eq_true_eq, List.mem_singleton] at hc
      rw [hc.1] at hc
      rw [Bool.and_eq_true, decide_eq_true_eq, decide_eq_true_eq] at hc
      exact hc.2
    · intro hh
      rw [Bool.and_eq_true, List.any_eq_true]
      refine ⟨by simp, curN d.notes y, ym, ?_⟩
      rw [yid, Bool.and_eq_true, Bool.and_eq_true, decide_eq_true_eq, decide_eq_true_eq, decide_eq_true_eq]
      exact ⟨by simp, hh.1, hh.2⟩
  rw [this]; rfl
theorem under_within {d : Dc} (h : LightD d) {x y : Int} (hx : (getF d.notes x).isSome = true) (hy : (getF d.notes y).isSome = true) (hu : y ∈ underR d x) : idsOf d (withinP d [y] [x]) = oneL true y := by
  obtain ⟨ym, yid⟩ := cur_mem hy
  have h1 := (under_chain h ym x).1 (by rw [yid]; exact hu)
  rw [yid] at h1
  obtain ⟨m, hm, hmid⟩ := List.mem_map.1 h1.2
  obtain ⟨k, hk, _⟩ := note_lt h ym
  obtain ⟨s, u, e1, e2, e3, e4⟩ := where_chain h k _ ym hk m (by rw [yid]; exact hm)
  have hmid' : m.id = x := hmid
  rw [yid] at e1
  rw [hmid'] at e2
  have s1 : spanF d y = (s.frm, s.til) := by unfold spanF; rw [e1]
  have s2 : spanF d x = (u.frm, u.til) := by unfold spanF; rw [e2]
  rw [within_one h hy hx, s1, s2]
  congr 1
  rw [Bool.and_eq_true, Bool.and_eq_true, decide_eq_true_eq, decide_eq_true_eq, decide_eq_true_eq]
  exact ⟨fun e => h1.1 e.symm, e3, e4⟩
end Go.Proofs.YtnifmbbpfdghmaaGreatDoor
