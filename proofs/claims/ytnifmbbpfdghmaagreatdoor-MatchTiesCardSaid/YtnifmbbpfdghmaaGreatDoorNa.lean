/-
  Walks of match: of (the set of those numbers that are Ids of notes).
-/
import Derived.Test.YtnifmbbpfdghmaaGreatDoorY8
import Derived.Test.YtnifmbbpfdghmaaGreatDoorHj
set_option linter.all false
namespace Go.Proofs.YtnifmbbpfdghmaaGreatDoor
open Go.RowKit Go.En
/-- the set of those numbers of l that are Ids of notes -/
def setF (d : Dc) (l : List Int) (j : Int) : Option Value := if j ∈ l ∧ (getF d.notes j).isSome = true then some (.bool true) else none
theorem setF_nil (d : Dc) : setF d [] = fun _ => none := by
  funext j
  unfold setF
  rw [if_neg (fun h => by cases h.1)]
theorem mem_take_succ {l : List Int} {i : Nat} {x : Int} (hx : l[i]? = some x) (j : Int) : j ∈ l.take (i + 1) ↔ j ∈ l.take i ∨ j = x := by
  obtain ⟨hi, rfl⟩ := List.getElem?_eq_some_iff.1 hx
  rw [List.take_succ_eq_append_getElem hi, List.mem_append, List.mem_singleton]
theorem setF_yes {d : Dc} {l : List Int} {i : Nat} {x : Int} (hx : l[i]? = some x) (hs : (getF d.notes x).isSome = true) : setF d (l.take (i + 1)) = fun j => if j = x then some (.bool true) else setF d (l.take i) j := by
  funext j
  unfold setF
  simp only [mem_take_succ hx]
  by_cases hj : j = x
  · subst hj
    simp [hs]
  · simp [hj]
theorem setF_no {d : Dc} {l : List Int} {i : Nat} {x : Int} (hx : l[i]? = some x) (hs : (getF d.notes x).isSome = false) : setF d (l.take (i + 1)) = setF d (l.take i) := by
  funext j
  unfold setF
  simp only [mem_take_succ hx]
  by_cases hj : j = x
  · subst hj
    simp [hs]
  · simp [hj]
attribute [local irreducible] E EL K Val Enters Rt Calls bodyPost Code.wp RQ
set_option maxHeartbeats 4000000 in
set_option maxRecDepth 8000 in
theorem mof_any (d : Dc) (l : List Int) (v lv : Value) (w : World) (hv : DcAt w v d) (hl : Sl w lv l) : Calls Tryz.prog 67 #[v, lv] w (Rt fun u w' => ∃ r, u = .map (some r) ∧ Ext w w' ∧ w.heap.size ≤ r ∧ MapF w' r (setF d l)) := by
  have hd0 := hv
  obtain ⟨sv, tv, nv, rfl, _, _, _⟩ := hv
  refine calls_E (n := 28) (args := [.agg #[int d.rid, str d.rname, int d.len, int d.day, sv, tv, nv], lv]) Tryz.func67 rfl Tryz.ntmps67 (by simp) ?_
  have hl0 := hl
  obtain ⟨a, cap, rfl, hc, hm, hp⟩ := hl.sl
  refine E_seq ?_
  refine E_region ?_
  refine EL_box rfl rfl rfl rfl (fun bD wD0 xD0 hbD rD0 => ?_)
  obtain ⟨wD, hwD⟩ : ∃ wD, wD = wD0 := ⟨_, rfl⟩
  subst hwD
  have rD : Row wD bD 28 [int d.rid, str d.rname, int d.len, int d.day, sv, tv, nv] := rD0
  have xD := xD0
  clear rD0
  (repeat' (first | refine EL_makeMap rfl rfl rfl (fun r wM hr mM xM => ?_) | (refine at_EL ?_; first | refine eN ?_ | refine eV rfl rfl (zA rfl rfl) ?_ | refine eV rfl rfl (zB rfl rfl) ?_ | (refine at_call ?_; first | refine eV rfl rfl (zK rfl rfl) ?_)) | (refine at_K ?_; first | refine K_then ?_) | (refine at_E ?_; first | refine E_seq ?_ | refine E_region ?_ | refine E_block ?_)))
  refine E_loop (ι := Nat) (fun i => [(2, .pointer (some ⟨bD, 0, none⟩)), (5, .map (some r)), (11, .slice a l.length cap), (12, int l.length), (13, int i)])
    (fun i wr => i ≤ l.length ∧ Ext wD wr ∧ MapF wr r (setF d (l.take i))) (fun i => l.length - i) 0
    ⟨rfl, rfl, rfl, rfl, rfl, trivial⟩ ⟨Nat.zero_le _, xM, by rw [List.take_zero, setF_nil]; exact mM⟩ ?_
  rintro i wr ⟨hi, hx, mr⟩
  have rDr := rD.ext hx
  have hXr := xD.trans hx
  have hrD : wD.heap.size ≤ r := by omega
  by_cases hlt : i < l.length
  · obtain ⟨b, off, rfl⟩ := hp (by omega)
    obtain ⟨x, hx1⟩ : ∃ x, l[i]? = some x := ⟨_, List.getElem?_eq_getElem hlt⟩
    have hcx := int_elem (hl0.ext hXr) hx1
    have cg := tget_any d _ x wr (hd0.ext hXr)
    rw [getR_cur] at cg
    cases hs : (getF d.notes x).isSome with
    | true =>
      rw [hs] at cg
      (repeat' (first | refine eV rfl rfl (val_indexAddr (m := i) rfl rfl rfl rfl hlt) ?_ | refine eV rfl rfl (val_load rfl rfl rfl hcx) ?_ | refine eV rfl rfl (val_loadA rfl rfl rfl rDr.at rfl) ?_ | (refine EL_call rfl rfl (entersF rfl rfl en82) cg (fun vC wC hC => ?_); obtain ⟨rfl, xC⟩ := hC) | (refine at_EL ?_; first | refine eN ?_ | refine eV rfl rfl (zA rfl rfl) ?_ | refine eV rfl rfl (zB rfl rfl) ?_ | (refine at_bin ?_; first | refine eD rfl rfl (zL rfl rfl rfl) (fun hh => ?_) (fun hh => ?_)) | refine eV rfl rfl (zF rfl rfl rfl) ?_) | (refine at_K ?_; first | refine K_then ?_ | refine K_then_exit ?_ | refine K_in_exit ?_) | (refine at_E ?_; first | refine E_seq ?_ | refine E_region ?_ | refine E_cond_t rfl ?_ | refine E_cond_f rfl ?_ | refine E_block ?_ | refine E_skip ?_ | refine E_ret ?_ | refine E_exit ?_)))
      all_goals (first | (exfalso; omega) | skip)
      refine EL_alloc rfl rfl rfl (fun b8 w8 x8 hb8 r8 => ?_)
      refine EL_storeP (cs := noteC (curN d.notes x)) r8 (xC.trans x8) (by have := xC.size; omega) rfl rfl rfl rfl rfl rfl rfl rfl (Nat.le_refl _) (fun w9 r9 x9 k9 => ?_)
      have m9 := mr.ext x9
      (repeat' (first | refine EL_mapUpdate m9 rfl rfl rfl rfl rfl rfl (fun wU mU kU => ?_) | (refine at_EL ?_; first | refine eN ?_ | refine eV rfl rfl (zA rfl rfl) ?_ | refine eV rfl rfl (zB rfl rfl) ?_ | (refine at_bin ?_; first | refine eV rfl rfl (zU rfl rfl rfl (by omega) (by omega)) ?_)) | (refine at_K ?_; first | refine K_then ?_ | refine K_in ?_) | (refine at_E ?_; first | refine E_seq ?_ | refine E_region ?_ | refine E_cond_t rfl ?_)))
      exact K_rnd (i + 1) ⟨rfl, rfl, rfl, rfl, rfl, trivial⟩ ⟨by omega, kU.ext (hx.trans x9) (fun b e => by cases e; exact hrD), by rw [setF_yes hx1 hs]; exact mU⟩ (by omega)
    | false =>
      rw [hs] at cg
      (repeat' (first | refine eV rfl rfl (val_indexAddr (m := i) rfl rfl rfl rfl hlt) ?_ | refine eV rfl rfl (val_load rfl rfl rfl hcx) ?_ | refine eV rfl rfl (val_loadA rfl rfl rfl rDr.at rfl) ?_ | (refine EL_call rfl rfl (entersF rfl rfl en82) cg (fun vC wC hC => ?_); obtain ⟨rfl, xC⟩ := hC) | (refine at_EL ?_; first | refine eN ?_ | refine eV rfl rfl (zA rfl rfl) ?_ | refine eV rfl rfl (zB rfl rfl) ?_ | (refine at_bin ?_; first | refine eD rfl rfl (zL rfl rfl rfl) (fun hh => ?_) (fun hh => ?_)) | refine eV rfl rfl (zF rfl rfl rfl) ?_) | (refine at_K ?_; first | refine K_then ?_ | refine K_then_exit ?_ | refine K_in_exit ?_) | (refine at_E ?_; first | refine E_seq ?_ | refine E_region ?_ | refine E_cond_t rfl ?_ | refine E_cond_f rfl ?_ | refine E_block ?_ | refine E_skip ?_ | refine E_ret ?_ | refine E_exit ?_)))
      all_goals (first | (exfalso; omega) | skip)
      refine EL_alloc rfl rfl rfl (fun b8 w8 x8 hb8 r8 => ?_)
      refine EL_storeP (cs := noteC (curN d.notes x)) r8 (xC.trans x8) (by have := xC.size; omega) rfl rfl rfl rfl rfl rfl rfl rfl (Nat.le_refl _) (fun w9 r9 x9 k9 => ?_)
      (repeat' (first | (refine at_EL ?_; first | refine eN ?_ | refine eV rfl rfl (zA rfl rfl) ?_ | refine eV rfl rfl (zB rfl rfl) ?_ | (refine at_bin ?_; first | refine eV rfl rfl (zU rfl rfl rfl (by omega) (by omega)) ?_)) | (refine at_K ?_; first | refine K_then ?_ | refine K_in ?_) | (refine at_E ?_; first | refine E_seq ?_ | refine E_region ?_ | refine E_cond_f rfl ?_ | refine E_skip ?_)))
      exact K_rnd (i + 1) ⟨rfl, rfl, rfl, rfl, rfl, trivial⟩ ⟨by omega, hx.trans x9, by rw [setF_no hx1 hs]; exact mr.ext x9⟩ (by omega)
  · obtain rfl : i = l.length := by omega
    rw [List.take_length] at mr
    (repeat' (first | (refine at_EL ?_; first | refine eN ?_ | refine eV rfl rfl (zA rfl rfl) ?_ | refine eV rfl rfl (zB rfl rfl) ?_ | (refine at_bin ?_; first | refine eD rfl rfl (zL rfl rfl rfl) (fun hh => ?_) (fun hh => ?_))) | (refine at_K ?_; first | refine K_then ?_ | refine K_then_exit ?_ | refine K_in_exit ?_) | (refine at_E ?_; first | refine E_seq ?_ | refine E_region ?_ | refine E_cond_t rfl ?_ | refine E_cond_f rfl ?_ | refine E_block ?_ | refine E_skip ?_ | refine E_ret ?_ | refine E_exit ?_)))
    all_goals (first | (exfalso; omega) | skip)
    exact ret_1 rfl rfl ⟨r, rfl, hXr, by have := xD.size; omega, mr⟩
end Go.Proofs.YtnifmbbpfdghmaaGreatDoor
