/-
  Walks of align: Right of a span, cmp.Or, Contains, Has.
-/
import Derived.Test.YtaajcbhingpfeaaWa
set_option linter.all false
namespace Go.Proofs.Ytaajcbhingpfeaa
open Go.RowKit Go.En
/-- the first number that is not zero -/
def orI (l : List Int) : Int := (l.find? (fun x => decide (x ≠ 0))).getD 0
attribute [local irreducible] E EL K Val Enters Rt Calls bodyPost Code.wp RQ
theorem right_any (a b : Int) (w : World) : Calls Try.prog 44 #[.agg #[int a, int b]] w (Rt fun u w' => u = .bool (rightB a b) ∧ Ext w w') := by
  refine calls_E (n := 18) (args := [.agg #[int a, int b]]) Try.func44 rfl Try.ntmps44 (by simp) ?_
  refine E_seq ?_
  refine E_region ?_
  refine EL_box rfl rfl rfl rfl (fun bB wB xB hbB rB => ?_)
  (repeat' (first | refine eV rfl rfl (val_load rfl rfl rfl (rB.cellAt rfl)) ?_ | (refine at_EL ?_; first | refine eN ?_ | refine eO rfl rfl ?_ | refine eV rfl rfl (zA rfl rfl) ?_ | refine eV rfl rfl (zB rfl rfl) ?_ | (refine at_bin ?_; first | refine eD rfl rfl (zL rfl rfl rfl) (fun hh => ?_) (fun hh => ?_) | refine eD rfl rfl (zN rfl rfl rfl) (fun hh => ?_) (fun hh => ?_)) | refine eV rfl rfl (zC rfl rfl rfl) ?_ | refine eV rfl rfl (zD rfl rfl rfl) ?_ | refine eV rfl rfl (zH rfl rfl) ?_) | (refine at_K ?_; first | refine K_then ?_) | (refine at_E ?_; first | refine E_seq ?_ | refine E_region ?_ | refine E_ret ?_)))
  all_goals (first | (exfalso; omega) | skip)
  all_goals exact ret_1 rfl rfl ⟨by unfold rightB; congr 1; simp; omega, xB⟩
theorem or_any (l : List Int) (v : Value) (w : World) (hv : Sl w v l) : Calls Try.prog 74 #[v] w (Rt fun u w' => u = int (orI l) ∧ Ext w w') := by
  refine calls_E (n := 18) (args := [v]) Try.func74 rfl Try.ntmps74 (by simp) ?_
  have hv0 := hv
  obtain ⟨a, cap, rfl, hc, hm, hp⟩ := hv.sl
  (repeat' (first | (refine at_EL ?_; first | refine eN ?_ | refine eV rfl rfl (zA rfl rfl) ?_ | refine eV rfl rfl (zB rfl rfl) ?_ | (refine at_call ?_; first | refine eV rfl rfl (zK rfl rfl) ?_)) | (refine at_K ?_; first | refine K_then ?_) | (refine at_E ?_; first | refine E_seq ?_ | refine E_region ?_ | refine E_block ?_)))
  refine E_loop (ι := Nat) (fun i => [(3, int 0), (6, .slice a l.length cap), (7, int l.length), (8, int i)])
    (fun i wr => i ≤ l.length ∧ Ext w wr ∧ ∀ j, j < i → ∀ x, l[j]? = some x → decide (x ≠ 0) = false) (fun i => l.length - i) 0
    ⟨rfl, rfl, rfl, rfl, trivial⟩ ⟨Nat.zero_le _, Ext.refl _, fun j hj => by omega⟩ ?_
  rintro i wr ⟨hi, hx, hall⟩
  by_cases hlt : i < l.length
  · obtain ⟨b, off, rfl⟩ := hp (by omega)
    obtain ⟨x, hxl⟩ : ∃ x, l[i]? = some x := ⟨_, List.getElem?_eq_getElem hlt⟩
    have hcx := int_elem (hv0.ext hx) hxl
    (repeat' (first | refine eV rfl rfl (val_indexAddr (m := i) rfl rfl rfl rfl hlt) ?_ | refine eV rfl rfl (val_load rfl rfl rfl hcx) ?_ | (refine at_EL ?_; first | refine eN ?_ | refine eV rfl rfl (zA rfl rfl) ?_ | refine eV rfl rfl (zB rfl rfl) ?_ | (refine at_bin ?_; first | refine eD rfl rfl (zL rfl rfl rfl) (fun hh => ?_) (fun hh => ?_) | refine eD rfl rfl (zQ rfl rfl rfl) (fun hh => ?_) (fun hh => ?_) | refine eV rfl rfl (zU rfl rfl rfl (by omega) (by omega)) ?_)) | (refine at_K ?_; first | refine K_then ?_ | refine K_in ?_ | refine K_then_ret ?_ | refine K_then_exit ?_ | refine K_in_ret ?_ | refine K_in_exit ?_) | (refine at_E ?_; first | refine E_seq ?_ | refine E_region ?_ | refine E_cond_t rfl ?_ | refine E_cond_f rfl ?_ | refine E_block ?_ | refine E_skip ?_ | refine E_ret ?_ | refine E_exit ?_)))
    all_goals (first | (exfalso; omega) | skip)
    · refine ret_1 rfl rfl ⟨?_, hx⟩
      unfold orI
      rw [find_here hall hxl (decide_eq_true ‹_›)]
      rfl
    · exact K_rnd (i + 1) ⟨rfl, rfl, rfl, rfl, trivial⟩ ⟨by omega, hx, fun j hj y hy => by
        by_cases hj2 : j < i
        · exact hall j hj2 y hy
        · obtain rfl : j = i := by omega
          rw [hxl] at hy; cases hy
          exact decide_eq_false (by omega)⟩ (by omega)
  · (repeat' (first | (refine at_EL ?_; first | refine eN ?_ | refine eV rfl rfl (zA rfl rfl) ?_ | refine eV rfl rfl (zB rfl rfl) ?_ | (refine at_bin ?_; first | refine eD rfl rfl (zL rfl rfl rfl) (fun hh => ?_) (fun hh => ?_))) | (refine at_K ?_; first | refine K_then ?_ | refine K_then_exit ?_ | refine K_in_exit ?_) | (refine at_E ?_; first | refine E_seq ?_ | refine E_region ?_ | refine E_cond_t rfl ?_ | refine E_cond_f rfl ?_ | refine E_block ?_ | refine E_skip ?_ | refine E_ret ?_ | refine E_exit ?_)))
    all_goals (first | (exfalso; omega) | skip)
    refine ret_1 rfl rfl ⟨?_, hx⟩
    unfold orI
    rw [List.find?_eq_none.2 fun q hq => ?_]
    · rfl
    · obtain ⟨j, hj⟩ := List.getElem?_of_mem hq
      have := (List.getElem?_eq_some_iff.1 hj).1
      exact fun h => Bool.noConfusion ((hall j (by omega) q hj).symm.trans h)
end Go.Proofs.Ytaajcbhingpfeaa
