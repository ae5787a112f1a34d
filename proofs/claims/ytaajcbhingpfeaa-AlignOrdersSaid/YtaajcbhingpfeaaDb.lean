/-
  Walks: the small functions under the reference's Light (names, kinds, spans, texts).
-/
import Derived.Test.YtaajcbhingpfeaaDa
import Derived.Test.YtaajcbhingpfeaaY1
import Derived.Test.YtaajcbhingpfeaaQb
set_option linter.all false
namespace Go.Proofs.Ytaajcbhingpfeaa
open Go.RowKit Go.En
/-- the kind that a role asks, or -1 -/
def kindF (r : Int) : Int := if r = 1 then 0 else if r = 3 then 3 else if r = 4 ∨ r = 5 then 4 else -1
def overF (r : Int) : Int := if r = 2 ∨ r = 5 then 1 else if r = 3 then 2 else if r = 4 then 3 else -1
theorem span_two : TwoInts Try.prog 35 3 := ⟨by kernel_rfl, by kernel_rfl, by kernel_rfl, by kernel_rfl, Try.underlying3⟩
attribute [local irreducible] E EL K Val Enters Rt Calls bodyPost Code.wp RQ
theorem timed_any (k : Int) (w : World) : Calls Try.prog 48 #[int k] w (Rt fun u w' => u = .bool (timedB k) ∧ Ext w w') := by
  refine calls_E (n := 13) (args := [int k]) Try.func48 rfl Try.ntmps48 (by simp) ?_
  (repeat' (first | (refine at_EL ?_; first | refine eN ?_ | refine eO rfl rfl ?_ | refine eV rfl rfl (zA rfl rfl) ?_ | refine eV rfl rfl (zB rfl rfl) ?_ | (refine at_bin ?_; first | refine eD rfl rfl (zM rfl rfl rfl) (fun hh => ?_) (fun hh => ?_)) | refine eV rfl rfl (zC rfl rfl rfl) ?_ | refine eV rfl rfl (zD rfl rfl rfl) ?_) | (refine at_K ?_; first | refine K_then ?_) | (refine at_E ?_; first | refine E_seq ?_ | refine E_region ?_ | refine E_ret ?_)))
  all_goals (first | (exfalso; omega) | skip)
  all_goals exact ret_1 rfl rfl ⟨by simp [timedB, *], Ext.refl _⟩
theorem aligned_any (k : Int) (w : World) : Calls Try.prog 65 #[int k] w (Rt fun u w' => u = .bool (timedB k) ∧ Ext w w') := by
  refine calls_E (n := 13) (args := [int k]) Try.func65 rfl Try.ntmps65 (by simp) ?_
  (repeat' (first | (refine at_EL ?_; first | refine eN ?_ | refine eO rfl rfl ?_ | refine eV rfl rfl (zA rfl rfl) ?_ | refine eV rfl rfl (zB rfl rfl) ?_ | (refine at_bin ?_; first | refine eD rfl rfl (zM rfl rfl rfl) (fun hh => ?_) (fun hh => ?_)) | refine eV rfl rfl (zC rfl rfl rfl) ?_ | refine eV rfl rfl (zD rfl rfl rfl) ?_) | (refine at_K ?_; first | refine K_then ?_) | (refine at_E ?_; first | refine E_seq ?_ | refine E_region ?_ | refine E_ret ?_)))
  all_goals (first | (exfalso; omega) | skip)
  all_goals exact ret_1 rfl rfl ⟨by simp [timedB, *], Ext.refl _⟩
theorem kind_any (k : Int) (w : World) : Calls Try.prog 78 #[int k] w (Rt fun u w' => u = int (kindF k) ∧ Ext w w') := by
  refine calls_E (n := 11) (args := [int k]) Try.func78 rfl Try.ntmps78 (by simp) ?_
  (repeat' (first | (refine at_EL ?_; first | refine eN ?_ | refine eV rfl rfl (zA rfl rfl) ?_ | refine eV rfl rfl (zB rfl rfl) ?_ | (refine at_bin ?_; first | refine eD rfl rfl (zM rfl rfl rfl) (fun hh => ?_) (fun hh => ?_))) | (refine at_K ?_; first | refine K_then ?_ | refine K_in ?_ | refine K_then_ret ?_ | refine K_in_ret ?_) | (refine at_E ?_; first | refine E_seq ?_ | refine E_region ?_ | refine E_cond_t rfl ?_ | refine E_cond_f rfl ?_ | refine E_block ?_ | refine E_skip ?_ | refine E_ret ?_)))
  all_goals (first | (exfalso; omega) | skip)
  all_goals exact ret_1 rfl rfl ⟨by simp [kindF, *], Ext.refl _⟩
theorem over_any (k : Int) (w : World) : Calls Try.prog 79 #[int k] w (Rt fun u w' => u = int (overF k) ∧ Ext w w') := by
  refine calls_E (n := 11) (args := [int k]) Try.func79 rfl Try.ntmps79 (by simp) ?_
  (repeat' (first | (refine at_EL ?_; first | refine eN ?_ | refine eV rfl rfl (zA rfl rfl) ?_ | refine eV rfl rfl (zB rfl rfl) ?_ | (refine at_bin ?_; first | refine eD rfl rfl (zM rfl rfl rfl) (fun hh => ?_) (fun hh => ?_))) | (refine at_K ?_; first | refine K_then ?_ | refine K_in ?_ | refine K_then_ret ?_ | refine K_in_ret ?_) | (refine at_E ?_; first | refine E_seq ?_ | refine E_region ?_ | refine E_cond_t rfl ?_ | refine E_cond_f rfl ?_ | refine E_block ?_ | refine E_skip ?_ | refine E_ret ?_)))
  all_goals (first | (exfalso; omega) | skip)
  all_goals exact ret_1 rfl rfl ⟨by simp [overF, *], Ext.refl _⟩
theorem rright_any (a b : Int) (w : World) : Calls Try.prog 81 #[.agg #[int a, int b]] w (Rt fun u w' => u = .bool (rightB a b) ∧ Ext w w') := by
  refine calls_E (n := 18) (args := [.agg #[int a, int b]]) Try.func81 rfl Try.ntmps81 (by simp) ?_
  refine E_seq ?_
  refine E_region ?_
  refine EL_box rfl rfl rfl rfl (fun bB wB xB hbB rB => ?_)
  (repeat' (first | refine eV rfl rfl (val_load rfl rfl rfl (rB.cellAt rfl)) ?_ | (refine at_EL ?_; first | refine eN ?_ | refine eO rfl rfl ?_ | refine eV rfl rfl (zA rfl rfl) ?_ | refine eV rfl rfl (zB rfl rfl) ?_ | (refine at_bin ?_; first | refine eD rfl rfl (zL rfl rfl rfl) (fun hh => ?_) (fun hh => ?_) | refine eD rfl rfl (zN rfl rfl rfl) (fun hh => ?_) (fun hh => ?_) | refine eD rfl rfl (zP rfl rfl rfl) (fun hh => ?_) (fun hh => ?_)) | refine eV rfl rfl (zC rfl rfl rfl) ?_ | refine eV rfl rfl (zD rfl rfl rfl) ?_ | refine eV rfl rfl (zH rfl rfl) ?_) | (refine at_K ?_; first | refine K_then ?_) | (refine at_E ?_; first | refine E_seq ?_ | refine E_region ?_ | refine E_ret ?_)))
  all_goals (first | (exfalso; omega) | skip)
  all_goals exact ret_1 rfl rfl ⟨by unfold rightB; congr 1; simp; omega, xB⟩
theorem rname_any (s : List UInt8) (w : World) (hl : s.length ≤ 9223372036854775807) : Calls Try.prog 77 #[str s] w (Rt fun u w' => (∃ b, u = .bool b) ∧ Ext w w') := by
  refine calls_E (n := 59) (args := [str s]) Try.func77 rfl Try.ntmps77 (by simp) ?_
  (repeat' (first | (refine at_EL ?_; first | refine eN ?_ | refine eV rfl rfl (zB rfl rfl) ?_) | (refine at_K ?_; first | refine K_then ?_) | (refine at_E ?_; first | refine E_seq ?_ | refine E_region ?_ | refine E_block ?_)))
  refine E_loop (ι := Nat) (fun i => [(0, str s), (3, int i)]) (fun i wr => i ≤ s.length ∧ Ext w wr) (fun i => s.length - i) 0
    ⟨rfl, rfl, trivial⟩ ⟨Nat.zero_le _, Ext.refl _⟩ ?_
  rintro i wr ⟨hi, hx⟩
  by_cases hlt : i < s.length
  · obtain ⟨c, hc⟩ : ∃ c, s[i]? = some c := ⟨_, List.getElem?_eq_getElem hlt⟩
    (repeat' (first | refine eV rfl rfl (val_index_str (m := i) rfl rfl rfl rfl hc) ?_ | (refine at_EL ?_; first | refine eN ?_ | refine eO rfl rfl ?_ | refine eV rfl rfl (zA rfl rfl) ?_ | refine eV rfl rfl (zB rfl rfl) ?_ | (refine at_bin ?_; first | refine eD rfl rfl (zL rfl rfl rfl) (fun hh => ?_) (fun hh => ?_) | refine eD rfl rfl (zM rfl rfl rfl) (fun hh => ?_) (fun hh => ?_) | refine eD rfl rfl (zN rfl rfl rfl) (fun hh => ?_) (fun hh => ?_) | refine eD rfl rfl (zO rfl rfl rfl) (fun hh => ?_) (fun hh => ?_) | refine eD rfl rfl (zP rfl rfl rfl) (fun hh => ?_) (fun hh => ?_) | refine eD rfl rfl (zQ rfl rfl rfl) (fun hh => ?_) (fun hh => ?_) | refine eV rfl rfl (zU rfl rfl rfl (by omega) (by omega)) ?_) | (refine at_call ?_; first | refine eV rfl rfl (zJ rfl rfl) ?_) | refine eV rfl rfl (zC rfl rfl rfl) ?_ | refine eV rfl rfl (zD rfl rfl rfl) ?_ | refine eV rfl rfl (zE rfl rfl) ?_) | (refine at_K ?_; first | refine K_then ?_ | refine K_in ?_ | refine K_then_ret ?_ | refine K_then_exit ?_ | refine K_in_ret ?_ | refine K_in_exit ?_) | (refine at_E ?_; first | refine E_seq ?_ | refine E_region ?_ | refine E_cond_t rfl ?_ | refine E_cond_f rfl ?_ | refine E_block ?_ | refine E_skip ?_ | refine E_ret ?_ | refine E_exit ?_)))
    all_goals (first | (exfalso; omega) | skip)
    all_goals (first | exact K_rnd (i + 1) ⟨rfl, rfl, trivial⟩ ⟨by omega, hx⟩ (by omega) | exact ret_1 rfl rfl ⟨⟨_, rfl⟩, hx⟩)
  · (repeat' (first | (refine at_EL ?_; first | refine eN ?_ | refine eO rfl rfl ?_ | refine eV rfl rfl (zA rfl rfl) ?_ | refine eV rfl rfl (zB rfl rfl) ?_ | (refine at_bin ?_; first | refine eD rfl rfl (zL rfl rfl rfl) (fun hh => ?_) (fun hh => ?_) | refine eD rfl rfl (zN rfl rfl rfl) (fun hh => ?_) (fun hh => ?_) | refine eD rfl rfl (zP rfl rfl rfl) (fun hh => ?_) (fun hh => ?_)) | (refine at_call ?_; first | refine eV rfl rfl (zJ rfl rfl) ?_) | refine eV rfl rfl (zC rfl rfl rfl) ?_ | refine eV rfl rfl (zD rfl rfl rfl) ?_) | (refine at_K ?_; first | refine K_then ?_ | refine K_then_exit ?_ | refine K_in_exit ?_) | (refine at_E ?_; first | refine E_seq ?_ | refine E_region ?_ | refine E_cond_t rfl ?_ | refine E_cond_f rfl ?_ | refine E_block ?_ | refine E_skip ?_ | refine E_ret ?_ | refine E_exit ?_)))
    all_goals (first | (exfalso; omega) | skip)
    all_goals exact ret_1 rfl rfl ⟨⟨_, rfl⟩, hx⟩
end Go.Proofs.Ytaajcbhingpfeaa
