/-
  Walks of align: the reference's Aligned and in.
-/
import Derived.Test.YtaajcbhingpfeaaWb
set_option linter.all false
namespace Go.Proofs.Ytaajcbhingpfeaa
open Go.RowKit Go.En
attribute [local irreducible] E EL K Val Enters Rt Calls bodyPost Code.wp RQ
theorem in_any (l : List Int) (x : Int) (v : Value) (w : World) (hv : Sl w v l) (hlen : l.length ≤ 4611686018427387904) : Calls Try.prog 40 #[v, int x] w (Rt fun u w' => u = .bool (decide (x ∈ l)) ∧ Ext w w') := by
  refine calls_E (n := 18) (args := [v, int x]) Try.func40 rfl Try.ntmps40 (by simp) ?_
  have hv0 := hv
  obtain ⟨a, cap, rfl, hc, hm, hp⟩ := hv.sl
  (repeat' (first | (refine at_EL ?_; first | refine eN ?_ | refine eV rfl rfl (zB rfl rfl) ?_) | (refine at_K ?_; first | refine K_then ?_) | (refine at_E ?_; first | refine E_seq ?_ | refine E_region ?_ | refine E_block ?_)))
  refine E_loop (ι := Nat) (fun i => [(0, .slice a l.length cap), (1, int x), (5, int i)])
    (fun i wr => i ≤ l.length ∧ Ext w wr ∧ ∀ j, j < i → ∀ y, l[j]? = some y → y ≠ x) (fun i => l.length - i) 0
    ⟨rfl, rfl, rfl, trivial⟩ ⟨Nat.zero_le _, Ext.refl _, fun j hj => by omega⟩ ?_
  rintro i wr ⟨hi, hx, hall⟩
  by_cases hlt : i < l.length
  · obtain ⟨b, off, rfl⟩ := hp (by omega)
    obtain ⟨y, hyl⟩ : ∃ y, l[i]? = some y := ⟨_, List.getElem?_eq_getElem hlt⟩
    have hcx := int_elem (hv0.ext hx) hyl
    (repeat' (first | refine eV rfl rfl (val_indexAddr (m := i) rfl rfl rfl rfl hlt) ?_ | refine eV rfl rfl (val_load rfl rfl rfl hcx) ?_ | (refine at_EL ?_; first | refine eN ?_ | refine eV rfl rfl (zA rfl rfl) ?_ | refine eV rfl rfl (zB rfl rfl) ?_ | (refine at_bin ?_; first | refine eD rfl rfl (zL rfl rfl rfl) (fun hh => ?_) (fun hh => ?_) | refine eD rfl rfl (zM rfl rfl rfl) (fun hh => ?_) (fun hh => ?_) | refine eV rfl rfl (zU rfl rfl rfl (by omega) (by omega)) ?_) | (refine at_call ?_; first | refine eV rfl rfl (zK rfl rfl) ?_)) | (refine at_K ?_; first | refine K_then ?_ | refine K_in ?_ | refine K_then_ret ?_ | refine K_then_exit ?_ | refine K_in_ret ?_ | refine K_in_exit ?_) | (refine at_E ?_; first | refine E_seq ?_ | refine E_region ?_ | refine E_cond_t rfl ?_ | refine E_cond_f rfl ?_ | refine E_block ?_ | refine E_skip ?_ | refine E_ret ?_ | refine E_exit ?_)))
    all_goals (first | (exfalso; omega) | skip)
    · refine ret_1 rfl rfl ⟨?_, hx⟩
      have he : y = x := ‹_›
      rw [decide_eq_true (he ▸ List.mem_of_getElem? hyl)]
    · exact K_rnd (i + 1) ⟨rfl, rfl, rfl, trivial⟩ ⟨by omega, hx, fun j hj z hz => by
        by_cases hj2 : j < i
        · exact hall j hj2 z hz
        · obtain rfl : j = i := by omega
          rw [hyl] at hz; cases hz
          assumption⟩ (by omega)
  · (repeat' (first | (refine at_EL ?_; first | refine eN ?_ | refine eV rfl rfl (zA rfl rfl) ?_ | refine eV rfl rfl (zB rfl rfl) ?_ | (refine at_bin ?_; first | refine eD rfl rfl (zL rfl rfl rfl) (fun hh => ?_) (fun hh => ?_)) | (refine at_call ?_; first | refine eV rfl rfl (zK rfl rfl) ?_)) | (refine at_K ?_; first | refine K_then ?_ | refine K_then_exit ?_ | refine K_in_exit ?_) | (refine at_E ?_; first | refine E_seq ?_ | refine E_region ?_ | refine E_cond_t rfl ?_ | refine E_cond_f rfl ?_ | refine E_block ?_ | refine E_skip ?_ | refine E_ret ?_ | refine E_exit ?_)))
    all_goals (first | (exfalso; omega) | skip)
    refine ret_1 rfl rfl ⟨?_, hx⟩
    rw [decide_eq_false fun hq => ?_]
    obtain ⟨j, hj⟩ := List.getElem?_of_mem hq
    have := (List.getElem?_eq_some_iff.1 hj).1
    exact hall j (by omega) x hj rfl
theorem refAligned_any (d : Dc) (tv : Value) (k : Int) (w : World) (ht : Sl w tv d.tiers) : Calls Try.prog 34 #[tv, int k] w (Rt fun u w' => u = .bool (alignedB d k) ∧ Ext w w') := by
  refine calls_E (n := 21) (args := [tv, int k]) Try.func34 rfl Try.ntmps34 (by simp) ?_
  have ht0 := ht
  obtain ⟨a, cap, rfl, hc, hm, hp⟩ := ht.sl
  by_cases hk : 0 ≤ k ∧ k < d.tiers.length
  · obtain ⟨j, rfl⟩ : ∃ j : Nat, k = (j : Int) := ⟨k.toNat, by omega⟩
    obtain ⟨b, off, rfl⟩ := hp (by omega)
    obtain ⟨t, htt⟩ : ∃ t, d.tiers[j]? = some t := ⟨_, List.getElem?_eq_getElem (by omega)⟩
    have hat := tier_elem ht0 htt
    rw [aligned_at htt]
    have ca := timed_any t.kind
    (repeat' (first | refine eV rfl rfl (val_indexAddr (m := j) rfl rfl rfl rfl (by omega)) ?_ | refine eV rfl rfl (val_load rfl rfl rfl (hat.cellAt (j := 1) rfl)) ?_ | (refine EL_call rfl rfl (entersF rfl rfl en48) (ca _) (fun vC wC hC => ?_); obtain ⟨rfl, xC⟩ := hC) | (refine at_EL ?_; first | refine eN ?_ | refine eO rfl rfl ?_ | refine eV rfl rfl (zA rfl rfl) ?_ | refine eV rfl rfl (zB rfl rfl) ?_ | (refine at_bin ?_; first | refine eD rfl rfl (zL rfl rfl rfl) (fun hh => ?_) (fun hh => ?_) | refine eD rfl rfl (zP rfl rfl rfl) (fun hh => ?_) (fun hh => ?_)) | (refine at_call ?_; first | refine eV rfl rfl (zK rfl rfl) ?_) | refine eV rfl rfl (zC rfl rfl rfl) ?_ | refine eV rfl rfl (zD rfl rfl rfl) ?_ | refine eV rfl rfl (zH rfl rfl) ?_) | (refine at_K ?_; first | refine K_then ?_) | (refine at_E ?_; first | refine E_seq ?_ | refine E_region ?_ | refine E_ret ?_)))
    all_goals (first | (exfalso; omega) | skip)
    exact ret_1 rfl rfl ⟨rfl, xC⟩
  · have hf : alignedB d k = false := by
      unfold alignedB
      split
      · rename_i t h
        have := (List.getElem?_eq_some_iff.1 h).1
        rw [decide_eq_false (by omega), Bool.false_and]
      · rfl
    rw [hf]
    (repeat' (first | (refine at_EL ?_; first | refine eN ?_ | refine eO rfl rfl ?_ | refine eV rfl rfl (zA rfl rfl) ?_ | refine eV rfl rfl (zB rfl rfl) ?_ | (refine at_bin ?_; first | refine eD rfl rfl (zL rfl rfl rfl) (fun hh => ?_) (fun hh => ?_) | refine eD rfl rfl (zP rfl rfl rfl) (fun hh => ?_) (fun hh => ?_)) | (refine at_call ?_; first | refine eV rfl rfl (zK rfl rfl) ?_) | refine eV rfl rfl (zC rfl rfl rfl) ?_ | refine eV rfl rfl (zD rfl rfl rfl) ?_) | (refine at_K ?_; first | refine K_then ?_) | (refine at_E ?_; first | refine E_seq ?_ | refine E_region ?_ | refine E_ret ?_)))
    all_goals (first | (exfalso; omega) | skip)
    all_goals exact ret_1 rfl rfl ⟨rfl, Ext.refl _⟩
end Go.Proofs.Ytaajcbhingpfeaa
