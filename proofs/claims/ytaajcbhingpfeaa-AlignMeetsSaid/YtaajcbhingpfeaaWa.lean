/-
  Walks of align: Get, Aligned, Right, comparisons, in.
-/
import Derived.Test.YtaajcbhingpfeaaY4
import Derived.Test.YtaajcbhingpfeaaDc
set_option linter.all false
namespace Go.Proofs.Ytaajcbhingpfeaa
open Go.RowKit Go.En
theorem int_elem {G : Nat → Prop} {w : World} {b off n cap : Nat} {xs : List Int} (h : SlG G w (.slice (some ⟨b, off, none⟩) n cap) xs) {i : Nat} {x : Int} (hx : xs[i]? = some x) : w.cell? ⟨b, off + i * 1, none⟩ = some (int x) := by
  obtain ⟨cs, h1, h2⟩ := h.elem hx
  rw [show cs = [int x] from h1] at h2
  exact h2.one
/-- cmp.Compare of numbers -/
def cmpI (a b : Int) : Int := if a < b then -1 else if b < a then 1 else 0
attribute [local irreducible] E EL K Val Enters Rt Calls bodyPost Code.wp RQ
theorem aligned56_any (k : Int) (w : World) : Calls Try.prog 56 #[int k] w (Rt fun u w' => u = .bool (timedB k) ∧ Ext w w') := by
  refine calls_E (n := 10) (args := [int k]) Try.func56 rfl Try.ntmps56 (by simp) ?_
  (repeat' (first | (refine at_EL ?_; first | refine eN ?_ | refine eV rfl rfl (zA rfl rfl) ?_ | refine eV rfl rfl (zB rfl rfl) ?_ | (refine at_bin ?_; first | refine eD rfl rfl (zM rfl rfl rfl) (fun hh => ?_) (fun hh => ?_))) | (refine at_K ?_; first | refine K_then ?_ | refine K_in ?_ | refine K_then_ret ?_ | refine K_then_exit ?_ | refine K_in_ret ?_ | refine K_in_exit ?_ | refine K_in_exit' rfl ?_) | (refine at_E ?_; first | refine E_seq ?_ | refine E_region ?_ | refine E_cond_t rfl ?_ | refine E_cond_f rfl ?_ | refine E_block ?_ | refine E_skip ?_ | refine E_ret ?_ | refine E_exit ?_)))
  all_goals (first | (exfalso; omega) | skip)
  all_goals exact ret_1 rfl rfl ⟨by simp [timedB, *], Ext.refl _⟩
theorem ttAligned_any (d : Dc) (tv : Value) (k : Int) (w : World) (ht : Sl w tv d.tiers) : Calls Try.prog 41 #[tv, int k] w (Rt fun u w' => u = .bool (alignedB d k) ∧ Ext w w') := by
  refine calls_E (n := 21) (args := [tv, int k]) Try.func41 rfl Try.ntmps41 (by simp) ?_
  have ht0 := ht
  obtain ⟨a, cap, rfl, hc, hm, hp⟩ := ht.sl
  by_cases hk : 0 ≤ k ∧ k < d.tiers.length
  · obtain ⟨j, rfl⟩ : ∃ j : Nat, k = (j : Int) := ⟨k.toNat, by omega⟩
    obtain ⟨b, off, rfl⟩ := hp (by omega)
    obtain ⟨t, htt⟩ : ∃ t, d.tiers[j]? = some t := ⟨_, List.getElem?_eq_getElem (by omega)⟩
    have hat := tier_elem ht0 htt
    rw [aligned_at htt]
    have ca := aligned56_any t.kind
    (repeat' (first | refine eV rfl rfl (val_indexAddr (m := j) rfl rfl rfl rfl (by omega)) ?_ | refine eV rfl rfl (val_load rfl rfl rfl (hat.cellAt (j := 1) rfl)) ?_ | (refine EL_call rfl rfl (entersF rfl rfl en56) (ca _) (fun vC wC hC => ?_); obtain ⟨rfl, xC⟩ := hC) | (refine at_EL ?_; first | refine eN ?_ | refine eO rfl rfl ?_ | refine eV rfl rfl (zA rfl rfl) ?_ | refine eV rfl rfl (zB rfl rfl) ?_ | (refine at_bin ?_; first | refine eD rfl rfl (zL rfl rfl rfl) (fun hh => ?_) (fun hh => ?_) | refine eD rfl rfl (zP rfl rfl rfl) (fun hh => ?_) (fun hh => ?_)) | (refine at_call ?_; first | refine eV rfl rfl (zK rfl rfl) ?_) | refine eV rfl rfl (zC rfl rfl rfl) ?_ | refine eV rfl rfl (zD rfl rfl rfl) ?_ | refine eV rfl rfl (zH rfl rfl) ?_) | (refine at_K ?_; first | refine K_then ?_) | (refine at_E ?_; first | refine E_seq ?_ | refine E_region ?_ | refine E_ret ?_)))
    all_goals (first | (exfalso; omega) | skip)
    exact ret_1 rfl rfl ⟨rfl, xC⟩
  · have hf : alignedB d k = false := by
      unfold alignedB
      split
      · rename_i t h
        have := (List.getElem?_eq_some_iff.1 h).1
        rw [decide_eq_false (by omega), Bool.false_and]
      · rfl
    rw [hf]
    (repeat' (first | (refine at_EL ?_; first | refine eN ?_ | refine eO rfl rfl ?_ | refine eV rfl rfl (zA rfl rfl) ?_ | refine eV rfl rfl (zB rfl rfl) ?_ | (refine at_bin ?_; first | refine eD rfl rfl (zL rfl rfl rfl) (fun hh => ?_) (fun hh => ?_) | refine eD rfl rfl (zP rfl rfl rfl) (fun hh => ?_) (fun hh => ?_)) | (refine at_call ?_; first | refine eV rfl rfl (zK rfl rfl) ?_) | refine eV rfl rfl (zC rfl rfl rfl) ?_ | refine eV rfl rfl (zD rfl rfl rfl) ?_) | (refine at_K ?_; first | refine K_then ?_) | (refine at_E ?_; first | refine E_seq ?_ | refine E_region ?_ | refine E_ret ?_)))
    all_goals (first | (exfalso; omega) | skip)
    all_goals exact ret_1 rfl rfl ⟨rfl, Ext.refl _⟩
theorem isNaN_any (a : Int) (w : World) : Calls Try.prog 88 #[int a] w (Rt fun u w' => u = .bool false ∧ Ext w w') := by
  refine calls_E (n := 6) (args := [int a]) Try.func88 rfl Try.ntmps88 (by simp) ?_
  (repeat' (first | (refine at_EL ?_; first | refine eN ?_ | refine eV rfl rfl (zA rfl rfl) ?_ | refine eV rfl rfl (zB rfl rfl) ?_ | (refine at_bin ?_; first | refine eD rfl rfl (zQ rfl rfl rfl) (fun hh => ?_) (fun hh => ?_))) | (refine at_K ?_; first | refine K_then ?_) | (refine at_E ?_; first | refine E_seq ?_ | refine E_region ?_ | refine E_ret ?_)))
  all_goals (first | (exact absurd rfl ‹_›) | skip)
  all_goals exact ret_1 rfl rfl ⟨rfl, Ext.refl _⟩
theorem compare_any (a b : Int) (w : World) : Calls Try.prog 75 #[int a, int b] w (Rt fun u w' => u = int (cmpI a b) ∧ Ext w w') := by
  refine calls_E (n := 20) (args := [int a, int b]) Try.func75 rfl Try.ntmps75 (by simp) ?_
  have hX := Ext.refl w
  (repeat' (first | (refine EL_call rfl rfl (entersF rfl rfl en88) (isNaN_any _ _) (fun vC wC hC => ?_); obtain ⟨rfl, xC⟩ := hC; replace hX := hX.trans xC) | (refine at_EL ?_; first | refine eN ?_ | refine eV rfl rfl (zA rfl rfl) ?_ | refine eV rfl rfl (zB rfl rfl) ?_ | (refine at_bin ?_; first | refine eD rfl rfl (zL rfl rfl rfl) (fun hh => ?_) (fun hh => ?_) | refine eD rfl rfl (zO rfl rfl rfl) (fun hh => ?_) (fun hh => ?_))) | (refine at_K ?_; first | refine K_then ?_ | refine K_then_ret ?_) | (refine at_E ?_; first | refine E_seq ?_ | refine E_region ?_ | refine E_cond_t rfl ?_ | refine E_cond_f rfl ?_ | refine E_skip ?_ | refine E_ret ?_)))
  all_goals exact ret_1 rfl rfl ⟨by unfold cmpI; congr 1; split <;> (try split) <;> omega, hX⟩
theorem tget_any (d : Dc) (v : Value) (id : Int) (w : World) (hv : DcAt w v d) : Calls Try.prog 37 #[v, int id] w (Rt fun u w' => u = getR d.notes id ∧ Ext w w') := by
  obtain ⟨sv, tv, nv, rfl, _, _, hn⟩ := hv
  refine calls_E (n := 22) (args := [.agg #[int d.rid, str d.rname, int d.len, int d.day, sv, tv, nv], int id]) Try.func37 rfl Try.ntmps37 (by simp) ?_
  have hn0 := hn
  obtain ⟨a, cap, rfl, hc, hm, hp⟩ := hn.sl
  refine E_seq ?_
  refine E_region ?_
  refine EL_box rfl rfl rfl rfl (fun bB wB xB hbB rB0 => ?_)
  refine EL_alloc rfl rfl rfl (fun bA wA xA hbA rA0 => ?_)
  have rB := rB0.ext xA
  have x0 := xB.trans xA
  have hwB : w.heap.size ≤ bA := by have := xB.size; omega
  (repeat' (first | refine eV rfl rfl (val_load rfl rfl rfl (rB.cellAt rfl)) ?_ | (refine at_EL ?_; first | refine eN ?_ | refine eV rfl rfl (zA rfl rfl) ?_ | refine eV rfl rfl (zB rfl rfl) ?_ | (refine at_call ?_; first | refine eV rfl rfl (zK rfl rfl) ?_) | refine eV rfl rfl (zH rfl rfl) ?_) | (refine at_K ?_; first | refine K_then ?_) | (refine at_E ?_; first | refine E_seq ?_ | refine E_region ?_ | refine E_block ?_)))
  refine E_loop (ι := Nat) (fun i => [(1, int id), (4, .pointer (some ⟨bA, 0, none⟩)), (9, .slice a d.notes.length cap), (10, int d.notes.length), (11, int i)])
    (fun i wr => i ≤ d.notes.length ∧ Ext wA wr ∧ ∀ j, j < i → ∀ q, d.notes[j]? = some q → decide (q.id = id) = false) (fun i => d.notes.length - i) 0
    ⟨rfl, rfl, rfl, rfl, rfl, trivial⟩ ⟨Nat.zero_le _, Ext.refl _, fun j hj => by omega⟩ ?_
  rintro i wr ⟨hi, hx, hall⟩
  by_cases hlt : i < d.notes.length
  · obtain ⟨b, off, rfl⟩ := hp (by omega)
    obtain ⟨q, hq⟩ : ∃ q, d.notes[i]? = some q := ⟨_, List.getElem?_eq_getElem hlt⟩
    have hat := note_elem (hn0.ext (x0.trans hx)) hq
    (repeat' (first | refine eV rfl rfl (val_indexAddr (m := i) rfl rfl rfl rfl hlt) ?_ | refine eV rfl rfl (val_loadA rfl rfl rfl hat rfl) ?_ | (refine at_EL ?_; first | refine eN ?_ | (refine at_bin ?_; first | refine eD rfl rfl (zL rfl rfl rfl) (fun hh => ?_) (fun hh => ?_))) | (refine at_K ?_; first | refine K_then ?_ | refine K_then_exit ?_ | refine K_in_exit ?_) | (refine at_E ?_; first | refine E_seq ?_ | refine E_region ?_ | refine E_cond_t rfl ?_ | refine E_cond_f rfl ?_ | refine E_block ?_ | refine E_skip ?_ | refine E_exit ?_)))
    all_goals (first | (exfalso; omega) | skip)
    refine EL_alloc rfl rfl rfl (fun b7 w7 x7 hb7 r7 => ?_)
    refine EL_storeP (cs := noteC q) r7 x7 (by omega) rfl rfl rfl rfl rfl rfl rfl rfl (Nat.le_refl _) (fun w8 r8' x8 k8 => ?_)
    have r8 : Row w8 b7 48 (noteC q) := r8'
    clear r8'
    (repeat' (first | refine eV rfl rfl (val_load rfl rfl rfl (r8.cellAt rfl)) ?_ | refine eV rfl rfl (val_loadA rfl rfl rfl r8.at rfl) ?_ | (refine at_EL ?_; first | refine eN ?_ | refine eV rfl rfl (zA rfl rfl) ?_ | (refine at_bin ?_; first | refine eD rfl rfl (zM rfl rfl rfl) (fun hh => ?_) (fun hh => ?_) | refine eV rfl rfl (zU rfl rfl rfl (by omega) (by omega)) ?_) | refine eV rfl rfl (zH rfl rfl) ?_) | (refine at_K ?_; first | refine K_then ?_ | refine K_in ?_) | (refine at_E ?_; first | refine E_seq ?_ | refine E_region ?_ | refine E_cond_t rfl ?_ | refine E_cond_f rfl ?_ | refine E_skip ?_)))
    · refine EL_storeP (cs := noteC q) (rA0.ext (hx.trans x8)) (x0.trans (hx.trans x8)) hwB rfl rfl rfl rfl rfl rfl rfl rfl (Nat.le_refl _) (fun w9 r9 x9 k9 => ?_)
      (repeat' (first | (refine at_EL ?_; first | refine eN ?_ | refine eV rfl rfl (zB rfl rfl) ?_) | (refine at_K ?_; first | refine K_then ?_ | refine K_then_ret ?_ | refine K_in_ret ?_) | (refine at_E ?_; first | refine E_ret ?_)))
      refine ret_ct rfl rfl rfl r9.at rfl rfl ⟨?_, x9⟩
      unfold getR getF
      rw [find_here hall hq (by simpa using ‹q.id = id›)]
      rfl
    · exact K_rnd (i + 1) ⟨rfl, rfl, rfl, rfl, rfl, trivial⟩ ⟨by omega, hx.trans x8, fun j hj q' hq' => by
        by_cases hj2 : j < i
        · exact hall j hj2 q' hq'
        · obtain rfl : j = i := by omega
          rw [hq] at hq'; cases hq'
          exact decide_eq_false ‹_›⟩ (by omega)
  · (repeat' (first | refine eV rfl rfl (val_build (vs := []) (noteC zeroN) rfl rfl rfl) ?_ | (refine at_EL ?_; first | refine eN ?_ | (refine at_bin ?_; first | refine eD rfl rfl (zL rfl rfl rfl) (fun hh => ?_) (fun hh => ?_))) | (refine at_K ?_; first | refine K_then ?_ | refine K_then_exit ?_ | refine K_in_exit ?_) | (refine at_E ?_; first | refine E_seq ?_ | refine E_region ?_ | refine E_cond_t rfl ?_ | refine E_cond_f rfl ?_ | refine E_block ?_ | refine E_skip ?_ | refine E_exit ?_)))
    all_goals (first | (exfalso; omega) | skip)
    refine EL_storeP (cs := noteC zeroN) (rA0.ext hx) (x0.trans hx) hwB rfl rfl rfl rfl rfl rfl rfl rfl (Nat.le_refl _) (fun w9 r9 x9 k9 => ?_)
    (repeat' (first | (refine at_EL ?_; first | refine eN ?_ | refine eV rfl rfl (zB rfl rfl) ?_) | (refine at_K ?_; first | refine K_then ?_) | (refine at_E ?_; first | refine E_ret ?_)))
    refine ret_ct rfl rfl rfl r9.at rfl rfl ⟨?_, x9⟩
    unfold getR getF
    rw [List.find?_eq_none.2 fun q hq => ?_]
    · rfl
    · obtain ⟨j, hj⟩ := List.getElem?_of_mem hq
      have := (List.getElem?_eq_some_iff.1 hj).1
      simpa using hall j (by omega) q hj
end Go.Proofs.Ytaajcbhingpfeaa
