/-
  Walks: num's Same and Has, lists' Same, the reference's role, less, Find, Same.
-/
import Derived.Test.YtjpjpgeeeigbkaaDoorWb
set_option linter.all false
namespace Go.Proofs.YtjpjpgeeeigbkaaDoor
open Go.RowKit Go.En

theorem same_end {α : Type} {xs ys : List α} (hl : xs.length = ys.length) (h : ∀ j, j < xs.length → xs[j]? = ys[j]?) : xs = ys := List.ext_getElem? fun j => by
  by_cases hj : j < xs.length
  · exact h j hj
  · rw [List.getElem?_eq_none (by omega), List.getElem?_eq_none (by omega)]
theorem same_no {α : Type} {xs ys : List α} {i : Nat} {x y : α} (hx : xs[i]? = some x) (hy : ys[i]? = some y) (h : ¬ x = y) : ¬ xs = ys := fun e => by
  subst e; rw [hx] at hy; cases hy; exact h rfl
theorem same_nx {α : Type} {xs ys : List α} {i : Nat} {x y : α} (hx : xs[i]? = some x) (hy : ys[i]? = some y) (h : x = y) (hall : ∀ j, j < i → xs[j]? = ys[j]?) : ∀ j, j < i + 1 → xs[j]? = ys[j]? := fun j hj => by
  by_cases hj2 : j < i
  · exact hall j hj2
  · obtain rfl : j = i := by omega
    rw [hx, hy, h]
theorem txt_elem {G : Nat → Prop} {w : World} {b off n cap : Nat} {xs : List Txt} (h : SlG G w (.slice (some ⟨b, off, none⟩) n cap) xs) {i : Nat} {x : Txt} (hx : xs[i]? = some x) : w.cell? ⟨b, off + i * 1, none⟩ = some (str x.l) := by
  obtain ⟨cs, h1, h2⟩ := h.elem hx
  rw [show cs = [str x.l] from h1] at h2
  exact h2.one
theorem txt_ne {x y : Txt} (h : ¬ x = y) : ¬ x.l = y.l := fun e => h (by cases x; cases y; simpa using e)
theorem post_ne {x y : Post} (h : ¬ x = y) : ¬ (x.role = y.role ∧ x.text = y.text ∧ x.ids = y.ids) := fun ⟨h1, h2, h3⟩ => h (by cases x; cases y; simp at h1 h2 h3; simp [h1, h2, h3])
attribute [local irreducible] E EL K Val Enters Rt Calls bodyPost Code.wp RQ
theorem r1same_any (xs ys : List Int) (u v : Value) (w : World) (hu : Sl w u xs) (hv : Sl w v ys) : Calls Tryd.prog 24 #[u, v] w (Rt fun r w' => r = .bool (decide (xs = ys)) ∧ Ext w w') := by
  refine calls_E (n := 26) (args := [u, v]) Tryd.func24 rfl Tryd.ntmps24 (by simp) ?_
  have hu0 := hu
  have hv0 := hv
  obtain ⟨a, cap, rfl, hc, hm, hp⟩ := hu.sl
  obtain ⟨a', cap', rfl, hc', hm', hp'⟩ := hv.sl
  by_cases hl : xs.length = ys.length
  · (repeat' (first | (refine at_EL ?_; first | refine eN ?_ | refine eV rfl rfl (zA rfl rfl) ?_ | refine eV rfl rfl (zB rfl rfl) ?_ | (refine at_bin ?_; first | refine eD rfl rfl (zQ rfl rfl rfl) (fun hh => ?_) (fun hh => ?_)) | (refine at_call ?_; first | refine eV rfl rfl (zK rfl rfl) ?_)) | (refine at_K ?_; first | refine K_then ?_ | refine K_then_ret ?_) | (refine at_E ?_; first | refine E_seq ?_ | refine E_region ?_ | refine E_cond_t rfl ?_ | refine E_cond_f rfl ?_ | refine E_block ?_ | refine E_skip ?_ | refine E_ret ?_)))
    all_goals (first | (exfalso; omega) | skip)
    refine E_loop (ι := Nat) (fun i => [(0, .slice a xs.length cap), (1, .slice a' ys.length cap'), (12, int xs.length), (13, int i)])
      (fun i wr => i ≤ xs.length ∧ Ext w wr ∧ ∀ j, j < i → xs[j]? = ys[j]?) (fun i => xs.length - i) 0
      ⟨rfl, rfl, rfl, rfl, trivial⟩ ⟨Nat.zero_le _, Ext.refl _, fun j hj => by omega⟩ ?_
    rintro i wr ⟨hi, hx, hall⟩
    by_cases hlt : i < xs.length
    · obtain ⟨b, off, rfl⟩ := hp (by omega)
      obtain ⟨b', off', rfl⟩ := hp' (by omega)
      obtain ⟨x, hxx⟩ : ∃ x, xs[i]? = some x := ⟨_, List.getElem?_eq_getElem hlt⟩
      obtain ⟨y, hyy⟩ : ∃ y, ys[i]? = some y := ⟨_, List.getElem?_eq_getElem (by omega)⟩
      have hcx := int_elem (hu0.ext hx) hxx
      have hcy := int_elem (hv0.ext hx) hyy
      by_cases hxy : x = y
      · (repeat' (first | refine yV rfl rfl (fun _ _ _ => val_indexAddr (m := i) rfl rfl rfl rfl (by omega)) ?_ | refine yV rfl rfl (fun wq _ xq => val_load rfl rfl rfl (xq.cell hcx)) ?_ | refine yV rfl rfl (fun wq _ xq => val_load rfl rfl rfl (xq.cell hcy)) ?_ | (refine at_EL ?_; first | refine eN ?_ | refine eV rfl rfl (zA rfl rfl) ?_ | refine eV rfl rfl (zB rfl rfl) ?_ | (refine at_bin ?_; first | refine eD rfl rfl (zL rfl rfl rfl) (fun hh => ?_) (fun hh => ?_) | refine eV rfl rfl (zU rfl rfl rfl (by omega) (by omega)) ?_)) | (refine at_K ?_; first | refine K_then ?_ | refine K_in ?_ | refine K_then_ret ?_ | refine K_then_exit ?_ | refine K_in_ret ?_ | refine K_in_exit ?_) | (refine at_E ?_; first | refine E_seq ?_ | refine E_region ?_ | refine E_cond_t rfl ?_ | refine E_cond_f rfl ?_ | refine E_block ?_ | refine E_skip ?_ | refine E_ret ?_ | refine E_exit ?_ | refine E_dq mixedOk (by kernel_rfl) rfl ?_) | (refine at_RQ ?_; first | refine yN rfl (fun wq xq => ?_) | refine yV rfl rfl (fun _ _ _ => zA rfl rfl) ?_ | (refine at_binR ?_; first | refine yD rfl rfl (fun _ _ _ => zQ rfl rfl rfl) (fun hh => ?_) (fun hh => ?_)))))
        all_goals (first | (exfalso; omega) | skip)
        all_goals exact K_rnd (i + 1) ⟨rfl, rfl, rfl, rfl, trivial⟩ ⟨by omega, by first | exact hx.trans xq | exact hx, same_nx hxx hyy hxy hall⟩ (by omega)
      · (repeat' (first | refine yV rfl rfl (fun _ _ _ => val_indexAddr (m := i) rfl rfl rfl rfl (by omega)) ?_ | refine yV rfl rfl (fun wq _ xq => val_load rfl rfl rfl (xq.cell hcx)) ?_ | refine yV rfl rfl (fun wq _ xq => val_load rfl rfl rfl (xq.cell hcy)) ?_ | (refine at_EL ?_; first | refine eN ?_ | refine eV rfl rfl (zA rfl rfl) ?_ | refine eV rfl rfl (zB rfl rfl) ?_ | (refine at_bin ?_; first | refine eD rfl rfl (zL rfl rfl rfl) (fun hh => ?_) (fun hh => ?_) | refine eV rfl rfl (zU rfl rfl rfl (by omega) (by omega)) ?_)) | (refine at_K ?_; first | refine K_then ?_ | refine K_in ?_ | refine K_then_ret ?_ | refine K_then_exit ?_ | refine K_in_ret ?_ | refine K_in_exit ?_) | (refine at_E ?_; first | refine E_seq ?_ | refine E_region ?_ | refine E_cond_t rfl ?_ | refine E_cond_f rfl ?_ | refine E_block ?_ | refine E_skip ?_ | refine E_ret ?_ | refine E_exit ?_ | refine E_dq mixedOk (by kernel_rfl) rfl ?_) | (refine at_RQ ?_; first | refine yN rfl (fun wq xq => ?_) | refine yV rfl rfl (fun _ _ _ => zA rfl rfl) ?_ | (refine at_binR ?_; first | refine yD rfl rfl (fun _ _ _ => zQ rfl rfl rfl) (fun hh => ?_) (fun hh => ?_)))))
        all_goals (first | (exfalso; omega) | skip)
        all_goals exact ret_1 rfl rfl ⟨by rw [decide_eq_false (same_no hxx hyy hxy)], by first | exact hx.trans xq | exact hx⟩
    · (repeat' (first | (refine at_EL ?_; first | refine eN ?_ | refine eV rfl rfl (zA rfl rfl) ?_ | refine eV rfl rfl (zB rfl rfl) ?_ | (refine at_bin ?_; first | refine eD rfl rfl (zL rfl rfl rfl) (fun hh => ?_) (fun hh => ?_))) | (refine at_K ?_; first | refine K_then ?_ | refine K_then_exit ?_ | refine K_in_exit ?_) | (refine at_E ?_; first | refine E_seq ?_ | refine E_region ?_ | refine E_cond_t rfl ?_ | refine E_cond_f rfl ?_ | refine E_block ?_ | refine E_skip ?_ | refine E_ret ?_ | refine E_exit ?_)))
      all_goals (first | (exfalso; omega) | skip)
      exact ret_1 rfl rfl ⟨by rw [decide_eq_true (same_end hl fun j hj => hall j (by omega))], hx⟩
  · (repeat' (first | (refine at_EL ?_; first | refine eN ?_ | refine eV rfl rfl (zA rfl rfl) ?_ | refine eV rfl rfl (zB rfl rfl) ?_ | (refine at_bin ?_; first | refine eD rfl rfl (zQ rfl rfl rfl) (fun hh => ?_) (fun hh => ?_)) | (refine at_call ?_; first | refine eV rfl rfl (zK rfl rfl) ?_)) | (refine at_K ?_; first | refine K_then ?_ | refine K_then_ret ?_) | (refine at_E ?_; first | refine E_seq ?_ | refine E_region ?_ | refine E_cond_t rfl ?_ | refine E_cond_f rfl ?_ | refine E_block ?_ | refine E_skip ?_ | refine E_ret ?_)))
    all_goals (first | (exfalso; omega) | skip)
    exact ret_1 rfl rfl ⟨by rw [decide_eq_false (fun e => hl (by rw [e]))], Ext.refl _⟩
theorem r3same_any (xs ys : List Txt) (u v : Value) (w : World) (hu : Sl w u xs) (hv : Sl w v ys) : Calls Tryd.prog 27 #[u, v] w (Rt fun r w' => r = .bool (decide (xs = ys)) ∧ Ext w w') := by
  refine calls_E (n := 26) (args := [u, v]) Tryd.func27 rfl Tryd.ntmps27 (by simp) ?_
  have hu0 := hu
  have hv0 := hv
  obtain ⟨a, cap, rfl, hc, hm, hp⟩ := hu.sl
  obtain ⟨a', cap', rfl, hc', hm', hp'⟩ := hv.sl
  by_cases hl : xs.length = ys.length
  · (repeat' (first | (refine at_EL ?_; first | refine eN ?_ | refine eV rfl rfl (zA rfl rfl) ?_ | refine eV rfl rfl (zB rfl rfl) ?_ | (refine at_bin ?_; first | refine eD rfl rfl (zQ rfl rfl rfl) (fun hh => ?_) (fun hh => ?_)) | (refine at_call ?_; first | refine eV rfl rfl (zK rfl rfl) ?_)) | (refine at_K ?_; first | refine K_then ?_ | refine K_then_ret ?_) | (refine at_E ?_; first | refine E_seq ?_ | refine E_region ?_ | refine E_cond_t rfl ?_ | refine E_cond_f rfl ?_ | refine E_block ?_ | refine E_skip ?_ | refine E_ret ?_)))
    all_goals (first | (exfalso; omega) | skip)
    refine E_loop (ι := Nat) (fun i => [(0, .slice a xs.length cap), (1, .slice a' ys.length cap'), (5, int i)])
      (fun i wr => i ≤ xs.length ∧ Ext w wr ∧ ∀ j, j < i → xs[j]? = ys[j]?) (fun i => xs.length - i) 0
      ⟨rfl, rfl, rfl, trivial⟩ ⟨Nat.zero_le _, Ext.refl _, fun j hj => by omega⟩ ?_
    rintro i wr ⟨hi, hx, hall⟩
    by_cases hlt : i < xs.length
    · obtain ⟨b, off, rfl⟩ := hp (by omega)
      obtain ⟨b', off', rfl⟩ := hp' (by omega)
      obtain ⟨x, hxx⟩ : ∃ x, xs[i]? = some x := ⟨_, List.getElem?_eq_getElem hlt⟩
      obtain ⟨y, hyy⟩ : ∃ y, ys[i]? = some y := ⟨_, List.getElem?_eq_getElem (by omega)⟩
      have hcx := txt_elem (hu0.ext hx) hxx
      have hcy := txt_elem (hv0.ext hx) hyy
      by_cases hxy : x = y
      · have hxy' : x.l = y.l := by rw [hxy]
        (repeat' (first | refine yV rfl rfl (fun _ _ _ => val_indexAddr (m := i) rfl rfl rfl rfl (by omega)) ?_ | refine yV rfl rfl (fun wq _ xq => val_load rfl rfl rfl (xq.cell hcx)) ?_ | refine yV rfl rfl (fun wq _ xq => val_load rfl rfl rfl (xq.cell hcy)) ?_ | (refine at_EL ?_; first | refine eN ?_ | refine eV rfl rfl (zA rfl rfl) ?_ | refine eV rfl rfl (zB rfl rfl) ?_ | (refine at_bin ?_; first | refine eD rfl rfl (zL rfl rfl rfl) (fun hh => ?_) (fun hh => ?_) | refine eV rfl rfl (zU rfl rfl rfl (by omega) (by omega)) ?_) | (refine at_call ?_; first | refine eV rfl rfl (zK rfl rfl) ?_)) | (refine at_K ?_; first | refine K_then ?_ | refine K_in ?_ | refine K_then_ret ?_ | refine K_then_exit ?_ | refine K_in_ret ?_ | refine K_in_exit ?_) | (refine at_E ?_; first | refine E_seq ?_ | refine E_region ?_ | refine E_cond_t rfl ?_ | refine E_cond_f rfl ?_ | refine E_block ?_ | refine E_skip ?_ | refine E_ret ?_ | refine E_exit ?_ | refine E_dq mixedOk (by kernel_rfl) rfl ?_) | (refine at_RQ ?_; first | refine yN rfl (fun wq xq => ?_) | refine yV rfl rfl (fun _ _ _ => zA rfl rfl) ?_ | (refine at_binR ?_; first | refine yD rfl rfl (fun _ _ _ => zS rfl rfl rfl) (fun hh => ?_) (fun hh => ?_)))))
        all_goals (first | (exfalso; omega) | (exact absurd hxy' ‹_›) | skip)
        all_goals exact K_rnd (i + 1) ⟨rfl, rfl, rfl, trivial⟩ ⟨by omega, by first | exact hx.trans xq | exact hx, same_nx hxx hyy hxy hall⟩ (by omega)
      · have hxy' := txt_ne hxy
        (repeat' (first | refine yV rfl rfl (fun _ _ _ => val_indexAddr (m := i) rfl rfl rfl rfl (by omega)) ?_ | refine yV rfl rfl (fun wq _ xq => val_load rfl rfl rfl (xq.cell hcx)) ?_ | refine yV rfl rfl (fun wq _ xq => val_load rfl rfl rfl (xq.cell hcy)) ?_ | (refine at_EL ?_; first | refine eN ?_ | refine eV rfl rfl (zA rfl rfl) ?_ | refine eV rfl rfl (zB rfl rfl) ?_ | (refine at_bin ?_; first | refine eD rfl rfl (zL rfl rfl rfl) (fun hh => ?_) (fun hh => ?_) | refine eV rfl rfl (zU rfl rfl rfl (by omega) (by omega)) ?_) | (refine at_call ?_; first | refine eV rfl rfl (zK rfl rfl) ?_)) | (refine at_K ?_; first | refine K_then ?_ | refine K_in ?_ | refine K_then_ret ?_ | refine K_then_exit ?_ | refine K_in_ret ?_ | refine K_in_exit ?_) | (refine at_E ?_; first | refine E_seq ?_ | refine E_region ?_ | refine E_cond_t rfl ?_ | refine E_cond_f rfl ?_ | refine E_block ?_ | refine E_skip ?_ | refine E_ret ?_ | refine E_exit ?_ | refine E_dq mixedOk (by kernel_rfl) rfl ?_) | (refine at_RQ ?_; first | refine yN rfl (fun wq xq => ?_) | refine yV rfl rfl (fun _ _ _ => zA rfl rfl) ?_ | (refine at_binR ?_; first | refine yD rfl rfl (fun _ _ _ => zS rfl rfl rfl) (fun hh => ?_) (fun hh => ?_)))))
        all_goals (first | (exfalso; omega) | (exact absurd (Classical.not_not.1 ‹_›) hxy') | skip)
        all_goals exact ret_1 rfl rfl ⟨by rw [decide_eq_false (same_no hxx hyy hxy)], by first | exact hx.trans xq | exact hx⟩
    · (repeat' (first | (refine at_EL ?_; first | refine eN ?_ | refine eV rfl rfl (zA rfl rfl) ?_ | refine eV rfl rfl (zB rfl rfl) ?_ | (refine at_bin ?_; first | refine eD rfl rfl (zL rfl rfl rfl) (fun hh => ?_) (fun hh => ?_)) | (refine at_call ?_; first | refine eV rfl rfl (zK rfl rfl) ?_)) | (refine at_K ?_; first | refine K_then ?_ | refine K_then_exit ?_ | refine K_in_exit ?_) | (refine at_E ?_; first | refine E_seq ?_ | refine E_region ?_ | refine E_cond_t rfl ?_ | refine E_cond_f rfl ?_ | refine E_block ?_ | refine E_skip ?_ | refine E_ret ?_ | refine E_exit ?_)))
      all_goals (first | (exfalso; omega) | skip)
      exact ret_1 rfl rfl ⟨by rw [decide_eq_true (same_end hl fun j hj => hall j (by omega))], hx⟩
  · (repeat' (first | (refine at_EL ?_; first | refine eN ?_ | refine eV rfl rfl (zA rfl rfl) ?_ | refine eV rfl rfl (zB rfl rfl) ?_ | (refine at_bin ?_; first | refine eD rfl rfl (zQ rfl rfl rfl) (fun hh => ?_) (fun hh => ?_)) | (refine at_call ?_; first | refine eV rfl rfl (zK rfl rfl) ?_)) | (refine at_K ?_; first | refine K_then ?_ | refine K_then_ret ?_) | (refine at_E ?_; first | refine E_seq ?_ | refine E_region ?_ | refine E_cond_t rfl ?_ | refine E_cond_f rfl ?_ | refine E_block ?_ | refine E_skip ?_ | refine E_ret ?_)))
    all_goals (first | (exfalso; omega) | skip)
    exact ret_1 rfl rfl ⟨by rw [decide_eq_false (fun e => hl (by rw [e]))], Ext.refl _⟩
theorem has_any (xs : List Int) (n : Int) (u : Value) (w : World) (hu : Sl w u xs) : Calls Tryd.prog 35 #[u, int n] w (Rt fun r w' => r = .bool (decide (n ∈ xs)) ∧ Ext w w') := by
  refine calls_E (n := 18) (args := [u, int n]) Tryd.func35 rfl Tryd.ntmps35 (by simp) ?_
  have hu0 := hu
  obtain ⟨a, cap, rfl, hc, hm, hp⟩ := hu.sl
  (repeat' (first | (refine at_EL ?_; first | refine eN ?_ | refine eV rfl rfl (zA rfl rfl) ?_ | refine eV rfl rfl (zB rfl rfl) ?_ | (refine at_call ?_; first | refine eV rfl rfl (zK rfl rfl) ?_)) | (refine at_K ?_; first | refine K_then ?_) | (refine at_E ?_; first | refine E_seq ?_ | refine E_region ?_ | refine E_block ?_)))
  refine E_loop (ι := Nat) (fun i => [(0, .slice a xs.length cap), (1, int n), (7, int xs.length), (8, int i)])
    (fun i wr => i ≤ xs.length ∧ Ext w wr ∧ ∀ j, j < i → xs[j]? ≠ some n) (fun i => xs.length - i) 0
    ⟨rfl, rfl, rfl, rfl, trivial⟩ ⟨Nat.zero_le _, Ext.refl _, fun j hj => by omega⟩ ?_
  rintro i wr ⟨hi, hx, hall⟩
  by_cases hlt : i < xs.length
  · obtain ⟨b, off, rfl⟩ := hp (by omega)
    obtain ⟨x, hxx⟩ : ∃ x, xs[i]? = some x := ⟨_, List.getElem?_eq_getElem hlt⟩
    have hcx := int_elem (hu0.ext hx) hxx
    (repeat' (first | refine eV rfl rfl (val_indexAddr (m := i) rfl rfl rfl rfl (by omega)) ?_ | refine eV rfl rfl (val_load rfl rfl rfl hcx) ?_ | (refine at_EL ?_; first | refine eN ?_ | refine eV rfl rfl (zA rfl rfl) ?_ | refine eV rfl rfl (zB rfl rfl) ?_ | (refine at_bin ?_; first | refine eD rfl rfl (zL rfl rfl rfl) (fun hh => ?_) (fun hh => ?_) | refine eD rfl rfl (zM rfl rfl rfl) (fun hh => ?_) (fun hh => ?_) | refine eV rfl rfl (zU rfl rfl rfl (by omega) (by omega)) ?_)) | (refine at_K ?_; first | refine K_then ?_ | refine K_in ?_ | refine K_then_ret ?_ | refine K_then_exit ?_ | refine K_in_ret ?_ | refine K_in_exit ?_) | (refine at_E ?_; first | refine E_seq ?_ | refine E_region ?_ | refine E_cond_t rfl ?_ | refine E_cond_f rfl ?_ | refine E_block ?_ | refine E_skip ?_ | refine E_ret ?_ | refine E_exit ?_)))
    all_goals (first | (exfalso; omega) | skip)
    · exact ret_1 rfl rfl ⟨by rw [decide_eq_true]; have : x = n := ‹_›; subst this; exact List.mem_of_getElem? hxx, hx⟩
    · refine K_rnd (i + 1) ⟨rfl, rfl, rfl, rfl, trivial⟩ ⟨by omega, hx, fun j hj => ?_⟩ (by omega)
      by_cases hj2 : j < i
      · exact hall j hj2
      · obtain rfl : j = i := by omega
        rw [hxx]; intro e; cases e; contradiction
  · (repeat' (first | (refine at_EL ?_; first | refine eN ?_ | refine eV rfl rfl (zA rfl rfl) ?_ | refine eV rfl rfl (zB rfl rfl) ?_ | (refine at_bin ?_; first | refine eD rfl rfl (zL rfl rfl rfl) (fun hh => ?_) (fun hh => ?_))) | (refine at_K ?_; first | refine K_then ?_ | refine K_then_exit ?_ | refine K_in_exit ?_) | (refine at_E ?_; first | refine E_seq ?_ | refine E_region ?_ | refine E_cond_t rfl ?_ | refine E_cond_f rfl ?_ | refine E_block ?_ | refine E_skip ?_ | refine E_ret ?_ | refine E_exit ?_)))
    all_goals (first | (exfalso; omega) | skip)
    refine ret_1 rfl rfl ⟨?_, hx⟩
    rw [decide_eq_false]
    intro hmem
    obtain ⟨j, hj⟩ := List.getElem?_of_mem hmem
    have := (List.getElem?_eq_some_iff.1 hj).1
    exact hall j (by omega) hj
theorem role_any (r : Int) (w : World) : Calls Tryd.prog 39 #[int r] w (Rt fun u w' => u = .bool (isRole r) ∧ Ext w w') := by
  refine calls_E (n := 9) (args := [int r]) Tryd.func39 rfl Tryd.ntmps39 (by simp) ?_
  (repeat' (first | (refine at_EL ?_; first | refine eN ?_ | refine eO rfl rfl ?_ | refine eV rfl rfl (zA rfl rfl) ?_ | refine eV rfl rfl (zB rfl rfl) ?_ | (refine at_bin ?_; first | refine eD rfl rfl (zN rfl rfl rfl) (fun hh => ?_) (fun hh => ?_) | refine eD rfl rfl (zP rfl rfl rfl) (fun hh => ?_) (fun hh => ?_)) | refine eV rfl rfl (zC rfl rfl rfl) ?_ | refine eV rfl rfl (zD rfl rfl rfl) ?_) | (refine at_K ?_; first | refine K_then ?_) | (refine at_E ?_; first | refine E_seq ?_ | refine E_region ?_ | refine E_ret ?_)))
  all_goals (first | (exfalso; omega) | skip)
  all_goals refine ret_1 rfl rfl ⟨?_, Ext.refl _⟩
  all_goals (unfold isRole; simp; omega)
theorem less_any (p q : Post) (iv iv' : Value) (w : World) : Calls Tryd.prog 40 #[.agg #[int p.role, str p.text, iv], .agg #[int q.role, str q.text, iv']] w (Rt fun u w' => u = .bool (decide (ltK p.role p.text q.role q.text)) ∧ Ext w w') := by
  refine calls_E (n := 24) (args := [.agg #[int p.role, str p.text, iv], .agg #[int q.role, str q.text, iv']]) Tryd.func40 rfl Tryd.ntmps40 (by simp) ?_
  refine E_seq ?_
  refine E_region ?_
  refine EL_box rfl rfl rfl rfl (fun bB wB xB hbB rB => ?_)
  refine EL_box rfl rfl rfl rfl (fun bC wC xC hbC rC => ?_)
  have rB' := rB.ext xC
  (repeat' (first | refine eV rfl rfl (val_load rfl rfl rfl (rB'.cellAt rfl)) ?_ | refine eV rfl rfl (val_load rfl rfl rfl (rC.cellAt rfl)) ?_ | (refine at_EL ?_; first | refine eN ?_ | refine eO rfl rfl ?_ | refine eV rfl rfl (zA rfl rfl) ?_ | refine eV rfl rfl (zB rfl rfl) ?_ | (refine at_bin ?_; first | refine eD rfl rfl (zL rfl rfl rfl) (fun hh => ?_) (fun hh => ?_) | refine eD rfl rfl (zM rfl rfl rfl) (fun hh => ?_) (fun hh => ?_) | refine eD rfl rfl (zT rfl rfl rfl) (fun hh => ?_) (fun hh => ?_)) | refine eV rfl rfl (zC rfl rfl rfl) ?_ | refine eV rfl rfl (zD rfl rfl rfl) ?_ | refine eV rfl rfl (zH rfl rfl) ?_) | (refine at_K ?_; first | refine K_then ?_) | (refine at_E ?_; first | refine E_seq ?_ | refine E_region ?_ | refine E_ret ?_)))
  all_goals (first | (exfalso; omega) | skip)
  all_goals refine ret_1 rfl rfl ⟨?_, xB.trans xC⟩
  all_goals (unfold ltK; congr 1; simp only [*]; simp)
/-- the reference's Find: the first posting with the key -/
def rfindF (xs : List Post) (r : Int) (t : List UInt8) : List Int := match xs.find? fun p => decide (p.role = r ∧ p.text = t) with | none => [] | some p => p.ids
theorem find_here {α : Type} {f : α → Bool} : ∀ {l : List α} {i : Nat} {a : α}, (∀ j, j < i → ∀ b, l[j]? = some b → f b = false) → l[i]? = some a → f a = true → l.find? f = some a
  | [], _, _, _, h, _ => by simp at h
  | b :: l, 0, a, _, h, hf => by simp at h; subst h; rw [List.find?_cons_of_pos hf]
  | b :: l, i + 1, a, hall, h, hf => by
    rw [List.find?_cons_of_neg (by simp [hall 0 (by omega) b rfl])]
    exact find_here (i := i) (fun j hj c hc => hall (j + 1) (by omega) c (by simpa using hc)) (by simpa using h) hf
theorem rfind_any (xs : List Post) (v : Value) (r : Int) (t : List UInt8) (w : World) (hv : Sl w v xs) : Calls Tryd.prog 26 #[.agg #[v], int r, str t] w (Rt fun u w' => Ext w w' ∧ Sl w' u (rfindF xs r t)) := by
  refine calls_E (n := 39) (args := [.agg #[v], int r, str t]) Tryd.func26 rfl Tryd.ntmps26 (by simp) ?_
  have hv0 := hv
  obtain ⟨a, cap, rfl, hc, hm, hp⟩ := hv.sl
  (repeat' (first | refine EL_box rfl rfl rfl rfl (fun bB wB xB hbB rB => ?_) | (refine at_EL ?_; first | refine eN ?_ | refine eV rfl rfl (zB rfl rfl) ?_) | (refine at_K ?_; first | refine K_then ?_) | (refine at_E ?_; first | refine E_seq ?_ | refine E_region ?_ | refine E_block ?_)))
  refine E_loop (ι := Nat) (fun i => [(1, int r), (2, str t), (3, .pointer (some ⟨bB, 0, none⟩)), (7, int i)])
    (fun i wr => i ≤ xs.length ∧ Ext wB wr ∧ ∀ j, j < i → ∀ q, xs[j]? = some q → decide (q.role = r ∧ q.text = t) = false) (fun i => xs.length - i) 0
    ⟨rfl, rfl, rfl, rfl, trivial⟩ ⟨Nat.zero_le _, Ext.refl _, fun j hj => by omega⟩ ?_
  rintro i wr ⟨hi, hx, hall⟩
  have rR := rB.ext hx
  have hvr := hv0.ext (xB.trans hx)
  by_cases hlt : i < xs.length
  · obtain ⟨b, off, rfl⟩ := hp (by omega)
    obtain ⟨q, hq⟩ : ∃ q, xs[i]? = some q := ⟨_, List.getElem?_eq_getElem hlt⟩
    obtain ⟨iv, hat, hiv⟩ := post_elem hvr hq
    (repeat' (first | refine eV rfl rfl (val_load rfl rfl rfl (rR.cellAt rfl)) ?_ | refine eV rfl rfl (val_indexAddr (m := i) rfl rfl rfl rfl hlt) ?_ | refine eV rfl rfl (val_load rfl rfl rfl (hat.cellAt (j := 0) rfl)) ?_ | refine eV rfl rfl (val_load rfl rfl rfl (hat.cellAt (j := 1) rfl)) ?_ | refine eV rfl rfl (val_load rfl rfl rfl (hat.cellAt (j := 2) rfl)) ?_ | (refine at_EL ?_; first | refine eN ?_ | refine eO rfl rfl ?_ | refine eV rfl rfl (zA rfl rfl) ?_ | refine eV rfl rfl (zB rfl rfl) ?_ | (refine at_bin ?_; first | refine eD rfl rfl (zL rfl rfl rfl) (fun hh => ?_) (fun hh => ?_) | refine eD rfl rfl (zM rfl rfl rfl) (fun hh => ?_) (fun hh => ?_) | refine eD rfl rfl (zR rfl rfl rfl) (fun hh => ?_) (fun hh => ?_) | refine eV rfl rfl (zU rfl rfl rfl (by omega) (by omega)) ?_) | (refine at_call ?_; first | refine eV rfl rfl (zK rfl rfl) ?_) | refine eV rfl rfl (zC rfl rfl rfl) ?_ | refine eV rfl rfl (zD rfl rfl rfl) ?_ | refine eV rfl rfl (zH rfl rfl) ?_) | (refine at_K ?_; first | refine K_then ?_ | refine K_in ?_ | refine K_then_ret ?_ | refine K_then_exit ?_ | refine K_in_ret ?_ | refine K_in_exit ?_) | (refine at_E ?_; first | refine E_seq ?_ | refine E_region ?_ | refine E_cond_t rfl ?_ | refine E_cond_f rfl ?_ | refine E_block ?_ | refine E_skip ?_ | refine E_ret ?_ | refine E_exit ?_)))
    all_goals (first | (exfalso; omega) | skip)
    · refine ret_1 rfl rfl ⟨xB.trans hx, ?_⟩
      have h1 : q.role = r := by assumption
      have h2 : q.text = t := by assumption
      unfold rfindF
      rw [find_here hall hq (by simp [h1, h2])]
      exact hiv
    all_goals
      refine K_rnd (i + 1) ⟨rfl, rfl, rfl, rfl, trivial⟩ ⟨by omega, hx, fun j hj q' hq' => ?_⟩ (by omega)
      by_cases hj2 : j < i
      · exact hall j hj2 q' hq'
      · obtain rfl : j = i := by omega
        rw [hq] at hq'; cases hq'
        rw [decide_eq_false]
        rintro ⟨h1, h2⟩
        contradiction
  · (repeat' (first | refine eV rfl rfl (val_load rfl rfl rfl (rR.cellAt rfl)) ?_ | (refine at_EL ?_; first | refine eN ?_ | refine eV rfl rfl (zA rfl rfl) ?_ | refine eV rfl rfl (zB rfl rfl) ?_ | (refine at_bin ?_; first | refine eD rfl rfl (zL rfl rfl rfl) (fun hh => ?_) (fun hh => ?_)) | (refine at_call ?_; first | refine eV rfl rfl (zK rfl rfl) ?_) | refine eV rfl rfl (zH rfl rfl) ?_) | (refine at_K ?_; first | refine K_then ?_ | refine K_then_exit ?_ | refine K_in_exit ?_) | (refine at_E ?_; first | refine E_seq ?_ | refine E_region ?_ | refine E_cond_t rfl ?_ | refine E_cond_f rfl ?_ | refine E_block ?_ | refine E_skip ?_ | refine E_ret ?_ | refine E_exit ?_)))
    all_goals (first | (exfalso; omega) | skip)
    refine ret_1 rfl rfl ⟨xB.trans hx, ?_⟩
    unfold rfindF
    rw [List.find?_eq_none.2 (fun q hq => by
      obtain ⟨j, hj⟩ := List.getElem?_of_mem hq
      have := (List.getElem?_eq_some_iff.1 hj).1
      rw [hall j (by omega) q hj]; simp)]
    exact SlG.nil
end Go.Proofs.YtjpjpgeeeigbkaaDoor
