/-
  Walks: the reference's Same and Copy, the program's Same, the law's some.
-/
import Derived.Test.YtjpjpgeeeigbkaaDoorWc
import Derived.Test.YtjpjpgeeeigbkaaDoorWe
import Derived.Test.YtjpjpgeeeigbkaaDoorY1
set_option linter.all false
namespace Go.Proofs.YtjpjpgeeeigbkaaDoor
open Go.RowKit Go.En
attribute [local irreducible] E EL K Val Enters Rt Calls bodyPost Code.wp RQ
set_option maxHeartbeats 1000000 in
theorem rsame_any (xs ys : List Post) (u v : Value) (w : World) (hu : Sl w u xs) (hv : Sl w v ys) : Calls Tryd.prog 19 #[.agg #[u], .agg #[v]] w (Rt fun r w' => r = .bool (decide (xs = ys)) ∧ Ext w w') := by
  refine calls_E (n := 52) (args := [.agg #[u], .agg #[v]]) Tryd.func19 rfl Tryd.ntmps19 (by simp) ?_
  have hu0 := hu
  have hv0 := hv
  obtain ⟨a, cap, rfl, hc, hm, hp⟩ := hu.sl
  obtain ⟨a', cap', rfl, hc', hm', hp'⟩ := hv.sl
  refine E_seq ?_
  refine E_region ?_
  refine EL_box rfl rfl rfl rfl (fun bB wB xB hbB rB0 => ?_)
  refine EL_box rfl rfl rfl rfl (fun bC wC xC hbC rC => ?_)
  have rB := rB0.ext xC
  have x0 := xB.trans xC
  by_cases hl : xs.length = ys.length
  · (repeat' (first | refine eV rfl rfl (val_load rfl rfl rfl (rB.cellAt rfl)) ?_ | refine eV rfl rfl (val_load rfl rfl rfl (rC.cellAt rfl)) ?_ | (refine at_EL ?_; first | refine eN ?_ | refine eV rfl rfl (zB rfl rfl) ?_ | (refine at_bin ?_; first | refine eD rfl rfl (zQ rfl rfl rfl) (fun hh => ?_) (fun hh => ?_)) | (refine at_call ?_; first | refine eV rfl rfl (zK rfl rfl) ?_) | refine eV rfl rfl (zH rfl rfl) ?_) | (refine at_K ?_; first | refine K_then ?_ | refine K_then_ret ?_) | (refine at_E ?_; first | refine E_seq ?_ | refine E_region ?_ | refine E_cond_t rfl ?_ | refine E_cond_f rfl ?_ | refine E_block ?_ | refine E_skip ?_ | refine E_ret ?_)))
    all_goals (first | (exfalso; omega) | skip)
    refine E_loop (ι := Nat) (fun i => [(2, .pointer (some ⟨bB, 0, none⟩)), (3, .pointer (some ⟨bC, 0, none⟩)), (5, int i)])
      (fun i wr => i ≤ xs.length ∧ Ext wC wr ∧ ∀ j, j < i → xs[j]? = ys[j]?) (fun i => xs.length - i) 0
      ⟨rfl, rfl, rfl, trivial⟩ ⟨Nat.zero_le _, Ext.refl _, fun j hj => by omega⟩ ?_
    rintro i wr ⟨hi, hx, hall⟩
    have rBr := rB.ext hx
    have rCr := rC.ext hx
    have x0r := x0.trans hx
    by_cases hlt : i < xs.length
    · obtain ⟨b, off, rfl⟩ := hp (by omega)
      obtain ⟨b', off', rfl⟩ := hp' (by omega)
      obtain ⟨x, hxx⟩ : ∃ x, xs[i]? = some x := ⟨_, List.getElem?_eq_getElem hlt⟩
      obtain ⟨y, hyy⟩ : ∃ y, ys[i]? = some y := ⟨_, List.getElem?_eq_getElem (by omega)⟩
      obtain ⟨ivx, hatx, hivx⟩ := post_elem (hu0.ext x0r) hxx
      obtain ⟨ivy, haty, hivy⟩ := post_elem (hv0.ext x0r) hyy
      have c24 := fun w h1 h2 => r1same_any x.ids y.ids ivx ivy w h1 h2
      have hivx0 := hivx
      have hivy0 := hivy
      obtain ⟨ax, capx, rfl, _⟩ := hivx.sl
      obtain ⟨ay, capy, rfl, _⟩ := hivy.sl
      (repeat' ((fail_if_success (refine E_seq (x := (Code.region 6 _ _)) ?_)); first | refine eV rfl rfl (val_load rfl rfl rfl (rBr.cellAt rfl)) ?_ | (refine at_EL ?_; first | refine eN ?_ | refine eV rfl rfl (zA rfl rfl) ?_ | refine eV rfl rfl (zB rfl rfl) ?_ | (refine at_bin ?_; first | refine eD rfl rfl (zL rfl rfl rfl) (fun hh => ?_) (fun hh => ?_)) | (refine at_call ?_; first | refine eV rfl rfl (zK rfl rfl) ?_) | refine eV rfl rfl (zH rfl rfl) ?_) | (refine at_K ?_; first | refine K_then ?_ | refine K_then_exit ?_ | refine K_in_exit ?_) | (refine at_E ?_; first | refine E_seq ?_ | refine E_region ?_ | refine E_cond_t rfl ?_ | refine E_cond_f rfl ?_ | refine E_block ?_ | refine E_skip ?_ | refine E_ret ?_ | refine E_exit ?_)))
      all_goals (first | (exfalso; omega) | skip)
      refine E_seq ?_
      refine E.sub (M := [(2, .pointer (some ⟨bB, 0, none⟩)), (3, .pointer (some ⟨bC, 0, none⟩)), (5, int i)]) ⟨rfl, rfl, rfl, trivial⟩ ?_
      refine E_pair (m := 10) (p := 6) (q := 7) (sx := 26) (sy := 31) (t := 42) (X := [int x.role, str x.text, .slice ax x.ids.length capx]) (Y := [int y.role, str y.text, .slice ay y.ids.length capy])
        (Lr := [(22, .pointer (some ⟨bB, 0, none⟩)), (23, .slice (some ⟨b, off, none⟩) xs.length cap), (24, int i), (25, .pointer (some ⟨b, off + i * 3, none⟩)), (26, .agg #[int x.role, str x.text, .slice ax x.ids.length capx]),
          (27, .pointer (some ⟨bC, 0, none⟩)), (28, .slice (some ⟨b', off', none⟩) ys.length cap'), (29, int i), (30, .pointer (some ⟨b', off' + i * 3, none⟩)), (31, .agg #[int y.role, str y.text, .slice ay y.ids.length capy])])
        mixedOk (by kernel_rfl) rfl rfl rfl rfl rfl rfl rfl rfl rfl rfl rfl rfl rfl rfl rfl rfl
        ⟨fun _ _ => show Val _ _ _ _ (.pointer (some ⟨bB, 0 + 0, none⟩)) from zH rfl rfl, fun _ xq => val_load rfl rfl rfl ((rBr.ext xq).cellAt rfl), fun _ _ => zA rfl rfl, fun _ _ => val_indexAddr (m := i) rfl rfl rfl rfl (by omega), fun _ xq => val_loadA rfl rfl rfl (hatx.ext xq) rfl,
          fun _ _ => show Val _ _ _ _ (.pointer (some ⟨bC, 0 + 0, none⟩)) from zH rfl rfl, fun _ xq => val_load rfl rfl rfl ((rCr.ext xq).cellAt rfl), fun _ _ => zA rfl rfl, fun _ _ => val_indexAddr (m := i) rfl rfl rfl rfl (by omega), fun _ xq => val_loadA rfl rfl rfl (haty.ext xq) rfl, trivial⟩ ?_
      intro b6 b7 w9 x9 _ _ hne r89 r9
      by_cases hids : x.ids = y.ids
      · rw [decide_eq_true hids] at c24
        (repeat' (first | refine eV rfl rfl (val_load rfl rfl rfl (r89.cellAt rfl)) ?_ | refine eV rfl rfl (val_load rfl rfl rfl (r9.cellAt rfl)) ?_ | (refine EL_call rfl rfl (entersF rfl rfl en24) (c24 _ (hivx0.ext x9) (hivy0.ext x9)) (fun vD wD hC => ?_); obtain ⟨rfl, xD⟩ := hC) | (refine at_EL ?_; first | refine eN ?_ | refine eO rfl rfl ?_ | refine eV rfl rfl (zA rfl rfl) ?_ | refine eV rfl rfl (zB rfl rfl) ?_ | (refine at_bin ?_; first | refine eD rfl rfl (zQ rfl rfl rfl) (fun hh => ?_) (fun hh => ?_) | refine eD rfl rfl (zS rfl rfl rfl) (fun hh => ?_) (fun hh => ?_) | refine eV rfl rfl (zU rfl rfl rfl (by omega) (by omega)) ?_) | refine eV rfl rfl (zC rfl rfl rfl) ?_ | refine eV rfl rfl (zD rfl rfl rfl) ?_ | refine eV rfl rfl (zE rfl rfl) ?_ | refine eV rfl rfl (zH rfl rfl) ?_) | (refine at_K ?_; first | refine K_then ?_ | refine K_in ?_ | refine K_then_ret ?_ | refine K_in_ret ?_) | (refine at_E ?_; first | refine E_seq ?_ | refine E_region ?_ | refine E_cond_t rfl ?_ | refine E_cond_f rfl ?_ | refine E_skip ?_ | refine E_ret ?_)))
        all_goals (first | (exfalso; omega) | skip)
        all_goals (first
          | exact K_rnd (i + 1) ⟨rfl, rfl, rfl, trivial⟩ ⟨by omega, hx.trans (x9.trans xD), same_nx hxx hyy (by cases x; cases y; simp_all) hall⟩ (by omega)
          | exact ret_1 rfl rfl ⟨by rw [decide_eq_false (same_no hxx hyy fun e => by subst e; contradiction)], x0r.trans x9⟩)
      · rw [decide_eq_false hids] at c24
        (repeat' (first | refine eV rfl rfl (val_load rfl rfl rfl (r89.cellAt rfl)) ?_ | refine eV rfl rfl (val_load rfl rfl rfl (r9.cellAt rfl)) ?_ | (refine EL_call rfl rfl (entersF rfl rfl en24) (c24 _ (hivx0.ext x9) (hivy0.ext x9)) (fun vD wD hC => ?_); obtain ⟨rfl, xD⟩ := hC) | (refine at_EL ?_; first | refine eN ?_ | refine eO rfl rfl ?_ | refine eV rfl rfl (zA rfl rfl) ?_ | refine eV rfl rfl (zB rfl rfl) ?_ | (refine at_bin ?_; first | refine eD rfl rfl (zQ rfl rfl rfl) (fun hh => ?_) (fun hh => ?_) | refine eD rfl rfl (zS rfl rfl rfl) (fun hh => ?_) (fun hh => ?_)) | refine eV rfl rfl (zC rfl rfl rfl) ?_ | refine eV rfl rfl (zD rfl rfl rfl) ?_ | refine eV rfl rfl (zE rfl rfl) ?_ | refine eV rfl rfl (zH rfl rfl) ?_) | (refine at_K ?_; first | refine K_then ?_ | refine K_then_ret ?_ | refine K_in_ret ?_) | (refine at_E ?_; first | refine E_seq ?_ | refine E_region ?_ | refine E_cond_t rfl ?_ | refine E_ret ?_)))
        all_goals (first | (exfalso; omega) | skip)
        all_goals exact ret_1 rfl rfl ⟨by rw [decide_eq_false (same_no hxx hyy fun e => hids (by rw [e]))], by first | exact x0r.trans (x9.trans xD) | exact x0r.trans x9⟩
    · (repeat' (first | refine eV rfl rfl (val_load rfl rfl rfl (rBr.cellAt rfl)) ?_ | (refine at_EL ?_; first | refine eN ?_ | refine eV rfl rfl (zA rfl rfl) ?_ | refine eV rfl rfl (zB rfl rfl) ?_ | (refine at_bin ?_; first | refine eD rfl rfl (zL rfl rfl rfl) (fun hh => ?_) (fun hh => ?_)) | (refine at_call ?_; first | refine eV rfl rfl (zK rfl rfl) ?_) | refine eV rfl rfl (zH rfl rfl) ?_) | (refine at_K ?_; first | refine K_then ?_ | refine K_then_exit ?_ | refine K_in_exit ?_) | (refine at_E ?_; first | refine E_seq ?_ | refine E_region ?_ | refine E_cond_t rfl ?_ | refine E_cond_f rfl ?_ | refine E_block ?_ | refine E_skip ?_ | refine E_ret ?_ | refine E_exit ?_)))
      all_goals (first | (exfalso; omega) | skip)
      exact ret_1 rfl rfl ⟨by rw [decide_eq_true (same_end hl fun j hj => hall j (by omega))], x0r⟩
  · (repeat' (first | refine eV rfl rfl (val_load rfl rfl rfl (rB.cellAt rfl)) ?_ | refine eV rfl rfl (val_load rfl rfl rfl (rC.cellAt rfl)) ?_ | (refine at_EL ?_; first | refine eN ?_ | refine eV rfl rfl (zB rfl rfl) ?_ | (refine at_bin ?_; first | refine eD rfl rfl (zQ rfl rfl rfl) (fun hh => ?_) (fun hh => ?_)) | (refine at_call ?_; first | refine eV rfl rfl (zK rfl rfl) ?_) | refine eV rfl rfl (zH rfl rfl) ?_) | (refine at_K ?_; first | refine K_then ?_ | refine K_then_ret ?_) | (refine at_E ?_; first | refine E_seq ?_ | refine E_region ?_ | refine E_cond_t rfl ?_ | refine E_cond_f rfl ?_ | refine E_block ?_ | refine E_skip ?_ | refine E_ret ?_)))
    all_goals (first | (exfalso; omega) | skip)
    exact ret_1 rfl rfl ⟨by rw [decide_eq_false (fun e => hl (by rw [e]))], x0⟩
set_option maxHeartbeats 1000000 in
theorem psame_any (xs ys : List Post) (u v : Value) (w : World) (hu : Sl w u xs) (hv : Sl w v ys) : Calls Tryd.prog 34 #[.agg #[u], .agg #[v]] w (Rt fun r w' => r = .bool (decide (xs = ys)) ∧ Ext w w') := by
  refine calls_E (n := 69) (args := [.agg #[u], .agg #[v]]) Tryd.func34 rfl Tryd.ntmps34 (by simp) ?_
  have hu0 := hu
  have hv0 := hv
  obtain ⟨a, cap, rfl, hc, hm, hp⟩ := hu.sl
  obtain ⟨a', cap', rfl, hc', hm', hp'⟩ := hv.sl
  refine E_seq ?_
  refine E_region ?_
  refine EL_box rfl rfl rfl rfl (fun bB wB xB hbB rB0 => ?_)
  refine EL_box rfl rfl rfl rfl (fun bC wC xC hbC rC => ?_)
  have rB := rB0.ext xC
  have x0 := xB.trans xC
  by_cases hl : xs.length = ys.length
  · (repeat' (first | refine eV rfl rfl (val_load rfl rfl rfl (rB.cellAt rfl)) ?_ | refine eV rfl rfl (val_load rfl rfl rfl (rC.cellAt rfl)) ?_ | (refine at_EL ?_; first | refine eN ?_ | refine eV rfl rfl (zA rfl rfl) ?_ | refine eV rfl rfl (zB rfl rfl) ?_ | (refine at_bin ?_; first | refine eD rfl rfl (zQ rfl rfl rfl) (fun hh => ?_) (fun hh => ?_)) | (refine at_call ?_; first | refine eV rfl rfl (zK rfl rfl) ?_) | refine eV rfl rfl (zH rfl rfl) ?_) | (refine at_K ?_; first | refine K_then ?_ | refine K_then_ret ?_) | (refine at_E ?_; first | refine E_seq ?_ | refine E_region ?_ | refine E_cond_t rfl ?_ | refine E_cond_f rfl ?_ | refine E_block ?_ | refine E_skip ?_ | refine E_ret ?_)))
    all_goals (first | (exfalso; omega) | skip)
    refine E_loop (ι := Nat) (fun i => [(2, .pointer (some ⟨bB, 0, none⟩)), (3, .pointer (some ⟨bC, 0, none⟩)), (17, .slice a xs.length cap), (18, int xs.length), (19, int i)])
      (fun i wr => i ≤ xs.length ∧ Ext wC wr ∧ ∀ j, j < i → xs[j]? = ys[j]?) (fun i => xs.length - i) 0
      ⟨rfl, rfl, rfl, rfl, rfl, trivial⟩ ⟨Nat.zero_le _, Ext.refl _, fun j hj => by omega⟩ ?_
    rintro i wr ⟨hi, hx, hall⟩
    have rBr := rB.ext hx
    have rCr := rC.ext hx
    have x0r := x0.trans hx
    by_cases hlt : i < xs.length
    · obtain ⟨b, off, rfl⟩ := hp (by omega)
      obtain ⟨b', off', rfl⟩ := hp' (by omega)
      obtain ⟨x, hxx⟩ : ∃ x, xs[i]? = some x := ⟨_, List.getElem?_eq_getElem hlt⟩
      obtain ⟨y, hyy⟩ : ∃ y, ys[i]? = some y := ⟨_, List.getElem?_eq_getElem (by omega)⟩
      obtain ⟨ivx, hatx, hivx⟩ := post_elem (hu0.ext x0r) hxx
      obtain ⟨ivy, haty, hivy⟩ := post_elem (hv0.ext x0r) hyy
      have hivx0 := hivx
      have hivy0 := hivy
      obtain ⟨ax, capx, rfl, hcx, hmx, hpx⟩ := hivx.sl
      obtain ⟨ay, capy, rfl, hcy, hmy, hpy⟩ := hivy.sl
      (repeat' (first | refine eV rfl rfl (val_indexAddr (m := i) rfl rfl rfl rfl (by omega)) ?_ | refine eV rfl rfl (val_loadA rfl rfl rfl hatx rfl) ?_ | (refine at_EL ?_; first | refine eN ?_ | refine eV rfl rfl (zA rfl rfl) ?_ | refine eV rfl rfl (zB rfl rfl) ?_ | (refine at_bin ?_; first | refine eD rfl rfl (zL rfl rfl rfl) (fun hh => ?_) (fun hh => ?_))) | (refine at_K ?_; first | refine K_then ?_ | refine K_then_exit ?_ | refine K_in_exit ?_) | (refine at_E ?_; first | refine E_seq ?_ | refine E_region ?_ | refine E_cond_t rfl ?_ | refine E_cond_f rfl ?_ | refine E_block ?_ | refine E_skip ?_ | refine E_ret ?_ | refine E_exit ?_)))
      all_goals (first | (exfalso; omega) | skip)
      refine EL_alloc rfl rfl rfl (fun b6 w6 x6 hb6 r6 => ?_)
      (repeat' (first | (refine at_EL ?_; first | refine eV rfl rfl (zB rfl rfl) ?_)))
      have hge6 : wr.heap.size ≤ b6 := by omega
      refine EL_storeP (cs := [int x.role, str x.text, .slice ax x.ids.length capx]) r6 x6 hge6 rfl rfl rfl rfl rfl rfl rfl rfl (Nat.le_refl _) (fun w8 r8 x8 k8 => ?_)
      have rC8 := rCr.ext x8
      have haty8 := haty.ext x8
      (repeat' (first | refine eV rfl rfl (val_load rfl rfl rfl (rC8.cellAt rfl)) ?_ | refine eV rfl rfl (val_indexAddr (m := i) rfl rfl rfl rfl (by omega)) ?_ | refine eV rfl rfl (val_loadA rfl rfl rfl haty8 rfl) ?_ | (refine at_EL ?_; first | refine eN ?_ | refine eV rfl rfl (zA rfl rfl) ?_ | refine eV rfl rfl (zH rfl rfl) ?_) | (refine at_K ?_; first | refine K_then ?_) | (refine at_E ?_; first | refine E_seq ?_ | refine E_region ?_)))
      refine EL_alloc rfl rfl rfl (fun b7 w7 x7 hb7 r7 => ?_)
      have hge7 : wr.heap.size ≤ b7 := by have := x8.size; omega
      have hne : some b6 ≠ some b7 := fun h => by have := r8.lt; cases h; omega
      refine EL_storeP (cs := [int y.role, str y.text, .slice ay y.ids.length capy]) r7 (x8.trans x7) hge7 rfl rfl rfl rfl rfl rfl rfl rfl (Nat.le_refl _) (fun w9 r9 x9 k9 => ?_)
      have r89 := k9.row (r8.ext x7) hne
      by_cases hle : x.ids.length = y.ids.length
      · (repeat' (first | refine eV rfl rfl (val_load rfl rfl rfl (r89.cellAt rfl)) ?_ | refine eV rfl rfl (val_load rfl rfl rfl (r9.cellAt rfl)) ?_ | (refine at_EL ?_; first | refine eN ?_ | refine eO rfl rfl ?_ | refine eV rfl rfl (zA rfl rfl) ?_ | refine eV rfl rfl (zB rfl rfl) ?_ | (refine at_bin ?_; first | refine eD rfl rfl (zQ rfl rfl rfl) (fun hh => ?_) (fun hh => ?_) | refine eD rfl rfl (zS rfl rfl rfl) (fun hh => ?_) (fun hh => ?_)) | (refine at_call ?_; first | refine eV rfl rfl (zK rfl rfl) ?_) | refine eV rfl rfl (zC rfl rfl rfl) ?_ | refine eV rfl rfl (zD rfl rfl rfl) ?_ | refine eV rfl rfl (zH rfl rfl) ?_) | (refine at_K ?_; first | refine K_then ?_ | refine K_then_ret ?_ | refine K_in_ret ?_) | (refine at_E ?_; first | refine E_seq ?_ | refine E_region ?_ | refine E_cond_t rfl ?_ | refine E_cond_f rfl ?_ | refine E_block ?_ | refine E_skip ?_ | refine E_ret ?_)))
        all_goals (first | (exfalso; omega) | skip)
        all_goals (first
          | exact ret_1 rfl rfl ⟨by rw [decide_eq_false (same_no hxx hyy fun e => by subst e; contradiction)], x0r.trans x9⟩
          | skip)
        refine E_loop (ι := Nat) (fun k => [(2, .pointer (some ⟨bB, 0, none⟩)), (3, .pointer (some ⟨bC, 0, none⟩)), (6, .pointer (some ⟨b6, 0, none⟩)), (7, .pointer (some ⟨b7, 0, none⟩)), (17, .slice (some ⟨b, off, none⟩) xs.length cap), (18, int xs.length), (19, int i), (52, int x.ids.length), (53, int k)])
          (fun k w2 => k ≤ x.ids.length ∧ Ext w9 w2 ∧ ∀ j, j < k → x.ids[j]? = y.ids[j]?) (fun k => x.ids.length - k) 0
          ⟨rfl, rfl, rfl, rfl, rfl, rfl, rfl, rfl, rfl, trivial⟩ ⟨Nat.zero_le _, Ext.refl _, fun j hj => by omega⟩ ?_
        rintro k w2 ⟨hk, hx2, hall2⟩
        have r8k := r89.ext hx2
        have r9k := r9.ext hx2
        by_cases hlt2 : k < x.ids.length
        · obtain ⟨bx, ox, rfl⟩ := hpx (by omega)
          obtain ⟨by', oy, rfl⟩ := hpy (by omega)
          obtain ⟨p, hpp⟩ : ∃ p, x.ids[k]? = some p := ⟨_, List.getElem?_eq_getElem hlt2⟩
          obtain ⟨q, hqq⟩ : ∃ q, y.ids[k]? = some q := ⟨_, List.getElem?_eq_getElem (by omega)⟩
          have hcp := int_elem (hivx0.ext (x9.trans hx2)) hpp
          have hcq := int_elem (hivy0.ext (x9.trans hx2)) hqq
          by_cases hpq : p = q
          · (repeat' (first | refine yV rfl rfl (fun wq _ xq => val_load rfl rfl rfl ((r8k.ext xq).cellAt rfl)) ?_ | refine yV rfl rfl (fun wq _ xq => val_load rfl rfl rfl ((r9k.ext xq).cellAt rfl)) ?_ | refine yV rfl rfl (fun _ _ _ => val_indexAddr (m := k) rfl rfl rfl rfl (by omega)) ?_ | refine yV rfl rfl (fun wq _ xq => val_load rfl rfl rfl (xq.cell hcp)) ?_ | refine yV rfl rfl (fun wq _ xq => val_load rfl rfl rfl (xq.cell hcq)) ?_ | (refine at_EL ?_; first | refine eN ?_ | refine eV rfl rfl (zA rfl rfl) ?_ | refine eV rfl rfl (zB rfl rfl) ?_ | (refine at_bin ?_; first | refine eD rfl rfl (zL rfl rfl rfl) (fun hh => ?_) (fun hh => ?_) | refine eV rfl rfl (zU rfl rfl rfl (by omega) (by omega)) ?_)) | (refine at_K ?_; first | refine K_then ?_ | refine K_in ?_ | refine K_then_ret ?_ | refine K_then_exit ?_ | refine K_in_ret ?_ | refine K_in_exit ?_) | (refine at_E ?_; first | refine E_seq ?_ | refine E_region ?_ | refine E_cond_t rfl ?_ | refine E_cond_f rfl ?_ | refine E_block ?_ | refine E_skip ?_ | refine E_ret ?_ | refine E_exit ?_ | refine E_dq mixedOk (by kernel_rfl) rfl ?_) | (refine at_RQ ?_; first | refine yN rfl (fun wq xq => ?_) | refine yV rfl rfl (fun _ _ _ => zA rfl rfl) ?_ | (refine at_binR ?_; first | refine yD rfl rfl (fun _ _ _ => zQ rfl rfl rfl) (fun hh => ?_) (fun hh => ?_)) | refine yV rfl rfl (fun _ _ _ => zH rfl rfl) ?_)))
            all_goals (first | (exfalso; omega) | skip)
            exact K_rnd (k + 1) ⟨rfl, rfl, rfl, rfl, rfl, rfl, rfl, rfl, rfl, trivial⟩ ⟨by omega, hx2.trans xq, same_nx hpp hqq hpq hall2⟩ (by omega)
          · (repeat' (first | refine yV rfl rfl (fun wq _ xq => val_load rfl rfl rfl ((r8k.ext xq).cellAt rfl)) ?_ | refine yV rfl rfl (fun wq _ xq => val_load rfl rfl rfl ((r9k.ext xq).cellAt rfl)) ?_ | refine yV rfl rfl (fun _ _ _ => val_indexAddr (m := k) rfl rfl rfl rfl (by omega)) ?_ | refine yV rfl rfl (fun wq _ xq => val_load rfl rfl rfl (xq.cell hcp)) ?_ | refine yV rfl rfl (fun wq _ xq => val_load rfl rfl rfl (xq.cell hcq)) ?_ | (refine at_EL ?_; first | refine eN ?_ | refine eV rfl rfl (zA rfl rfl) ?_ | refine eV rfl rfl (zB rfl rfl) ?_ | (refine at_bin ?_; first | refine eD rfl rfl (zL rfl rfl rfl) (fun hh => ?_) (fun hh => ?_) | refine eV rfl rfl (zU rfl rfl rfl (by omega) (by omega)) ?_)) | (refine at_K ?_; first | refine K_then ?_ | refine K_in ?_ | refine K_then_ret ?_ | refine K_then_exit ?_ | refine K_in_ret ?_ | refine K_in_exit ?_) | (refine at_E ?_; first | refine E_seq ?_ | refine E_region ?_ | refine E_cond_t rfl ?_ | refine E_cond_f rfl ?_ | refine E_block ?_ | refine E_skip ?_ | refine E_ret ?_ | refine E_exit ?_ | refine E_dq mixedOk (by kernel_rfl) rfl ?_) | (refine at_RQ ?_; first | refine yN rfl (fun wq xq => ?_) | refine yV rfl rfl (fun _ _ _ => zA rfl rfl) ?_ | (refine at_binR ?_; first | refine yD rfl rfl (fun _ _ _ => zQ rfl rfl rfl) (fun hh => ?_) (fun hh => ?_)) | refine yV rfl rfl (fun _ _ _ => zH rfl rfl) ?_)))
            all_goals (first | (exfalso; omega) | skip)
            exact ret_1 rfl rfl ⟨by rw [decide_eq_false (same_no hxx hyy fun e => same_no hpp hqq hpq (by rw [e]))], x0r.trans (x9.trans (hx2.trans xq))⟩
        · (repeat' (first | (refine at_EL ?_; first | refine eN ?_ | refine eV rfl rfl (zA rfl rfl) ?_ | refine eV rfl rfl (zB rfl rfl) ?_ | (refine at_bin ?_; first | refine eD rfl rfl (zL rfl rfl rfl) (fun hh => ?_) (fun hh => ?_) | refine eV rfl rfl (zU rfl rfl rfl (by omega) (by omega)) ?_)) | (refine at_K ?_; first | refine K_then ?_ | refine K_in ?_ | refine K_then_exit ?_ | refine K_in_exit ?_) | (refine at_E ?_; first | refine E_seq ?_ | refine E_region ?_ | refine E_cond_t rfl ?_ | refine E_cond_f rfl ?_ | refine E_block ?_ | refine E_skip ?_ | refine E_exit ?_)))
          all_goals (first | (exfalso; omega) | skip)
          exact K_rnd (i + 1) ⟨rfl, rfl, rfl, rfl, rfl, trivial⟩ ⟨by omega, hx.trans (x9.trans hx2), same_nx hxx hyy (by
            have h3 := same_end hle fun j hj => hall2 j (by omega)
            cases x; cases y; simp_all) hall⟩ (by omega)
      · (repeat' (first | refine eV rfl rfl (val_load rfl rfl rfl (r89.cellAt rfl)) ?_ | refine eV rfl rfl (val_load rfl rfl rfl (r9.cellAt rfl)) ?_ | (refine at_EL ?_; first | refine eN ?_ | refine eO rfl rfl ?_ | refine eV rfl rfl (zA rfl rfl) ?_ | refine eV rfl rfl (zB rfl rfl) ?_ | (refine at_bin ?_; first | refine eD rfl rfl (zQ rfl rfl rfl) (fun hh => ?_) (fun hh => ?_) | refine eD rfl rfl (zS rfl rfl rfl) (fun hh => ?_) (fun hh => ?_)) | (refine at_call ?_; first | refine eV rfl rfl (zK rfl rfl) ?_) | refine eV rfl rfl (zC rfl rfl rfl) ?_ | refine eV rfl rfl (zD rfl rfl rfl) ?_ | refine eV rfl rfl (zH rfl rfl) ?_) | (refine at_K ?_; first | refine K_then ?_ | refine K_then_ret ?_ | refine K_in_ret ?_) | (refine at_E ?_; first | refine E_seq ?_ | refine E_region ?_ | refine E_cond_t rfl ?_ | refine E_cond_f rfl ?_ | refine E_block ?_ | refine E_skip ?_ | refine E_ret ?_)))
        all_goals (first | (exfalso; omega) | skip)
        all_goals exact ret_1 rfl rfl ⟨by rw [decide_eq_false (same_no hxx hyy fun e => hle (by rw [e]))], x0r.trans x9⟩
    · (repeat' (first | (refine at_EL ?_; first | refine eN ?_ | refine eV rfl rfl (zA rfl rfl) ?_ | refine eV rfl rfl (zB rfl rfl) ?_ | (refine at_bin ?_; first | refine eD rfl rfl (zL rfl rfl rfl) (fun hh => ?_) (fun hh => ?_))) | (refine at_K ?_; first | refine K_then ?_ | refine K_then_exit ?_ | refine K_in_exit ?_) | (refine at_E ?_; first | refine E_seq ?_ | refine E_region ?_ | refine E_cond_t rfl ?_ | refine E_cond_f rfl ?_ | refine E_block ?_ | refine E_skip ?_ | refine E_ret ?_ | refine E_exit ?_)))
      all_goals (first | (exfalso; omega) | skip)
      exact ret_1 rfl rfl ⟨by rw [decide_eq_true (same_end hl fun j hj => hall j (by omega))], x0r⟩
  · (repeat' (first | refine eV rfl rfl (val_load rfl rfl rfl (rB.cellAt rfl)) ?_ | refine eV rfl rfl (val_load rfl rfl rfl (rC.cellAt rfl)) ?_ | (refine at_EL ?_; first | refine eN ?_ | refine eV rfl rfl (zA rfl rfl) ?_ | refine eV rfl rfl (zB rfl rfl) ?_ | (refine at_bin ?_; first | refine eD rfl rfl (zQ rfl rfl rfl) (fun hh => ?_) (fun hh => ?_)) | (refine at_call ?_; first | refine eV rfl rfl (zK rfl rfl) ?_) | refine eV rfl rfl (zH rfl rfl) ?_) | (refine at_K ?_; first | refine K_then ?_ | refine K_then_ret ?_) | (refine at_E ?_; first | refine E_seq ?_ | refine E_region ?_ | refine E_cond_t rfl ?_ | refine E_cond_f rfl ?_ | refine E_block ?_ | refine E_skip ?_ | refine E_ret ?_)))
    all_goals (first | (exfalso; omega) | skip)
    exact ret_1 rfl rfl ⟨by rw [decide_eq_false (fun e => hl (by rw [e]))], x0⟩
end Go.Proofs.YtjpjpgeeeigbkaaDoor
