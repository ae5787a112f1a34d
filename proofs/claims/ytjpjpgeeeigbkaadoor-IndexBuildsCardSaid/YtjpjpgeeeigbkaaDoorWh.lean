/-
  Walks: Check, the program's and the reference's.
-/
import Derived.Test.YtjpjpgeeeigbkaaDoorWc
import Derived.Test.YtjpjpgeeeigbkaaDoorWe
set_option linter.all false
namespace Go.Proofs.YtjpjpgeeeigbkaaDoor
open Go.RowKit Go.En
def checkFrom (xs : List Post) (i : Nat) : Int := checkGo (if i = 0 then none else xs[i - 1]?) (xs.drop i)
def checkP (xs : List Post) : Int := checkGo none xs
theorem drop_cons {α : Type} {xs : List α} {i : Nat} {x : α} (h : xs[i]? = some x) : xs.drop i = x :: xs.drop (i + 1) := by
  obtain ⟨hi, rfl⟩ := List.getElem?_eq_some_iff.1 h
  exact List.drop_eq_getElem_cons hi
theorem chk_role {xs : List Post} {i : Nat} {p : Post} (h : xs[i]? = some p) (h1 : isRole p.role = false) : checkFrom xs i = 2 := by
  unfold checkFrom; rw [drop_cons h]; simp [checkGo, h1]
theorem chk_ord {xs : List Post} {i : Nat} {p q : Post} (h : xs[i]? = some p) (h1 : isRole p.role = true) (hi : 0 < i) (hq : xs[i - 1]? = some q) (hl : ¬ ltK q.role q.text p.role p.text) : checkFrom xs i = 10 := by
  unfold checkFrom; rw [drop_cons h, if_neg (by omega), hq]; simp [checkGo, h1, hl]
def OrdOk (xs : List Post) (i : Nat) (p : Post) : Prop := i = 0 ∨ ∃ q, xs[i - 1]? = some q ∧ ltK q.role q.text p.role p.text
theorem chk_short {xs : List Post} {i : Nat} {p : Post} (h : xs[i]? = some p) (h1 : isRole p.role = true) (ho : OrdOk xs i p) (hs : p.ids = []) : checkFrom xs i = 4 := by
  unfold checkFrom; rw [drop_cons h]
  by_cases hi : i = 0
  · simp [checkGo, hi, h1, hs]
  · obtain ⟨q, hq, hl⟩ := ho.resolve_left hi
    simp [checkGo, hi, hq, hl, h1, hs]
theorem chk_rise {xs : List Post} {i : Nat} {p : Post} (h : xs[i]? = some p) (h1 : isRole p.role = true) (ho : OrdOk xs i p) (hs : p.ids ≠ []) (hr : rise p.ids = false) : checkFrom xs i = 10 := by
  unfold checkFrom; rw [drop_cons h]
  by_cases hi : i = 0
  · simp [checkGo, hi, h1, hs, hr]
  · obtain ⟨q, hq, hl⟩ := ho.resolve_left hi
    simp [checkGo, hi, hq, hl, h1, hs, hr]
theorem chk_next {xs : List Post} {i : Nat} {p : Post} (h : xs[i]? = some p) (h1 : isRole p.role = true) (ho : OrdOk xs i p) (hs : p.ids ≠ []) (hr : rise p.ids = true) : checkFrom xs i = checkFrom xs (i + 1) := by
  unfold checkFrom; rw [drop_cons h]
  have h2 : (if i + 1 = 0 then none else xs[i + 1 - 1]?) = some p := by rw [if_neg (by omega), Nat.add_sub_cancel, h]
  rw [h2]
  by_cases hi : i = 0
  · simp [checkGo, hi, h1, hs, hr]
  · obtain ⟨q, hq, hl⟩ := ho.resolve_left hi
    simp [checkGo, hi, hq, hl, h1, hs, hr]
theorem chk_end {xs : List Post} {i : Nat} (h : i = xs.length) : checkFrom xs i = 0 := by
  unfold checkFrom; rw [h, List.drop_length]; rfl
theorem rise_step {ids : List Int} {k : Nat} {a b : Int} (hk : 1 ≤ k) (ha : ids[k - 1]? = some a) (hb : ids[k]? = some b) : rise (ids.drop (k - 1)) = (decide (a < b) && rise (ids.drop k)) := by
  rw [drop_cons ha, show k - 1 + 1 = k by omega, drop_cons hb]; rfl
theorem rise_end {ids : List Int} {k : Nat} (hk : ids.length ≤ k) : rise (ids.drop (k - 1)) = true := by
  rcases h : ids.drop (k - 1) with _ | ⟨a, _ | ⟨b, r⟩⟩
  · rfl
  · rfl
  · have := congrArg List.length h; simp at this; omega
theorem isRole_t {r : Int} (h1 : ¬ r < 1) (h2 : ¬ 5 < r) : isRole r = true := by unfold isRole; simp; omega
theorem isRole_f {r : Int} (h : r < 1 ∨ 5 < r) : isRole r = false := by unfold isRole; simp; omega
attribute [local irreducible] E EL K Val Enters Rt Calls bodyPost Code.wp RQ
set_option maxHeartbeats 1000000 in
theorem pcheck_any (xs : List Post) (v : Value) (w : World) (hv : Sl w v xs) : Calls Tryd.prog 14 #[.agg #[v]] w (Rt fun u w' => u = int (checkP xs) ∧ Ext w w') := by
  refine calls_E (n := 62) (args := [.agg #[v]]) Tryd.func14 rfl Tryd.ntmps14 (by simp) ?_
  have hv0 := hv
  obtain ⟨a, cap, rfl, hc, hm, hp⟩ := hv.sl
  refine E_seq ?_
  refine E_region ?_
  refine EL_box rfl rfl rfl rfl (fun bB wB xB hbB rB => ?_)
  (repeat' (first | refine eV rfl rfl (val_load rfl rfl rfl (rB.cellAt rfl)) ?_ | (refine at_EL ?_; first | refine eN ?_ | refine eV rfl rfl (zA rfl rfl) ?_ | refine eV rfl rfl (zB rfl rfl) ?_ | (refine at_call ?_; first | refine eV rfl rfl (zK rfl rfl) ?_) | refine eV rfl rfl (zH rfl rfl) ?_) | (refine at_K ?_; first | refine K_then ?_) | (refine at_E ?_; first | refine E_seq ?_ | refine E_region ?_ | refine E_block ?_)))
  refine E_loop (ι := Nat) (fun i => [(1, .pointer (some ⟨bB, 0, none⟩)), (7, .slice a xs.length cap), (8, int xs.length), (9, int i)])
    (fun i wr => i ≤ xs.length ∧ Ext wB wr ∧ checkP xs = checkFrom xs i) (fun i => xs.length - i) 0
    ⟨rfl, rfl, rfl, rfl, trivial⟩ ⟨Nat.zero_le _, Ext.refl _, rfl⟩ ?_
  rintro i wr ⟨hi, hx, hch⟩
  have rBr := rB.ext hx
  have x0r := xB.trans hx
  by_cases hlt : i < xs.length
  · obtain ⟨b, off, rfl⟩ := hp (by omega)
    obtain ⟨x, hxx⟩ : ∃ x, xs[i]? = some x := ⟨_, List.getElem?_eq_getElem hlt⟩
    obtain ⟨ivx, hatx, hivx⟩ := post_elem (hv0.ext x0r) hxx
    have hivx0 := hivx
    obtain ⟨ax, capx, rfl, hcx, hmx, hpx⟩ := hivx.sl
    (repeat' (first | refine eV rfl rfl (val_indexAddr (m := i) rfl rfl rfl rfl (by omega)) ?_ | refine eV rfl rfl (val_loadA rfl rfl rfl hatx rfl) ?_ | (refine at_EL ?_; first | refine eN ?_ | refine eV rfl rfl (zA rfl rfl) ?_ | refine eV rfl rfl (zB rfl rfl) ?_ | (refine at_bin ?_; first | refine eD rfl rfl (zL rfl rfl rfl) (fun hh => ?_) (fun hh => ?_))) | (refine at_K ?_; first | refine K_then ?_ | refine K_then_exit ?_ | refine K_in_exit ?_) | (refine at_E ?_; first | refine E_seq ?_ | refine E_region ?_ | refine E_cond_t rfl ?_ | refine E_cond_f rfl ?_ | refine E_block ?_ | refine E_skip ?_ | refine E_ret ?_ | refine E_exit ?_)))
    all_goals (first | (exfalso; omega) | skip)
    refine EL_alloc rfl rfl rfl (fun b4 w3 x3 hb4 r3 => ?_)
    (repeat' (first | (refine at_EL ?_; first | refine eV rfl rfl (zB rfl rfl) ?_)))
    refine EL_storeP (cs := [int x.role, str x.text, .slice ax x.ids.length capx]) r3 x3 (by omega) rfl rfl rfl rfl rfl rfl rfl rfl (Nat.le_refl _) (fun w4 r4' x4 k4 => ?_)
    have r4 : Row w4 b4 42 [int x.role, str x.text, .slice ax x.ids.length capx] := r4'
    clear r4'
    have rB4 := rBr.ext x4
    by_cases hrl : x.role < 1 ∨ 5 < x.role
    · (repeat' (first | refine eV rfl rfl (val_load rfl rfl rfl (r4.cellAt rfl)) ?_ | (refine at_EL ?_; first | refine eN ?_ | refine eO rfl rfl ?_ | refine eV rfl rfl (zA rfl rfl) ?_ | refine eV rfl rfl (zB rfl rfl) ?_ | (refine at_bin ?_; first | refine eD rfl rfl (zL rfl rfl rfl) (fun hh => ?_) (fun hh => ?_) | refine eD rfl rfl (zO rfl rfl rfl) (fun hh => ?_) (fun hh => ?_)) | refine eV rfl rfl (zC rfl rfl rfl) ?_ | refine eV rfl rfl (zD rfl rfl rfl) ?_ | refine eV rfl rfl (zH rfl rfl) ?_) | (refine at_K ?_; first | refine K_then ?_ | refine K_then_ret ?_ | refine K_in_ret ?_) | (refine at_E ?_; first | refine E_seq ?_ | refine E_region ?_ | refine E_cond_t rfl ?_ | refine E_cond_f rfl ?_ | refine E_skip ?_ | refine E_ret ?_)))
      all_goals (first | (exfalso; omega) | skip)
      all_goals exact ret_1 rfl rfl ⟨by rw [hch, chk_role hxx (isRole_f hrl)], x0r.trans x4⟩
    have hrole : isRole x.role = true := isRole_t (by omega) (by omega)
    by_cases hi0 : 0 < i
    · obtain ⟨q, hq⟩ : ∃ q, xs[i - 1]? = some q := ⟨_, List.getElem?_eq_getElem (by omega)⟩
      obtain ⟨ivq, hatq, _⟩ := post_elem (hv0.ext (x0r.trans x4)) hq
      by_cases hl : ltK q.role q.text x.role x.text
      · have hord : OrdOk xs i x := .inr ⟨q, hq, hl⟩
        have hcl := cmp_lt.2 hl
        by_cases hnil : x.ids.length = 0
        · (repeat' (first | refine eV rfl rfl (val_load rfl rfl rfl (r4.cellAt rfl)) ?_ | refine eV rfl rfl (val_load rfl rfl rfl ((r4.ext xq).cellAt rfl)) ?_ | refine yV rfl rfl (fun wq _ xq => val_load rfl rfl rfl ((r4.ext xq).cellAt rfl)) ?_ | refine yV rfl rfl (fun wq _ xq => val_load rfl rfl rfl ((rB4.ext xq).cellAt rfl)) ?_ | refine yV rfl rfl (fun _ _ _ => val_indexAddr (m := i - 1) rfl rfl rfl (by omega) (by omega)) ?_ | refine yV rfl rfl (fun wq _ xq => val_loadA rfl rfl rfl (hatq.ext xq) rfl) ?_ | refine RQ_call rfl rfl (fun _ _ _ => entersF rfl rfl en38) (fun wq xq => cmp_any q ivq x.role x.text wq) ?_ | (refine at_EL ?_; first | refine eN ?_ | refine eO rfl rfl ?_ | refine eV rfl rfl (zA rfl rfl) ?_ | refine eV rfl rfl (zB rfl rfl) ?_ | (refine at_bin ?_; first | refine eD rfl rfl (zL rfl rfl rfl) (fun hh => ?_) (fun hh => ?_) | refine eD rfl rfl (zM rfl rfl rfl) (fun hh => ?_) (fun hh => ?_) | refine eD rfl rfl (zO rfl rfl rfl) (fun hh => ?_) (fun hh => ?_)) | (refine at_call ?_; first | refine eV rfl rfl (zK rfl rfl) ?_) | refine eV rfl rfl (zC rfl rfl rfl) ?_ | refine eV rfl rfl (zD rfl rfl rfl) ?_ | refine eV rfl rfl (zH rfl rfl) ?_) | (refine at_K ?_; first | refine K_then ?_ | refine K_then_ret ?_ | refine K_in_ret ?_) | (refine at_E ?_; first | refine E_seq ?_ | refine E_region ?_ | refine E_cond_t rfl ?_ | refine E_cond_f rfl ?_ | refine E_block ?_ | refine E_skip ?_ | refine E_ret ?_ | refine E_dq mixedOk (by kernel_rfl) rfl ?_) | (refine at_RQ ?_; first | refine yN rfl (fun wq xq => ?_) | refine yO rfl rfl ?_ | refine yV rfl rfl (fun _ _ _ => zA rfl rfl) ?_ | (refine at_binR ?_; first | refine yD rfl rfl (fun _ _ _ => zO rfl rfl rfl) (fun hh => ?_) (fun hh => ?_) | refine yD rfl rfl (fun _ _ _ => zP rfl rfl rfl) (fun hh => ?_) (fun hh => ?_) | refine yV rfl rfl (fun _ _ _ => zV rfl rfl rfl (by omega) (by omega)) ?_) | refine yV rfl rfl (fun _ _ _ => zC rfl rfl rfl) ?_ | refine yV rfl rfl (fun _ _ _ => zD rfl rfl rfl) ?_ | refine yV rfl rfl (fun _ _ _ => zH rfl rfl) ?_)))
          all_goals (first | (exfalso; omega) | skip)
          all_goals exact ret_1 rfl rfl ⟨by rw [hch, chk_short hxx hrole hord (List.length_eq_zero_iff.1 hnil)], x0r.trans (x4.trans xq)⟩
        · have hne1 : 1 ≤ x.ids.length := by omega
          (repeat' (first | refine eV rfl rfl (val_load rfl rfl rfl (r4.cellAt rfl)) ?_ | refine eV rfl rfl (val_load rfl rfl rfl ((r4.ext xq).cellAt rfl)) ?_ | refine yV rfl rfl (fun wq _ xq => val_load rfl rfl rfl ((r4.ext xq).cellAt rfl)) ?_ | refine yV rfl rfl (fun wq _ xq => val_load rfl rfl rfl ((rB4.ext xq).cellAt rfl)) ?_ | refine yV rfl rfl (fun _ _ _ => val_indexAddr (m := i - 1) rfl rfl rfl (by omega) (by omega)) ?_ | refine yV rfl rfl (fun wq _ xq => val_loadA rfl rfl rfl (hatq.ext xq) rfl) ?_ | refine RQ_call rfl rfl (fun _ _ _ => entersF rfl rfl en38) (fun wq xq => cmp_any q ivq x.role x.text wq) ?_ | (refine at_EL ?_; first | refine eN ?_ | refine eO rfl rfl ?_ | refine eV rfl rfl (zA rfl rfl) ?_ | refine eV rfl rfl (zB rfl rfl) ?_ | (refine at_bin ?_; first | refine eD rfl rfl (zL rfl rfl rfl) (fun hh => ?_) (fun hh => ?_) | refine eD rfl rfl (zM rfl rfl rfl) (fun hh => ?_) (fun hh => ?_) | refine eD rfl rfl (zO rfl rfl rfl) (fun hh => ?_) (fun hh => ?_)) | (refine at_call ?_; first | refine eV rfl rfl (zK rfl rfl) ?_) | refine eV rfl rfl (zC rfl rfl rfl) ?_ | refine eV rfl rfl (zD rfl rfl rfl) ?_ | refine eV rfl rfl (zH rfl rfl) ?_) | (refine at_K ?_; first | refine K_then ?_ | refine K_then_ret ?_ | refine K_in_ret ?_) | (refine at_E ?_; first | refine E_seq ?_ | refine E_region ?_ | refine E_cond_t rfl ?_ | refine E_cond_f rfl ?_ | refine E_block ?_ | refine E_skip ?_ | refine E_ret ?_ | refine E_dq mixedOk (by kernel_rfl) rfl ?_) | (refine at_RQ ?_; first | refine yN rfl (fun wq xq => ?_) | refine yO rfl rfl ?_ | refine yV rfl rfl (fun _ _ _ => zA rfl rfl) ?_ | (refine at_binR ?_; first | refine yD rfl rfl (fun _ _ _ => zO rfl rfl rfl) (fun hh => ?_) (fun hh => ?_) | refine yD rfl rfl (fun _ _ _ => zP rfl rfl rfl) (fun hh => ?_) (fun hh => ?_) | refine yV rfl rfl (fun _ _ _ => zV rfl rfl rfl (by omega) (by omega)) ?_) | refine yV rfl rfl (fun _ _ _ => zC rfl rfl rfl) ?_ | refine yV rfl rfl (fun _ _ _ => zD rfl rfl rfl) ?_ | refine yV rfl rfl (fun _ _ _ => zH rfl rfl) ?_)))
          all_goals (first | (exfalso; omega) | skip)
          have x4e := xq
          refine E_loop (ι := Nat) (fun k => [(1, .pointer (some ⟨bB, 0, none⟩)), (4, .pointer (some ⟨b4, 0, none⟩)), (5, int k), (7, .slice (some ⟨b, off, none⟩) xs.length cap), (8, int xs.length), (9, int i)])
            (fun k w2 => 1 ≤ k ∧ k ≤ x.ids.length ∧ Ext w4 w2 ∧ rise x.ids = rise (x.ids.drop (k - 1))) (fun k => x.ids.length - k) 1
            ⟨rfl, rfl, rfl, rfl, rfl, rfl, trivial⟩ ⟨Nat.le_refl _, hne1, x4e, rfl⟩ ?_
          rintro k w2 ⟨hk1, hk, hx2, hrs⟩
          have r4k := r4.ext hx2
          by_cases hlt2 : k < x.ids.length
          · obtain ⟨bx, ox, rfl⟩ := hpx (by omega)
            obtain ⟨q, hqq⟩ : ∃ q, x.ids[k]? = some q := ⟨_, List.getElem?_eq_getElem hlt2⟩
            obtain ⟨q', hqq'⟩ : ∃ q, x.ids[k - 1]? = some q := ⟨_, List.getElem?_eq_getElem (by omega)⟩
            have hcq := int_elem (hivx0.ext (x4.trans hx2)) hqq
            have hcq' := int_elem (hivx0.ext (x4.trans hx2)) hqq'
            have hst := rise_step hk1 hqq' hqq
            (repeat' (first | refine eV rfl rfl (val_load rfl rfl rfl (r4k.cellAt rfl)) ?_ | refine yV rfl rfl (fun wq _ xq => val_load rfl rfl rfl ((r4k.ext xq).cellAt rfl)) ?_ | refine yV rfl rfl (fun _ _ _ => val_indexAddr (m := k) rfl rfl rfl rfl (by omega)) ?_ | refine yV rfl rfl (fun _ _ _ => val_indexAddr (m := k - 1) rfl rfl rfl (by omega) (by omega)) ?_ | refine yV rfl rfl (fun wq _ xq => val_load rfl rfl rfl (xq.cell hcq)) ?_ | refine yV rfl rfl (fun wq _ xq => val_load rfl rfl rfl (xq.cell hcq')) ?_ | (refine at_EL ?_; first | refine eN ?_ | refine eV rfl rfl (zA rfl rfl) ?_ | refine eV rfl rfl (zB rfl rfl) ?_ | (refine at_bin ?_; first | refine eD rfl rfl (zL rfl rfl rfl) (fun hh => ?_) (fun hh => ?_) | refine eV rfl rfl (zU rfl rfl rfl (by omega) (by omega)) ?_) | (refine at_call ?_; first | refine eV rfl rfl (zK rfl rfl) ?_) | refine eV rfl rfl (zH rfl rfl) ?_) | (refine at_K ?_; first | refine K_then ?_ | refine K_in ?_ | refine K_then_ret ?_ | refine K_then_exit ?_ | refine K_in_ret ?_ | refine K_in_exit ?_) | (refine at_E ?_; first | refine E_seq ?_ | refine E_region ?_ | refine E_cond_t rfl ?_ | refine E_cond_f rfl ?_ | refine E_block ?_ | refine E_skip ?_ | refine E_ret ?_ | refine E_exit ?_ | refine E_dq mixedOk (by kernel_rfl) rfl ?_) | (refine at_RQ ?_; first | refine yN rfl (fun wq xq => ?_) | refine yV rfl rfl (fun _ _ _ => zA rfl rfl) ?_ | (refine at_binR ?_; first | refine yD rfl rfl (fun _ _ _ => zN rfl rfl rfl) (fun hh => ?_) (fun hh => ?_) | refine yV rfl rfl (fun _ _ _ => zV rfl rfl rfl (by omega) (by omega)) ?_) | refine yV rfl rfl (fun _ _ _ => zH rfl rfl) ?_)))
            all_goals (first | (exfalso; omega) | skip)
            · refine ret_1 rfl rfl ⟨?_, x0r.trans (x4.trans (hx2.trans xq))⟩
              rw [hch, chk_rise hxx hrole hord (by intro e; rw [e] at hlt2; simp at hlt2) (by rw [hrs, hst, decide_eq_false (by omega)]; rfl)]
            · exact K_rnd (k + 1) ⟨rfl, rfl, rfl, rfl, rfl, rfl, trivial⟩ ⟨by omega, by omega, hx2.trans xq, by rw [hrs, hst, decide_eq_true (by omega), Bool.true_and, Nat.add_sub_cancel]⟩ (by omega)
          · (repeat' (first | refine eV rfl rfl (val_load rfl rfl rfl (r4k.cellAt rfl)) ?_ | (refine at_EL ?_; first | refine eN ?_ | refine eV rfl rfl (zA rfl rfl) ?_ | (refine at_bin ?_; first | refine eD rfl rfl (zL rfl rfl rfl) (fun hh => ?_) (fun hh => ?_) | refine eV rfl rfl (zU rfl rfl rfl (by omega) (by omega)) ?_) | (refine at_call ?_; first | refine eV rfl rfl (zK rfl rfl) ?_) | refine eV rfl rfl (zH rfl rfl) ?_) | (refine at_K ?_; first | refine K_then ?_ | refine K_in ?_ | refine K_then_exit ?_ | refine K_in_exit ?_) | (refine at_E ?_; first | refine E_seq ?_ | refine E_region ?_ | refine E_cond_t rfl ?_ | refine E_cond_f rfl ?_ | refine E_block ?_ | refine E_skip ?_ | refine E_exit ?_)))
            all_goals (first | (exfalso; omega) | skip)
            refine K_rnd (i + 1) ⟨rfl, rfl, rfl, rfl, trivial⟩ ⟨by omega, hx.trans (x4.trans hx2), ?_⟩ (by omega)
            rw [hch, chk_next hxx hrole hord (by intro e; rw [e] at hne1; simp at hne1) (by rw [hrs, rise_end (by omega)])]
      · have hcl : ¬ cmpF q x.role x.text < 0 := fun h => hl (cmp_lt.1 h)
        (repeat' (first | refine eV rfl rfl (val_load rfl rfl rfl (r4.cellAt rfl)) ?_ | refine eV rfl rfl (val_load rfl rfl rfl ((r4.ext xq).cellAt rfl)) ?_ | refine yV rfl rfl (fun wq _ xq => val_load rfl rfl rfl ((r4.ext xq).cellAt rfl)) ?_ | refine yV rfl rfl (fun wq _ xq => val_load rfl rfl rfl ((rB4.ext xq).cellAt rfl)) ?_ | refine yV rfl rfl (fun _ _ _ => val_indexAddr (m := i - 1) rfl rfl rfl (by omega) (by omega)) ?_ | refine yV rfl rfl (fun wq _ xq => val_loadA rfl rfl rfl (hatq.ext xq) rfl) ?_ | refine RQ_call rfl rfl (fun _ _ _ => entersF rfl rfl en38) (fun wq xq => cmp_any q ivq x.role x.text wq) ?_ | (refine at_EL ?_; first | refine eN ?_ | refine eO rfl rfl ?_ | refine eV rfl rfl (zA rfl rfl) ?_ | refine eV rfl rfl (zB rfl rfl) ?_ | (refine at_bin ?_; first | refine eD rfl rfl (zL rfl rfl rfl) (fun hh => ?_) (fun hh => ?_) | refine eD rfl rfl (zM rfl rfl rfl) (fun hh => ?_) (fun hh => ?_) | refine eD rfl rfl (zO rfl rfl rfl) (fun hh => ?_) (fun hh => ?_)) | (refine at_call ?_; first | refine eV rfl rfl (zK rfl rfl) ?_) | refine eV rfl rfl (zC rfl rfl rfl) ?_ | refine eV rfl rfl (zD rfl rfl rfl) ?_ | refine eV rfl rfl (zH rfl rfl) ?_) | (refine at_K ?_; first | refine K_then ?_ | refine K_then_ret ?_ | refine K_in_ret ?_) | (refine at_E ?_; first | refine E_seq ?_ | refine E_region ?_ | refine E_cond_t rfl ?_ | refine E_cond_f rfl ?_ | refine E_block ?_ | refine E_skip ?_ | refine E_ret ?_ | refine E_dq mixedOk (by kernel_rfl) rfl ?_) | (refine at_RQ ?_; first | refine yN rfl (fun wq xq => ?_) | refine yO rfl rfl ?_ | refine yV rfl rfl (fun _ _ _ => zA rfl rfl) ?_ | (refine at_binR ?_; first | refine yD rfl rfl (fun _ _ _ => zO rfl rfl rfl) (fun hh => ?_) (fun hh => ?_) | refine yD rfl rfl (fun _ _ _ => zP rfl rfl rfl) (fun hh => ?_) (fun hh => ?_) | refine yV rfl rfl (fun _ _ _ => zV rfl rfl rfl (by omega) (by omega)) ?_) | refine yV rfl rfl (fun _ _ _ => zC rfl rfl rfl) ?_ | refine yV rfl rfl (fun _ _ _ => zD rfl rfl rfl) ?_ | refine yV rfl rfl (fun _ _ _ => zH rfl rfl) ?_)))
        all_goals (first | (exfalso; omega) | skip)
        all_goals exact ret_1 rfl rfl ⟨by rw [hch, chk_ord hxx hrole hi0 hq hl], x0r.trans (x4.trans xq)⟩
    · have hord : OrdOk xs i x := .inl (by omega)
      by_cases hnil : x.ids.length = 0
      · (repeat' (first | refine eV rfl rfl (val_load rfl rfl rfl (r4.cellAt rfl)) ?_ | refine eV rfl rfl (val_load rfl rfl rfl ((r4.ext xq).cellAt rfl)) ?_ | (refine at_EL ?_; first | refine eN ?_ | refine eO rfl rfl ?_ | refine eV rfl rfl (zA rfl rfl) ?_ | refine eV rfl rfl (zB rfl rfl) ?_ | (refine at_bin ?_; first | refine eD rfl rfl (zL rfl rfl rfl) (fun hh => ?_) (fun hh => ?_) | refine eD rfl rfl (zM rfl rfl rfl) (fun hh => ?_) (fun hh => ?_) | refine eD rfl rfl (zO rfl rfl rfl) (fun hh => ?_) (fun hh => ?_)) | (refine at_call ?_; first | refine eV rfl rfl (zK rfl rfl) ?_) | refine eV rfl rfl (zC rfl rfl rfl) ?_ | refine eV rfl rfl (zD rfl rfl rfl) ?_ | refine eV rfl rfl (zH rfl rfl) ?_) | (refine at_K ?_; first | refine K_then ?_ | refine K_then_ret ?_ | refine K_in_ret ?_) | (refine at_E ?_; first | refine E_seq ?_ | refine E_region ?_ | refine E_cond_t rfl ?_ | refine E_cond_f rfl ?_ | refine E_block ?_ | refine E_skip ?_ | refine E_ret ?_ | refine E_dq mixedOk (by kernel_rfl) rfl ?_) | (refine at_RQ ?_; first | refine yN rfl (fun wq xq => ?_) | refine yO rfl rfl ?_ | refine yV rfl rfl (fun _ _ _ => zA rfl rfl) ?_ | (refine at_binR ?_; first | refine yD rfl rfl (fun _ _ _ => zO rfl rfl rfl) (fun hh => ?_) (fun hh => ?_)) | refine yV rfl rfl (fun _ _ _ => zD rfl rfl rfl) ?_ | refine yV rfl rfl (fun _ _ _ => zH rfl rfl) ?_)))
        all_goals (first | (exfalso; omega) | skip)
        all_goals exact ret_1 rfl rfl ⟨by rw [hch, chk_short hxx hrole hord (List.length_eq_zero_iff.1 hnil)], x0r.trans (x4.trans xq)⟩
      · have hne1 : 1 ≤ x.ids.length := by omega
        (repeat' (first | refine eV rfl rfl (val_load rfl rfl rfl (r4.cellAt rfl)) ?_ | refine eV rfl rfl (val_load rfl rfl rfl ((r4.ext xq).cellAt rfl)) ?_ | (refine at_EL ?_; first | refine eN ?_ | refine eO rfl rfl ?_ | refine eV rfl rfl (zA rfl rfl) ?_ | refine eV rfl rfl (zB rfl rfl) ?_ | (refine at_bin ?_; first | refine eD rfl rfl (zL rfl rfl rfl) (fun hh => ?_) (fun hh => ?_) | refine eD rfl rfl (zM rfl rfl rfl) (fun hh => ?_) (fun hh => ?_) | refine eD rfl rfl (zO rfl rfl rfl) (fun hh => ?_) (fun hh => ?_)) | (refine at_call ?_; first | refine eV rfl rfl (zK rfl rfl) ?_) | refine eV rfl rfl (zC rfl rfl rfl) ?_ | refine eV rfl rfl (zD rfl rfl rfl) ?_ | refine eV rfl rfl (zH rfl rfl) ?_) | (refine at_K ?_; first | refine K_then ?_ | refine K_then_ret ?_ | refine K_in_ret ?_) | (refine at_E ?_; first | refine E_seq ?_ | refine E_region ?_ | refine E_cond_t rfl ?_ | refine E_cond_f rfl ?_ | refine E_block ?_ | refine E_skip ?_ | refine E_ret ?_ | refine E_dq mixedOk (by kernel_rfl) rfl ?_) | (refine at_RQ ?_; first | refine yN rfl (fun wq xq => ?_) | refine yO rfl rfl ?_ | refine yV rfl rfl (fun _ _ _ => zA rfl rfl) ?_ | (refine at_binR ?_; first | refine yD rfl rfl (fun _ _ _ => zO rfl rfl rfl) (fun hh => ?_) (fun hh => ?_)) | refine yV rfl rfl (fun _ _ _ => zD rfl rfl rfl) ?_ | refine yV rfl rfl (fun _ _ _ => zH rfl rfl) ?_)))
        all_goals (first | (exfalso; omega) | skip)
        have x4e := xq
        refine E_loop (ι := Nat) (fun k => [(1, .pointer (some ⟨bB, 0, none⟩)), (4, .pointer (some ⟨b4, 0, none⟩)), (5, int k), (7, .slice (some ⟨b, off, none⟩) xs.length cap), (8, int xs.length), (9, int i)])
          (fun k w2 => 1 ≤ k ∧ k ≤ x.ids.length ∧ Ext w4 w2 ∧ rise x.ids = rise (x.ids.drop (k - 1))) (fun k => x.ids.length - k) 1
          ⟨rfl, rfl, rfl, rfl, rfl, rfl, trivial⟩ ⟨Nat.le_refl _, hne1, x4e, rfl⟩ ?_
        rintro k w2 ⟨hk1, hk, hx2, hrs⟩
        have r4k := r4.ext hx2
        by_cases hlt2 : k < x.ids.length
        · obtain ⟨bx, ox, rfl⟩ := hpx (by omega)
          obtain ⟨q, hqq⟩ : ∃ q, x.ids[k]? = some q := ⟨_, List.getElem?_eq_getElem hlt2⟩
          obtain ⟨q', hqq'⟩ : ∃ q, x.ids[k - 1]? = some q := ⟨_, List.getElem?_eq_getElem (by omega)⟩
          have hcq := int_elem (hivx0.ext (x4.trans hx2)) hqq
          have hcq' := int_elem (hivx0.ext (x4.trans hx2)) hqq'
          have hst := rise_step hk1 hqq' hqq
          (repeat' (first | refine eV rfl rfl (val_load rfl rfl rfl (r4k.cellAt rfl)) ?_ | refine yV rfl rfl (fun wq _ xq => val_load rfl rfl rfl ((r4k.ext xq).cellAt rfl)) ?_ | refine yV rfl rfl (fun _ _ _ => val_indexAddr (m := k) rfl rfl rfl rfl (by omega)) ?_ | refine yV rfl rfl (fun _ _ _ => val_indexAddr (m := k - 1) rfl rfl rfl (by omega) (by omega)) ?_ | refine yV rfl rfl (fun wq _ xq => val_load rfl rfl rfl (xq.cell hcq)) ?_ | refine yV rfl rfl (fun wq _ xq => val_load rfl rfl rfl (xq.cell hcq')) ?_ | (refine at_EL ?_; first | refine eN ?_ | refine eV rfl rfl (zA rfl rfl) ?_ | refine eV rfl rfl (zB rfl rfl) ?_ | (refine at_bin ?_; first | refine eD rfl rfl (zL rfl rfl rfl) (fun hh => ?_) (fun hh => ?_) | refine eV rfl rfl (zU rfl rfl rfl (by omega) (by omega)) ?_) | (refine at_call ?_; first | refine eV rfl rfl (zK rfl rfl) ?_) | refine eV rfl rfl (zH rfl rfl) ?_) | (refine at_K ?_; first | refine K_then ?_ | refine K_in ?_ | refine K_then_ret ?_ | refine K_then_exit ?_ | refine K_in_ret ?_ | refine K_in_exit ?_) | (refine at_E ?_; first | refine E_seq ?_ | refine E_region ?_ | refine E_cond_t rfl ?_ | refine E_cond_f rfl ?_ | refine E_block ?_ | refine E_skip ?_ | refine E_ret ?_ | refine E_exit ?_ | refine E_dq mixedOk (by kernel_rfl) rfl ?_) | (refine at_RQ ?_; first | refine yN rfl (fun wq xq => ?_) | refine yV rfl rfl (fun _ _ _ => zA rfl rfl) ?_ | (refine at_binR ?_; first | refine yD rfl rfl (fun _ _ _ => zN rfl rfl rfl) (fun hh => ?_) (fun hh => ?_) | refine yV rfl rfl (fun _ _ _ => zV rfl rfl rfl (by omega) (by omega)) ?_) | refine yV rfl rfl (fun _ _ _ => zH rfl rfl) ?_)))
          all_goals (first | (exfalso; omega) | skip)
          · refine ret_1 rfl rfl ⟨?_, x0r.trans (x4.trans (hx2.trans xq))⟩
            rw [hch, chk_rise hxx hrole hord (by intro e; rw [e] at hlt2; simp at hlt2) (by rw [hrs, hst, decide_eq_false (by omega)]; rfl)]
          · exact K_rnd (k + 1) ⟨rfl, rfl, rfl, rfl, rfl, rfl, trivial⟩ ⟨by omega, by omega, hx2.trans xq, by rw [hrs, hst, decide_eq_true (by omega), Bool.true_and, Nat.add_sub_cancel]⟩ (by omega)
        · (repeat' (first | refine eV rfl rfl (val_load rfl rfl rfl (r4k.cellAt rfl)) ?_ | (refine at_EL ?_; first | refine eN ?_ | refine eV rfl rfl (zA rfl rfl) ?_ | (refine at_bin ?_; first | refine eD rfl rfl (zL rfl rfl rfl) (fun hh => ?_) (fun hh => ?_) | refine eV rfl rfl (zU rfl rfl rfl (by omega) (by omega)) ?_) | (refine at_call ?_; first | refine eV rfl rfl (zK rfl rfl) ?_) | refine eV rfl rfl (zH rfl rfl) ?_) | (refine at_K ?_; first | refine K_then ?_ | refine K_in ?_ | refine K_then_exit ?_ | refine K_in_exit ?_) | (refine at_E ?_; first | refine E_seq ?_ | refine E_region ?_ | refine E_cond_t rfl ?_ | refine E_cond_f rfl ?_ | refine E_block ?_ | refine E_skip ?_ | refine E_exit ?_)))
          all_goals (first | (exfalso; omega) | skip)
          refine K_rnd (i + 1) ⟨rfl, rfl, rfl, rfl, trivial⟩ ⟨by omega, hx.trans (x4.trans hx2), ?_⟩ (by omega)
          rw [hch, chk_next hxx hrole hord (by intro e; rw [e] at hne1; simp at hne1) (by rw [hrs, rise_end (by omega)])]
  · (repeat' (first | (refine at_EL ?_; first | refine eN ?_ | refine eV rfl rfl (zA rfl rfl) ?_ | refine eV rfl rfl (zB rfl rfl) ?_ | (refine at_bin ?_; first | refine eD rfl rfl (zL rfl rfl rfl) (fun hh => ?_) (fun hh => ?_))) | (refine at_K ?_; first | refine K_then ?_ | refine K_then_exit ?_ | refine K_in_exit ?_) | (refine at_E ?_; first | refine E_seq ?_ | refine E_region ?_ | refine E_cond_t rfl ?_ | refine E_cond_f rfl ?_ | refine E_block ?_ | refine E_skip ?_ | refine E_ret ?_ | refine E_exit ?_)))
    all_goals (first | (exfalso; omega) | skip)
    exact ret_1 rfl rfl ⟨by rw [hch, chk_end (by omega)], x0r⟩
set_option maxHeartbeats 1000000 in
theorem rcheck_any (xs : List Post) (v : Value) (w : World) (hv : Sl w v xs) : Calls Tryd.prog 16 #[.agg #[v]] w (Rt fun u w' => u = int (checkP xs) ∧ Ext w w') := by
  refine calls_E (n := 58) (args := [.agg #[v]]) Tryd.func16 rfl Tryd.ntmps16 (by simp) ?_
  have hv0 := hv
  obtain ⟨a, cap, rfl, hc, hm, hp⟩ := hv.sl
  refine E_seq ?_
  refine E_region ?_
  refine EL_box rfl rfl rfl rfl (fun bB wB xB hbB rB => ?_)
  (repeat' (first | (refine at_EL ?_; first | refine eN ?_ | refine eV rfl rfl (zB rfl rfl) ?_) | (refine at_K ?_; first | refine K_then ?_) | (refine at_E ?_; first | refine E_seq ?_ | refine E_region ?_ | refine E_block ?_)))
  refine E_loop (ι := Nat) (fun i => [(1, .pointer (some ⟨bB, 0, none⟩)), (3, int i)])
    (fun i wr => i ≤ xs.length ∧ Ext wB wr ∧ checkP xs = checkFrom xs i) (fun i => xs.length - i) 0
    ⟨rfl, rfl, trivial⟩ ⟨Nat.zero_le _, Ext.refl _, rfl⟩ ?_
  rintro i wr ⟨hi, hx, hch⟩
  have rBr := rB.ext hx
  have x0r := xB.trans hx
  by_cases hlt : i < xs.length
  · obtain ⟨b, off, rfl⟩ := hp (by omega)
    obtain ⟨x, hxx⟩ : ∃ x, xs[i]? = some x := ⟨_, List.getElem?_eq_getElem hlt⟩
    obtain ⟨ivx, hatx, hivx⟩ := post_elem (hv0.ext x0r) hxx
    have hivx0 := hivx
    obtain ⟨ax, capx, rfl, hcx, hmx, hpx⟩ := hivx.sl
    (repeat' (first | refine eV rfl rfl (val_load rfl rfl rfl (rBr.cellAt rfl)) ?_ | refine eV rfl rfl (val_indexAddr (m := i) rfl rfl rfl rfl (by omega)) ?_ | refine eV rfl rfl (val_loadA rfl rfl rfl hatx rfl) ?_ | (refine at_EL ?_; first | refine eN ?_ | refine eV rfl rfl (zA rfl rfl) ?_ | refine eV rfl rfl (zB rfl rfl) ?_ | (refine at_bin ?_; first | refine eD rfl rfl (zL rfl rfl rfl) (fun hh => ?_) (fun hh => ?_)) | (refine at_call ?_; first | refine eV rfl rfl (zK rfl rfl) ?_) | refine eV rfl rfl (zH rfl rfl) ?_) | (refine at_K ?_; first | refine K_then ?_ | refine K_then_exit ?_ | refine K_in_exit ?_) | (refine at_E ?_; first | refine E_seq ?_ | refine E_region ?_ | refine E_cond_t rfl ?_ | refine E_cond_f rfl ?_ | refine E_block ?_ | refine E_skip ?_ | refine E_ret ?_ | refine E_exit ?_)))
    all_goals (first | (exfalso; omega) | skip)
    refine EL_alloc rfl rfl rfl (fun b4 w3 x3 hb4 r3 => ?_)
    refine EL_storeP (cs := [int x.role, str x.text, .slice ax x.ids.length capx]) r3 x3 (by omega) rfl rfl rfl rfl rfl rfl rfl rfl (Nat.le_refl _) (fun w5 r5' x5 k5 => ?_)
    have r5 : Row w5 b4 42 [int x.role, str x.text, .slice ax x.ids.length capx] := r5'
    clear r5'
    have c39 := role_any x.role
    cases hrole : isRole x.role with
    | false =>
      rw [hrole] at c39
      (repeat' (first | refine eV rfl rfl (val_load rfl rfl rfl (r5.cellAt rfl)) ?_ | (refine EL_call rfl rfl (entersF rfl rfl en39) (c39 _) (fun vC wC hC => ?_); obtain ⟨rfl, xC⟩ := hC) | (refine at_EL ?_; first | refine eN ?_ | refine eV rfl rfl (zB rfl rfl) ?_ | refine eV rfl rfl (zE rfl rfl) ?_ | refine eV rfl rfl (zH rfl rfl) ?_) | (refine at_K ?_; first | refine K_then ?_ | refine K_then_ret ?_ | refine K_in_ret ?_) | (refine at_E ?_; first | refine E_seq ?_ | refine E_region ?_ | refine E_cond_t rfl ?_ | refine E_ret ?_)))
      exact ret_1 rfl rfl ⟨by rw [hch, chk_role hxx hrole], x0r.trans (x5.trans xC)⟩
    | true =>
    rw [hrole] at c39
    by_cases hi0 : 0 < i
    · obtain ⟨q, hq⟩ : ∃ q, xs[i - 1]? = some q := ⟨_, List.getElem?_eq_getElem (by omega)⟩
      obtain ⟨ivq, hatq, _⟩ := post_elem (hv0.ext (x0r.trans x5)) hq
      have c40 := less_any q x ivq (.slice ax x.ids.length capx)
      by_cases hl : ltK q.role q.text x.role x.text
      · have hord : OrdOk xs i x := .inr ⟨q, hq, hl⟩
        rw [decide_eq_true hl] at c40
        by_cases hnil : x.ids.length = 0
        · have h0 := hnil
          (repeat' (first | refine eV rfl rfl (val_load rfl rfl rfl (r5.cellAt rfl)) ?_ | (refine EL_call rfl rfl (entersF rfl rfl en39) (c39 _) (fun vC w4 hC => ?_); obtain ⟨rfl, xC⟩ := hC; have x4 := x5.trans xC; have r4 := r5.ext xC; have rB4 := rBr.ext x4) | refine eV rfl rfl (val_load rfl rfl rfl ((r4.ext xq).cellAt rfl)) ?_ | refine yV rfl rfl (fun wq _ xq => val_load rfl rfl rfl ((rB4.ext xq).cellAt rfl)) ?_ | refine yV rfl rfl (fun _ _ _ => val_indexAddr (m := i - 1) rfl rfl rfl (by omega) (by omega)) ?_ | refine yV rfl rfl (fun wq _ xq => val_loadA rfl rfl rfl (hatq.ext (xC.trans xq)) rfl) ?_ | refine yV rfl rfl (fun wq _ xq => val_loadA rfl rfl rfl (r4.ext xq).at rfl) ?_ | refine RQ_call rfl rfl (fun _ _ _ => entersF rfl rfl en40) (fun wq xq => c40 wq) ?_ | (refine at_EL ?_; first | refine eN ?_ | refine eV rfl rfl (zB rfl rfl) ?_ | (refine at_bin ?_; first | refine eD rfl rfl (zM rfl rfl rfl) (fun hh => ?_) (fun hh => ?_)) | (refine at_call ?_; first | refine eV rfl rfl (zK rfl rfl) ?_) | refine eV rfl rfl (zE rfl rfl) ?_ | refine eV rfl rfl (zH rfl rfl) ?_) | (refine at_K ?_; first | refine K_then ?_ | refine K_then_ret ?_ | refine K_in_ret ?_) | (refine at_E ?_; first | refine E_seq ?_ | refine E_region ?_ | refine E_cond_t rfl ?_ | refine E_cond_f rfl ?_ | refine E_block ?_ | refine E_skip ?_ | refine E_ret ?_ | refine E_dq mixedOk (by kernel_rfl) rfl ?_) | (refine at_RQ ?_; first | refine yN rfl (fun wq xq => ?_) | refine yO rfl rfl ?_ | refine yV rfl rfl (fun _ _ _ => zA rfl rfl) ?_ | (refine at_binR ?_; first | refine yD rfl rfl (fun _ _ _ => zO rfl rfl rfl) (fun hh => ?_) (fun hh => ?_) | refine yV rfl rfl (fun _ _ _ => zV rfl rfl rfl (by omega) (by omega)) ?_) | refine yV rfl rfl (fun _ _ _ => zC rfl rfl rfl) ?_ | refine yV rfl rfl (fun _ _ _ => zD rfl rfl rfl) ?_ | refine yV rfl rfl (fun _ _ _ => zE rfl rfl) ?_ | refine yV rfl rfl (fun _ _ _ => zH rfl rfl) ?_)))
          all_goals (first | (exfalso; omega) | skip)
          all_goals exact ret_1 rfl rfl ⟨by rw [hch, chk_short hxx hrole hord (List.length_eq_zero_iff.1 hnil)], x0r.trans (x4.trans xq)⟩
        · have hne1 : 1 ≤ x.ids.length := by omega
          (repeat' (first | refine eV rfl rfl (val_load rfl rfl rfl (r5.cellAt rfl)) ?_ | (refine EL_call rfl rfl (entersF rfl rfl en39) (c39 _) (fun vC w4 hC => ?_); obtain ⟨rfl, xC⟩ := hC; have x4 := x5.trans xC; have r4 := r5.ext xC; have rB4 := rBr.ext x4) | refine eV rfl rfl (val_load rfl rfl rfl ((r4.ext xq).cellAt rfl)) ?_ | refine yV rfl rfl (fun wq _ xq => val_load rfl rfl rfl ((rB4.ext xq).cellAt rfl)) ?_ | refine yV rfl rfl (fun _ _ _ => val_indexAddr (m := i - 1) rfl rfl rfl (by omega) (by omega)) ?_ | refine yV rfl rfl (fun wq _ xq => val_loadA rfl rfl rfl (hatq.ext (xC.trans xq)) rfl) ?_ | refine yV rfl rfl (fun wq _ xq => val_loadA rfl rfl rfl (r4.ext xq).at rfl) ?_ | refine RQ_call rfl rfl (fun _ _ _ => entersF rfl rfl en40) (fun wq xq => c40 wq) ?_ | (refine at_EL ?_; first | refine eN ?_ | refine eV rfl rfl (zB rfl rfl) ?_ | (refine at_bin ?_; first | refine eD rfl rfl (zM rfl rfl rfl) (fun hh => ?_) (fun hh => ?_)) | (refine at_call ?_; first | refine eV rfl rfl (zK rfl rfl) ?_) | refine eV rfl rfl (zE rfl rfl) ?_ | refine eV rfl rfl (zH rfl rfl) ?_) | (refine at_K ?_; first | refine K_then ?_ | refine K_then_ret ?_ | refine K_in_ret ?_) | (refine at_E ?_; first | refine E_seq ?_ | refine E_region ?_ | refine E_cond_t rfl ?_ | refine E_cond_f rfl ?_ | refine E_block ?_ | refine E_skip ?_ | refine E_ret ?_ | refine E_dq mixedOk (by kernel_rfl) rfl ?_) | (refine at_RQ ?_; first | refine yN rfl (fun wq xq => ?_) | refine yO rfl rfl ?_ | refine yV rfl rfl (fun _ _ _ => zA rfl rfl) ?_ | (refine at_binR ?_; first | refine yD rfl rfl (fun _ _ _ => zO rfl rfl rfl) (fun hh => ?_) (fun hh => ?_) | refine yV rfl rfl (fun _ _ _ => zV rfl rfl rfl (by omega) (by omega)) ?_) | refine yV rfl rfl (fun _ _ _ => zC rfl rfl rfl) ?_ | refine yV rfl rfl (fun _ _ _ => zD rfl rfl rfl) ?_ | refine yV rfl rfl (fun _ _ _ => zE rfl rfl) ?_ | refine yV rfl rfl (fun _ _ _ => zH rfl rfl) ?_)))
          all_goals (first | (exfalso; omega) | skip)
          have x4e := xq
          refine E_loop (ι := Nat) (fun k => [(1, .pointer (some ⟨bB, 0, none⟩)), (3, int i), (4, .pointer (some ⟨b4, 0, none⟩)), (5, int k)])
            (fun k w2 => 1 ≤ k ∧ k ≤ x.ids.length ∧ Ext w4 w2 ∧ rise x.ids = rise (x.ids.drop (k - 1))) (fun k => x.ids.length - k) 1
            ⟨rfl, rfl, rfl, rfl, trivial⟩ ⟨Nat.le_refl _, hne1, x4e, rfl⟩ ?_
          rintro k w2 ⟨hk1, hk, hx2, hrs⟩
          have r4k := r4.ext hx2
          by_cases hlt2 : k < x.ids.length
          · obtain ⟨bx, ox, rfl⟩ := hpx (by omega)
            obtain ⟨q, hqq⟩ : ∃ q, x.ids[k]? = some q := ⟨_, List.getElem?_eq_getElem hlt2⟩
            obtain ⟨q', hqq'⟩ : ∃ q, x.ids[k - 1]? = some q := ⟨_, List.getElem?_eq_getElem (by omega)⟩
            have hcq := int_elem (hivx0.ext (x4.trans hx2)) hqq
            have hcq' := int_elem (hivx0.ext (x4.trans hx2)) hqq'
            have hst := rise_step hk1 hqq' hqq
            (repeat' (first | refine eV rfl rfl (val_load rfl rfl rfl (r4k.cellAt rfl)) ?_ | refine yV rfl rfl (fun wq _ xq => val_load rfl rfl rfl ((r4k.ext xq).cellAt rfl)) ?_ | refine yV rfl rfl (fun _ _ _ => val_indexAddr (m := k) rfl rfl rfl rfl (by omega)) ?_ | refine yV rfl rfl (fun _ _ _ => val_indexAddr (m := k - 1) rfl rfl rfl (by omega) (by omega)) ?_ | refine yV rfl rfl (fun wq _ xq => val_load rfl rfl rfl (xq.cell hcq)) ?_ | refine yV rfl rfl (fun wq _ xq => val_load rfl rfl rfl (xq.cell hcq')) ?_ | (refine at_EL ?_; first | refine eN ?_ | refine eV rfl rfl (zA rfl rfl) ?_ | refine eV rfl rfl (zB rfl rfl) ?_ | (refine at_bin ?_; first | refine eD rfl rfl (zL rfl rfl rfl) (fun hh => ?_) (fun hh => ?_) | refine eV rfl rfl (zU rfl rfl rfl (by omega) (by omega)) ?_) | (refine at_call ?_; first | refine eV rfl rfl (zK rfl rfl) ?_) | refine eV rfl rfl (zH rfl rfl) ?_) | (refine at_K ?_; first | refine K_then ?_ | refine K_in ?_ | refine K_then_ret ?_ | refine K_then_exit ?_ | refine K_in_ret ?_ | refine K_in_exit ?_) | (refine at_E ?_; first | refine E_seq ?_ | refine E_region ?_ | refine E_cond_t rfl ?_ | refine E_cond_f rfl ?_ | refine E_block ?_ | refine E_skip ?_ | refine E_ret ?_ | refine E_exit ?_ | refine E_dq mixedOk (by kernel_rfl) rfl ?_) | (refine at_RQ ?_; first | refine yN rfl (fun wq xq => ?_) | refine yV rfl rfl (fun _ _ _ => zA rfl rfl) ?_ | (refine at_binR ?_; first | refine yD rfl rfl (fun _ _ _ => zN rfl rfl rfl) (fun hh => ?_) (fun hh => ?_) | refine yV rfl rfl (fun _ _ _ => zV rfl rfl rfl (by omega) (by omega)) ?_) | refine yV rfl rfl (fun _ _ _ => zH rfl rfl) ?_)))
            all_goals (first | (exfalso; omega) | skip)
            · refine ret_1 rfl rfl ⟨?_, x0r.trans (x4.trans (hx2.trans xq))⟩
              rw [hch, chk_rise hxx hrole hord (by intro e; rw [e] at hlt2; simp at hlt2) (by rw [hrs, hst, decide_eq_false (by omega)]; rfl)]
            · exact K_rnd (k + 1) ⟨rfl, rfl, rfl, rfl, trivial⟩ ⟨by omega, by omega, hx2.trans xq, by rw [hrs, hst, decide_eq_true (by omega), Bool.true_and, Nat.add_sub_cancel]⟩ (by omega)
          · (repeat' (first | refine eV rfl rfl (val_load rfl rfl rfl (r4k.cellAt rfl)) ?_ | (refine at_EL ?_; first | refine eN ?_ | refine eV rfl rfl (zA rfl rfl) ?_ | refine eV rfl rfl (zB rfl rfl) ?_ | (refine at_bin ?_; first | refine eD rfl rfl (zL rfl rfl rfl) (fun hh => ?_) (fun hh => ?_) | refine eV rfl rfl (zU rfl rfl rfl (by omega) (by omega)) ?_) | (refine at_call ?_; first | refine eV rfl rfl (zK rfl rfl) ?_) | refine eV rfl rfl (zH rfl rfl) ?_) | (refine at_K ?_; first | refine K_then ?_ | refine K_in ?_ | refine K_then_exit ?_ | refine K_in_exit ?_) | (refine at_E ?_; first | refine E_seq ?_ | refine E_region ?_ | refine E_cond_t rfl ?_ | refine E_cond_f rfl ?_ | refine E_block ?_ | refine E_skip ?_ | refine E_exit ?_)))
            all_goals (first | (exfalso; omega) | skip)
            refine K_rnd (i + 1) ⟨rfl, rfl, trivial⟩ ⟨by omega, hx.trans (x4.trans hx2), ?_⟩ (by omega)
            rw [hch, chk_next hxx hrole hord (by intro e; rw [e] at hne1; simp at hne1) (by rw [hrs, rise_end (by omega)])]
      · rw [decide_eq_false hl] at c40
        (repeat' (first | refine eV rfl rfl (val_load rfl rfl rfl (r5.cellAt rfl)) ?_ | (refine EL_call rfl rfl (entersF rfl rfl en39) (c39 _) (fun vC w4 hC => ?_); obtain ⟨rfl, xC⟩ := hC; have x4 := x5.trans xC; have r4 := r5.ext xC; have rB4 := rBr.ext x4) | refine eV rfl rfl (val_load rfl rfl rfl ((r4.ext xq).cellAt rfl)) ?_ | refine yV rfl rfl (fun wq _ xq => val_load rfl rfl rfl ((rB4.ext xq).cellAt rfl)) ?_ | refine yV rfl rfl (fun _ _ _ => val_indexAddr (m := i - 1) rfl rfl rfl (by omega) (by omega)) ?_ | refine yV rfl rfl (fun wq _ xq => val_loadA rfl rfl rfl (hatq.ext (xC.trans xq)) rfl) ?_ | refine yV rfl rfl (fun wq _ xq => val_loadA rfl rfl rfl (r4.ext xq).at rfl) ?_ | refine RQ_call rfl rfl (fun _ _ _ => entersF rfl rfl en40) (fun wq xq => c40 wq) ?_ | (refine at_EL ?_; first | refine eN ?_ | refine eV rfl rfl (zB rfl rfl) ?_ | (refine at_bin ?_; first | refine eD rfl rfl (zM rfl rfl rfl) (fun hh => ?_) (fun hh => ?_)) | (refine at_call ?_; first | refine eV rfl rfl (zK rfl rfl) ?_) | refine eV rfl rfl (zE rfl rfl) ?_ | refine eV rfl rfl (zH rfl rfl) ?_) | (refine at_K ?_; first | refine K_then ?_ | refine K_then_ret ?_ | refine K_in_ret ?_) | (refine at_E ?_; first | refine E_seq ?_ | refine E_region ?_ | refine E_cond_t rfl ?_ | refine E_cond_f rfl ?_ | refine E_block ?_ | refine E_skip ?_ | refine E_ret ?_ | refine E_dq mixedOk (by kernel_rfl) rfl ?_) | (refine at_RQ ?_; first | refine yN rfl (fun wq xq => ?_) | refine yO rfl rfl ?_ | refine yV rfl rfl (fun _ _ _ => zA rfl rfl) ?_ | (refine at_binR ?_; first | refine yD rfl rfl (fun _ _ _ => zO rfl rfl rfl) (fun hh => ?_) (fun hh => ?_) | refine yV rfl rfl (fun _ _ _ => zV rfl rfl rfl (by omega) (by omega)) ?_) | refine yV rfl rfl (fun _ _ _ => zC rfl rfl rfl) ?_ | refine yV rfl rfl (fun _ _ _ => zD rfl rfl rfl) ?_ | refine yV rfl rfl (fun _ _ _ => zE rfl rfl) ?_ | refine yV rfl rfl (fun _ _ _ => zH rfl rfl) ?_)))
        all_goals (first | (exfalso; omega) | skip)
        all_goals exact ret_1 rfl rfl ⟨by rw [hch, chk_ord hxx hrole hi0 hq hl], x0r.trans (x4.trans xq)⟩
    · have hord : OrdOk xs i x := .inl (by omega)
      by_cases hnil : x.ids.length = 0
      · have h0 := hnil
        (repeat' (first | refine eV rfl rfl (val_load rfl rfl rfl (r5.cellAt rfl)) ?_ | (refine EL_call rfl rfl (entersF rfl rfl en39) (c39 _) (fun vC w4 hC => ?_); obtain ⟨rfl, xC⟩ := hC; have x4 := x5.trans xC; have r4 := r5.ext xC; have rB4 := rBr.ext x4) | refine eV rfl rfl (val_load rfl rfl rfl ((r4.ext xq).cellAt rfl)) ?_ | (refine at_EL ?_; first | refine eN ?_ | refine eV rfl rfl (zB rfl rfl) ?_ | (refine at_bin ?_; first | refine eD rfl rfl (zM rfl rfl rfl) (fun hh => ?_) (fun hh => ?_)) | (refine at_call ?_; first | refine eV rfl rfl (zK rfl rfl) ?_) | refine eV rfl rfl (zE rfl rfl) ?_ | refine eV rfl rfl (zH rfl rfl) ?_) | (refine at_K ?_; first | refine K_then ?_ | refine K_then_ret ?_ | refine K_in_ret ?_) | (refine at_E ?_; first | refine E_seq ?_ | refine E_region ?_ | refine E_cond_t rfl ?_ | refine E_cond_f rfl ?_ | refine E_block ?_ | refine E_skip ?_ | refine E_ret ?_ | refine E_dq mixedOk (by kernel_rfl) rfl ?_) | (refine at_RQ ?_; first | refine yN rfl (fun wq xq => ?_) | refine yO rfl rfl ?_ | refine yV rfl rfl (fun _ _ _ => zA rfl rfl) ?_ | (refine at_binR ?_; first | refine yD rfl rfl (fun _ _ _ => zO rfl rfl rfl) (fun hh => ?_) (fun hh => ?_)) | refine yV rfl rfl (fun _ _ _ => zD rfl rfl rfl) ?_ | refine yV rfl rfl (fun _ _ _ => zH rfl rfl) ?_)))
        all_goals (first | (exfalso; omega) | skip)
        all_goals exact ret_1 rfl rfl ⟨by rw [hch, chk_short hxx hrole hord (List.length_eq_zero_iff.1 hnil)], x0r.trans (x4.trans xq)⟩
      · have hne1 : 1 ≤ x.ids.length := by omega
        (repeat' (first | refine eV rfl rfl (val_load rfl rfl rfl (r5.cellAt rfl)) ?_ | (refine EL_call rfl rfl (entersF rfl rfl en39) (c39 _) (fun vC w4 hC => ?_); obtain ⟨rfl, xC⟩ := hC; have x4 := x5.trans xC; have r4 := r5.ext xC; have rB4 := rBr.ext x4) | refine eV rfl rfl (val_load rfl rfl rfl ((r4.ext xq).cellAt rfl)) ?_ | (refine at_EL ?_; first | refine eN ?_ | refine eV rfl rfl (zB rfl rfl) ?_ | (refine at_bin ?_; first | refine eD rfl rfl (zM rfl rfl rfl) (fun hh => ?_) (fun hh => ?_)) | (refine at_call ?_; first | refine eV rfl rfl (zK rfl rfl) ?_) | refine eV rfl rfl (zE rfl rfl) ?_ | refine eV rfl rfl (zH rfl rfl) ?_) | (refine at_K ?_; first | refine K_then ?_ | refine K_then_ret ?_ | refine K_in_ret ?_) | (refine at_E ?_; first | refine E_seq ?_ | refine E_region ?_ | refine E_cond_t rfl ?_ | refine E_cond_f rfl ?_ | refine E_block ?_ | refine E_skip ?_ | refine E_ret ?_ | refine E_dq mixedOk (by kernel_rfl) rfl ?_) | (refine at_RQ ?_; first | refine yN rfl (fun wq xq => ?_) | refine yO rfl rfl ?_ | refine yV rfl rfl (fun _ _ _ => zA rfl rfl) ?_ | (refine at_binR ?_; first | refine yD rfl rfl (fun _ _ _ => zO rfl rfl rfl) (fun hh => ?_) (fun hh => ?_)) | refine yV rfl rfl (fun _ _ _ => zD rfl rfl rfl) ?_ | refine yV rfl rfl (fun _ _ _ => zH rfl rfl) ?_)))
        all_goals (first | (exfalso; omega) | skip)
        have x4e := xq
        refine E_loop (ι := Nat) (fun k => [(1, .pointer (some ⟨bB, 0, none⟩)), (3, int i), (4, .pointer (some ⟨b4, 0, none⟩)), (5, int k)])
          (fun k w2 => 1 ≤ k ∧ k ≤ x.ids.length ∧ Ext w4 w2 ∧ rise x.ids = rise (x.ids.drop (k - 1))) (fun k => x.ids.length - k) 1
          ⟨rfl, rfl, rfl, rfl, trivial⟩ ⟨Nat.le_refl _, hne1, x4e, rfl⟩ ?_
        rintro k w2 ⟨hk1, hk, hx2, hrs⟩
        have r4k := r4.ext hx2
        by_cases hlt2 : k < x.ids.length
        · obtain ⟨bx, ox, rfl⟩ := hpx (by omega)
          obtain ⟨q, hqq⟩ : ∃ q, x.ids[k]? = some q := ⟨_, List.getElem?_eq_getElem hlt2⟩
          obtain ⟨q', hqq'⟩ : ∃ q, x.ids[k - 1]? = some q := ⟨_, List.getElem?_eq_getElem (by omega)⟩
          have hcq := int_elem (hivx0.ext (x4.trans hx2)) hqq
          have hcq' := int_elem (hivx0.ext (x4.trans hx2)) hqq'
          have hst := rise_step hk1 hqq' hqq
          (repeat' (first | refine eV rfl rfl (val_load rfl rfl rfl (r4k.cellAt rfl)) ?_ | refine yV rfl rfl (fun wq _ xq => val_load rfl rfl rfl ((r4k.ext xq).cellAt rfl)) ?_ | refine yV rfl rfl (fun _ _ _ => val_indexAddr (m := k) rfl rfl rfl rfl (by omega)) ?_ | refine yV rfl rfl (fun _ _ _ => val_indexAddr (m := k - 1) rfl rfl rfl (by omega) (by omega)) ?_ | refine yV rfl rfl (fun wq _ xq => val_load rfl rfl rfl (xq.cell hcq)) ?_ | refine yV rfl rfl (fun wq _ xq => val_load rfl rfl rfl (xq.cell hcq')) ?_ | (refine at_EL ?_; first | refine eN ?_ | refine eV rfl rfl (zA rfl rfl) ?_ | refine eV rfl rfl (zB rfl rfl) ?_ | (refine at_bin ?_; first | refine eD rfl rfl (zL rfl rfl rfl) (fun hh => ?_) (fun hh => ?_) | refine eV rfl rfl (zU rfl rfl rfl (by omega) (by omega)) ?_) | (refine at_call ?_; first | refine eV rfl rfl (zK rfl rfl) ?_) | refine eV rfl rfl (zH rfl rfl) ?_) | (refine at_K ?_; first | refine K_then ?_ | refine K_in ?_ | refine K_then_ret ?_ | refine K_then_exit ?_ | refine K_in_ret ?_ | refine K_in_exit ?_) | (refine at_E ?_; first | refine E_seq ?_ | refine E_region ?_ | refine E_cond_t rfl ?_ | refine E_cond_f rfl ?_ | refine E_block ?_ | refine E_skip ?_ | refine E_ret ?_ | refine E_exit ?_ | refine E_dq mixedOk (by kernel_rfl) rfl ?_) | (refine at_RQ ?_; first | refine yN rfl (fun wq xq => ?_) | refine yV rfl rfl (fun _ _ _ => zA rfl rfl) ?_ | (refine at_binR ?_; first | refine yD rfl rfl (fun _ _ _ => zN rfl rfl rfl) (fun hh => ?_) (fun hh => ?_) | refine yV rfl rfl (fun _ _ _ => zV rfl rfl rfl (by omega) (by omega)) ?_) | refine yV rfl rfl (fun _ _ _ => zH rfl rfl) ?_)))
          all_goals (first | (exfalso; omega) | skip)
          · refine ret_1 rfl rfl ⟨?_, x0r.trans (x4.trans (hx2.trans xq))⟩
            rw [hch, chk_rise hxx hrole hord (by intro e; rw [e] at hlt2; simp at hlt2) (by rw [hrs, hst, decide_eq_false (by omega)]; rfl)]
          · exact K_rnd (k + 1) ⟨rfl, rfl, rfl, rfl, trivial⟩ ⟨by omega, by omega, hx2.trans xq, by rw [hrs, hst, decide_eq_true (by omega), Bool.true_and, Nat.add_sub_cancel]⟩ (by omega)
        · (repeat' (first | refine eV rfl rfl (val_load rfl rfl rfl (r4k.cellAt rfl)) ?_ | (refine at_EL ?_; first | refine eN ?_ | refine eV rfl rfl (zA rfl rfl) ?_ | refine eV rfl rfl (zB rfl rfl) ?_ | (refine at_bin ?_; first | refine eD rfl rfl (zL rfl rfl rfl) (fun hh => ?_) (fun hh => ?_) | refine eV rfl rfl (zU rfl rfl rfl (by omega) (by omega)) ?_) | (refine at_call ?_; first | refine eV rfl rfl (zK rfl rfl) ?_) | refine eV rfl rfl (zH rfl rfl) ?_) | (refine at_K ?_; first | refine K_then ?_ | refine K_in ?_ | refine K_then_exit ?_ | refine K_in_exit ?_) | (refine at_E ?_; first | refine E_seq ?_ | refine E_region ?_ | refine E_cond_t rfl ?_ | refine E_cond_f rfl ?_ | refine E_block ?_ | refine E_skip ?_ | refine E_exit ?_)))
          all_goals (first | (exfalso; omega) | skip)
          refine K_rnd (i + 1) ⟨rfl, rfl, trivial⟩ ⟨by omega, hx.trans (x4.trans hx2), ?_⟩ (by omega)
          rw [hch, chk_next hxx hrole hord (by intro e; rw [e] at hne1; simp at hne1) (by rw [hrs, rise_end (by omega)])]
  · (repeat' (first | refine eV rfl rfl (val_load rfl rfl rfl (rBr.cellAt rfl)) ?_ | (refine at_EL ?_; first | refine eN ?_ | refine eV rfl rfl (zA rfl rfl) ?_ | refine eV rfl rfl (zB rfl rfl) ?_ | (refine at_bin ?_; first | refine eD rfl rfl (zL rfl rfl rfl) (fun hh => ?_) (fun hh => ?_)) | (refine at_call ?_; first | refine eV rfl rfl (zK rfl rfl) ?_) | refine eV rfl rfl (zH rfl rfl) ?_) | (refine at_K ?_; first | refine K_then ?_ | refine K_then_exit ?_ | refine K_in_exit ?_) | (refine at_E ?_; first | refine E_seq ?_ | refine E_region ?_ | refine E_cond_t rfl ?_ | refine E_cond_f rfl ?_ | refine E_block ?_ | refine E_skip ?_ | refine E_ret ?_ | refine E_exit ?_)))
    all_goals (first | (exfalso; omega) | skip)
    exact ret_1 rfl rfl ⟨by rw [hch, chk_end (by omega)], x0r⟩
end Go.Proofs.YtjpjpgeeeigbkaaDoor
