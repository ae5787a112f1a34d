/-
  Walks: the program's with, Find and Put.
-/
import Derived.Test.YtjpjpgeeeigbkaaDoorWa
set_option linter.all false
namespace Go.Proofs.YtjpjpgeeeigbkaaDoor
open Go.RowKit Go.En

theorem int_elem {G : Nat → Prop} {w : World} {b off n cap : Nat} {xs : List Int} (h : SlG G w (.slice (some ⟨b, off, none⟩) n cap) xs) {i : Nat} {x : Int} (hx : xs[i]? = some x) : w.cell? ⟨b, off + i * 1, none⟩ = some (int x) := by
  obtain ⟨cs, h1, h2⟩ := h.elem hx
  rw [show cs = [int x] from h1] at h2
  exact h2.one
theorem ints_sub {G : Nat → Prop} {w : World} {a : Option Addr} {n cap : Nat} {xs : List Int} (h : SlG G w (.slice a n cap) xs) : 0 < (xs.map int).length → ∃ b so, a = some ⟨b, so, none⟩ ∧ At w b so (xs.map int) := fun h0 => by
  obtain ⟨a', cap', hv, _, _, hp⟩ := h
  cases hv
  obtain ⟨b, off, rfl, _, css, h1, h2⟩ := hp (by simpa using h0)
  rw [ats_ints h1, ints_flat] at h2
  exact ⟨b, off, rfl, h2⟩
theorem withN_of {ids : List Int} {id : Int} {i : Nat} (hall : ∀ j, j < i → ∀ z, ids[j]? = some z → decide (z < id) = true) (hi : i ≤ ids.length) (hs : ∀ z, ids[i]? = some z → ¬ z < id) : withN ids id = i :=
  takeWhile_stop2 hall hi (fun z hz => decide_eq_false (hs z hz))
theorem with_new {ids : List Int} {id : Int} {i : Nat} (h : withN ids id = i) (hne : ids[i]? ≠ some id) : withF ids id = ids.take i ++ id :: ids.drop i := by
  unfold withF; rw [h, if_neg hne]
theorem with_old {ids : List Int} {id : Int} {i : Nat} (h : withN ids id = i) (hne : ids[i]? = some id) : withF ids id = ids := by
  unfold withF; rw [h, if_pos hne]
/-- old blocks, or new ones -/
def Fr (G : Nat → Prop) (w : World) : Nat → Prop := fun b => G b ∨ w.heap.size ≤ b
attribute [local irreducible] E EL K Val Enters Rt Calls bodyPost Code.wp RQ
set_option maxHeartbeats 1000000 in
theorem with_any {G : Nat → Prop} (ids : List Int) (id : Int) (v : Value) (w : World) (hv : SlG G w v ids) (hlen : ids.length ≤ 1099511627776) : Calls Tryd.prog 45 #[v, int id] w (Rt fun u w' => Ext w w' ∧ SlG (Fr G w) w' u (withF ids id)) := by
  refine calls_E (n := 56) (args := [v, int id]) Tryd.func45 rfl Tryd.ntmps45 (by simp) ?_
  have hv0 := hv
  obtain ⟨a, cap, rfl, hc, hm, hp⟩ := hv.sl
  (repeat' (first | (refine at_EL ?_; first | refine eN ?_ | refine eV rfl rfl (zB rfl rfl) ?_) | (refine at_K ?_; first | refine K_then ?_) | (refine at_E ?_; first | refine E_seq ?_ | refine E_region ?_ | refine E_block ?_)))
  refine E_loop (ι := Nat) (fun i => [(0, .slice a ids.length cap), (1, int id), (5, int i)])
    (fun i wr => i ≤ ids.length ∧ Ext w wr ∧ ∀ j, j < i → ∀ z, ids[j]? = some z → decide (z < id) = true) (fun i => ids.length - i) 0
    ⟨rfl, rfl, rfl, trivial⟩ ⟨Nat.zero_le _, Ext.refl _, fun j hj => by omega⟩ ?_
  rintro i wr ⟨hi, hx, hall⟩
  have hvr := hv0.ext hx
  by_cases hlt : i < ids.length
  · obtain ⟨b, off, rfl⟩ := hp (by omega)
    obtain ⟨z, hz⟩ : ∃ z, ids[i]? = some z := ⟨_, List.getElem?_eq_getElem hlt⟩
    have hcell := int_elem hvr hz
    by_cases hzl : z < id
    · (repeat' (first | refine eV rfl rfl (val_indexAddr (m := i) rfl rfl rfl rfl hlt) ?_ | refine eV rfl rfl (val_load rfl rfl rfl hcell) ?_ | (refine at_EL ?_; first | refine eN ?_ | refine eO rfl rfl ?_ | refine eV rfl rfl (zA rfl rfl) ?_ | refine eV rfl rfl (zB rfl rfl) ?_ | (refine at_bin ?_; first | refine eD rfl rfl (zL rfl rfl rfl) (fun hh => ?_) (fun hh => ?_) | refine eD rfl rfl (zM rfl rfl rfl) (fun hh => ?_) (fun hh => ?_) | refine eV rfl rfl (zU rfl rfl rfl (by omega) (by omega)) ?_) | (refine at_call ?_; first | refine eV rfl rfl (zK rfl rfl) ?_) | refine eV rfl rfl (zC rfl rfl rfl) ?_ | refine eV rfl rfl (zD rfl rfl rfl) ?_) | (refine at_K ?_; first | refine K_then ?_ | refine K_in ?_ | refine K_then_ret ?_ | refine K_then_exit ?_ | refine K_in_exit ?_) | (refine at_E ?_; first | refine E_seq ?_ | refine E_region ?_ | refine E_cond_t rfl ?_ | refine E_cond_f rfl ?_ | refine E_block ?_ | refine E_skip ?_ | refine E_ret ?_ | refine E_exit ?_)))
      all_goals (first | (exfalso; omega) | skip)
      refine K_rnd (i + 1) ⟨rfl, rfl, rfl, trivial⟩ ⟨by omega, hx, fun j hj q' hq' => ?_⟩ (by omega)
      by_cases hj2 : j < i
      · exact hall j hj2 q' hq'
      · have : j = i := by omega
        subst this
        rw [hz] at hq'; cases hq'
        exact decide_eq_true hzl
    have hge : ∀ z', ids[i]? = some z' → ¬ z' < id := fun z' hz' => by rw [hz] at hz'; cases hz'; exact hzl
    by_cases hze : z = id
    · (repeat' (first | refine eV rfl rfl (val_indexAddr (m := i) rfl rfl rfl rfl hlt) ?_ | refine eV rfl rfl (val_load rfl rfl rfl hcell) ?_ | (refine at_EL ?_; first | refine eN ?_ | refine eO rfl rfl ?_ | refine eV rfl rfl (zA rfl rfl) ?_ | refine eV rfl rfl (zB rfl rfl) ?_ | (refine at_bin ?_; first | refine eD rfl rfl (zL rfl rfl rfl) (fun hh => ?_) (fun hh => ?_) | refine eD rfl rfl (zM rfl rfl rfl) (fun hh => ?_) (fun hh => ?_) | refine eV rfl rfl (zU rfl rfl rfl (by omega) (by omega)) ?_) | (refine at_call ?_; first | refine eV rfl rfl (zK rfl rfl) ?_) | refine eV rfl rfl (zC rfl rfl rfl) ?_ | refine eV rfl rfl (zD rfl rfl rfl) ?_) | (refine at_K ?_; first | refine K_then ?_ | refine K_in ?_ | refine K_then_ret ?_ | refine K_then_exit ?_ | refine K_in_exit ?_) | (refine at_E ?_; first | refine E_seq ?_ | refine E_region ?_ | refine E_cond_t rfl ?_ | refine E_cond_f rfl ?_ | refine E_block ?_ | refine E_skip ?_ | refine E_ret ?_ | refine E_exit ?_)))
      all_goals (first | (exfalso; omega) | skip)
      refine ret_1 rfl rfl ⟨hx, ?_⟩
      rw [with_old (withN_of hall hi hge) (by rw [hz, hze])]
      exact hvr.wk fun b h => .inl h
    · have hnew : ids[i]? ≠ some id := by rw [hz]; simpa using hze
      (repeat' (first | refine eV rfl rfl (val_indexAddr (m := i) rfl rfl rfl rfl hlt) ?_ | refine eV rfl rfl (val_load rfl rfl rfl hcell) ?_ | (refine at_EL ?_; first | refine eN ?_ | refine eO rfl rfl ?_ | refine eV rfl rfl (zA rfl rfl) ?_ | refine eV rfl rfl (zB rfl rfl) ?_ | (refine at_bin ?_; first | refine eD rfl rfl (zL rfl rfl rfl) (fun hh => ?_) (fun hh => ?_) | refine eD rfl rfl (zM rfl rfl rfl) (fun hh => ?_) (fun hh => ?_) | refine eV rfl rfl (zU rfl rfl rfl (by omega) (by omega)) ?_) | (refine at_call ?_; first | refine eV rfl rfl (zK rfl rfl) ?_) | refine eV rfl rfl (zC rfl rfl rfl) ?_ | refine eV rfl rfl (zD rfl rfl rfl) ?_) | (refine at_K ?_; first | refine K_then ?_ | refine K_in ?_ | refine K_then_ret ?_ | refine K_then_exit ?_ | refine K_in_exit ?_) | (refine at_E ?_; first | refine E_seq ?_ | refine E_region ?_ | refine E_cond_t rfl ?_ | refine E_cond_f rfl ?_ | refine E_block ?_ | refine E_skip ?_ | refine E_ret ?_ | refine E_exit ?_)))
      all_goals (first | (exfalso; omega) | skip)
      refine EL_make1 (m := ids.length + 1) rfl rfl rfl rfl rfl (by omega) (by omega) rfl (by omega) (by omega) (fun bM wM hbM rM xM => ?_)
      have hvM := hvr.ext xM
      (repeat' (first | refine eV rfl rfl (val_slice_h (b := i) rfl rfl rfl rfl (by omega)) ?_ | (refine at_EL ?_; first | refine eN ?_ | refine eV rfl rfl (zA rfl rfl) ?_ | refine eV rfl rfl (zB rfl rfl) ?_) | (refine at_K ?_; first | refine K_then ?_) | (refine at_E ?_; first | refine E_seq ?_ | refine E_region ?_)))
      refine EL_copy (cs := (ids.take i).map int) (off := 0) rM (hx.trans xM) (by have := hx.size; omega) rfl rfl rfl rfl rfl (q := i) (by omega) (by simp; omega) (fun h0 => ⟨rfl, ints_sub (hvM.take hi) h0⟩) (by omega) (by simp; omega) (ints_one _) (fun w1 r1 x1 k1 => ?_)
      (repeat' (first | refine eV rfl rfl (val_indexAddr (m := i) rfl rfl rfl rfl (by omega)) ?_ | (refine at_EL ?_; first | refine eN ?_ | refine eV rfl rfl (zA rfl rfl) ?_) | (refine at_K ?_; first | refine K_then ?_) | (refine at_E ?_; first | refine E_seq ?_ | refine E_region ?_)))
      refine EL_storeP (cs := [int id]) r1 x1 (by have := hx.size; omega) rfl rfl rfl rfl rfl rfl rfl rfl (by simp; omega) (fun w2 r2 x2 k2 => ?_)
      have hv2 := hv0.ext x2
      (repeat' (first | refine yV rfl rfl (fun _ _ _ => val_slice_l (b := i + 1) rfl rfl rfl (by omega) (by omega)) ?_ | refine yV rfl rfl (fun _ _ _ => val_slice_l (b := i) rfl rfl rfl rfl (by omega)) ?_ | (refine at_EL ?_; first | refine eN ?_) | (refine at_K ?_; first | refine K_then ?_) | (refine at_E ?_; first | refine E_seq ?_ | refine E_dq mixedOk (by kernel_rfl) rfl ?_) | (refine at_RQ ?_; first | refine yN rfl (fun wq xq => ?_) | refine yV rfl rfl (fun _ _ _ => zA rfl rfl) ?_ | (refine at_binR ?_; first | refine yV rfl rfl (fun _ _ _ => zU rfl rfl rfl (by omega) (by omega)) ?_))))
      refine EL_copy (cs := (ids.drop i).map int) (off := (i + 1) * 1) (r2.ext xq) (x2.trans xq) (by have := hx.size; omega) rfl rfl rfl rfl rfl (q := ids.length - i) (by omega) (by simp) (fun h0 => ⟨?_, ints_sub ((hv2.ext xq).drop hi) h0⟩) (by omega) (by simp; omega) (ints_one _) (fun w3 r3 x3 k3 => ?_)
      · rw [if_neg (by simp at h0; omega), Option.map_some, addr_add, Nat.zero_add]
      (repeat' (first | (refine at_EL ?_; first | refine eN ?_ | refine eV rfl rfl (zA rfl rfl) ?_ | refine eV rfl rfl (zB rfl rfl) ?_) | (refine at_K ?_; first | refine K_then ?_) | (refine at_E ?_; first | refine E_seq ?_ | refine E_region ?_ | refine E_ret ?_)))
      refine ret_1 rfl rfl ⟨x3, ?_⟩
      rw [with_new (withN_of hall hi (by first | exact hge | (intro z hz'; have := (List.getElem?_eq_some_iff.1 hz').1; omega))) (by first | exact hnew | (intro hz'; have := (List.getElem?_eq_some_iff.1 hz').1; omega))]
      rw [show 0 + i * 1 = i by omega, show (i + 1) * 1 = i + 1 by omega, ins3 (by simp; omega) (by simp) (by simp; omega)] at r3
      have hs := row_SlG (G := Fr G w) (xs := ids.take i ++ id :: ids.drop i) (css := (ids.take i ++ id :: ids.drop i).map fun z => [int z]) (cap := ids.length + 1) (by rw [ints_flat]; simpa using r3) (ints_ats _ _) (.inr (by have := hx.size; omega)) (by simp; omega) (by simp; omega)
      rwa [show (ids.take i ++ id :: ids.drop i).length = ids.length + 1 by simp; omega] at hs
  · have hi' : i = ids.length := by omega
    (repeat' (first | (refine at_EL ?_; first | refine eN ?_ | refine eO rfl rfl ?_ | refine eV rfl rfl (zA rfl rfl) ?_ | (refine at_bin ?_; first | refine eD rfl rfl (zL rfl rfl rfl) (fun hh => ?_) (fun hh => ?_) | refine eV rfl rfl (zU rfl rfl rfl (by omega) (by omega)) ?_) | (refine at_call ?_; first | refine eV rfl rfl (zK rfl rfl) ?_) | refine eV rfl rfl (zD rfl rfl rfl) ?_) | (refine at_K ?_; first | refine K_then ?_ | refine K_then_exit ?_ | refine K_in_exit ?_) | (refine at_E ?_; first | refine E_seq ?_ | refine E_region ?_ | refine E_cond_f rfl ?_ | refine E_skip ?_ | refine E_exit ?_)))
    all_goals (first | (exfalso; omega) | skip)
    refine EL_make1 (m := ids.length + 1) rfl rfl rfl rfl rfl (by omega) (by omega) rfl (by omega) (by omega) (fun bM wM hbM rM xM => ?_)
    have hvM := hvr.ext xM
    (repeat' (first | refine eV rfl rfl (val_slice_h (b := i) rfl rfl rfl rfl (by omega)) ?_ | (refine at_EL ?_; first | refine eN ?_ | refine eV rfl rfl (zA rfl rfl) ?_ | refine eV rfl rfl (zB rfl rfl) ?_) | (refine at_K ?_; first | refine K_then ?_) | (refine at_E ?_; first | refine E_seq ?_ | refine E_region ?_)))
    refine EL_copy (cs := (ids.take i).map int) (off := 0) rM (hx.trans xM) (by have := hx.size; omega) rfl rfl rfl rfl rfl (q := i) (by omega) (by simp; omega) (fun h0 => ⟨rfl, ints_sub (hvM.take hi) h0⟩) (by omega) (by simp; omega) (ints_one _) (fun w1 r1 x1 k1 => ?_)
    (repeat' (first | refine eV rfl rfl (val_indexAddr (m := i) rfl rfl rfl rfl (by omega)) ?_ | (refine at_EL ?_; first | refine eN ?_ | refine eV rfl rfl (zA rfl rfl) ?_) | (refine at_K ?_; first | refine K_then ?_) | (refine at_E ?_; first | refine E_seq ?_ | refine E_region ?_)))
    refine EL_storeP (cs := [int id]) r1 x1 (by have := hx.size; omega) rfl rfl rfl rfl rfl rfl rfl rfl (by simp; omega) (fun w2 r2 x2 k2 => ?_)
    have hv2 := hv0.ext x2
    (repeat' (first | refine yV rfl rfl (fun _ _ _ => val_slice_l (b := i + 1) rfl rfl rfl (by omega) (by omega)) ?_ | refine yV rfl rfl (fun _ _ _ => val_slice_l (b := i) rfl rfl rfl rfl (by omega)) ?_ | (refine at_EL ?_; first | refine eN ?_) | (refine at_K ?_; first | refine K_then ?_) | (refine at_E ?_; first | refine E_seq ?_ | refine E_dq mixedOk (by kernel_rfl) rfl ?_) | (refine at_RQ ?_; first | refine yN rfl (fun wq xq => ?_) | refine yV rfl rfl (fun _ _ _ => zA rfl rfl) ?_ | (refine at_binR ?_; first | refine yV rfl rfl (fun _ _ _ => zU rfl rfl rfl (by omega) (by omega)) ?_))))
    refine EL_copy (cs := (ids.drop i).map int) (off := (i + 1) * 1) (r2.ext xq) (x2.trans xq) (by have := hx.size; omega) rfl rfl rfl rfl rfl (q := ids.length - i) (by omega) (by simp) (fun h0 => ⟨?_, ints_sub ((hv2.ext xq).drop hi) h0⟩) (by omega) (by simp; omega) (ints_one _) (fun w3 r3 x3 k3 => ?_)
    · rw [if_neg (by simp at h0; omega), Option.map_some, addr_add, Nat.zero_add]
    (repeat' (first | (refine at_EL ?_; first | refine eN ?_ | refine eV rfl rfl (zA rfl rfl) ?_ | refine eV rfl rfl (zB rfl rfl) ?_) | (refine at_K ?_; first | refine K_then ?_) | (refine at_E ?_; first | refine E_seq ?_ | refine E_region ?_ | refine E_ret ?_)))
    refine ret_1 rfl rfl ⟨x3, ?_⟩
    rw [with_new (withN_of hall hi (by first | exact hge | (intro z hz'; have := (List.getElem?_eq_some_iff.1 hz').1; omega))) (by first | exact hnew | (intro hz'; have := (List.getElem?_eq_some_iff.1 hz').1; omega))]
    rw [show 0 + i * 1 = i by omega, show (i + 1) * 1 = i + 1 by omega, ins3 (by simp; omega) (by simp) (by simp; omega)] at r3
    have hs := row_SlG (G := Fr G w) (xs := ids.take i ++ id :: ids.drop i) (css := (ids.take i ++ id :: ids.drop i).map fun z => [int z]) (cap := ids.length + 1) (by rw [ints_flat]; simpa using r3) (ints_ats _ _) (.inr (by have := hx.size; omega)) (by simp; omega) (by simp; omega)
    rwa [show (ids.take i ++ id :: ids.drop i).length = ids.length + 1 by simp; omega] at hs
end Go.Proofs.YtjpjpgeeeigbkaaDoor
