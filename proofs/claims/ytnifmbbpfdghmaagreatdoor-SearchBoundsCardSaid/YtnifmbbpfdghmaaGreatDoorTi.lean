/-
  Walks of search: the law's small, asked, light.
-/
import Derived.Test.YtnifmbbpfdghmaaGreatDoorYn
import Derived.Test.YtnifmbbpfdghmaaGreatDoorYv
import Derived.Test.YtnifmbbpfdghmaaGreatDoorYg
set_option linter.all false
namespace Go.Proofs.YtnifmbbpfdghmaaGreatDoor
open Go.RowKit Go.En
attribute [local irreducible] E EL K Val Enters Rt Calls bodyPost Code.wp RQ
/-! what the law asks of its inputs -/
set_option maxHeartbeats 4000000 in
set_option maxRecDepth 8000 in
theorem small38_any (xs : List Ix.Post) (s : Value) (w : World) (hv : Sl w s xs) : Calls Tryz.prog 38 #[.agg #[s] ] w (Rt fun u w' => (∃ c, u = .bool c ∧ (c = true → Fits xs)) ∧ Ext w w') := by
  have hv0 := hv
  obtain ⟨a, cap, rfl, hc, hm, hp⟩ := hv.sl
  refine calls_E (n := 42) (args := [.agg #[.slice a xs.length cap] ]) Tryz.func38 rfl Tryz.ntmps38 (by simp) ?_
  refine E_seq ?_
  refine E_region ?_
  refine EL_box rfl rfl rfl rfl (fun bX wX xX hbX rX0 => ?_)
  have rX : Row wX bX 49 [.slice a xs.length cap] := rX0
  clear rX0
  (repeat' (first | (refine at_EL ?_; first | refine eN ?_ | refine eV rfl rfl (zB rfl rfl) ?_) | (refine at_K ?_; first | refine K_then ?_) | (refine at_E ?_; first | refine E_seq ?_ | refine E_region ?_ | refine E_block ?_)))
  refine E_loop (ι := Nat) (fun i => [(1, .pointer (some ⟨bX, 0, none⟩)), (3, int i)])
    (fun i wr => i ≤ xs.length ∧ i ≤ 41 ∧ Ext wX wr ∧ ∀ (j : Nat) (x : Ix.Post), j < i → xs[j]? = some x → x.text.length ≤ 300 ∧ x.ids.length ≤ 40) (fun i => xs.length - i) 0
    ⟨rfl, rfl, trivial⟩ ⟨Nat.zero_le _, by omega, Ext.refl _, fun j x hj => absurd hj (by omega)⟩ ?_
  rintro i wr ⟨hi, hi41, hx, hall⟩
  have rXr := rX.ext hx
  have hX := xX.trans hx
  by_cases hlt : i < xs.length
  · obtain ⟨b, off, rfl⟩ := hp (by omega)
    obtain ⟨x, hx1⟩ : ∃ x, xs[i]? = some x := ⟨_, List.getElem?_eq_getElem hlt⟩
    obtain ⟨iv, hat, hiv⟩ := Ix.post_elem (hv0.ext hX) hx1
    obtain ⟨ia, ic, rfl, _, _, _⟩ := hiv.sl
    have cc := Ix.rcheck_any xs _ wr (hv0.ext hX)
    (repeat' (first | refine eV rfl rfl (val_load rfl rfl rfl (rXr.cellAt (j := 0) rfl)) ?_ | refine eV rfl rfl (val_indexAddr (m := i) rfl rfl rfl rfl hlt) ?_ | refine eV rfl rfl (val_load rfl rfl rfl (hat.cellAt (j := 1) rfl)) ?_ | refine eV rfl rfl (val_load rfl rfl rfl (hat.cellAt (j := 2) rfl)) ?_ | (refine at_EL ?_; first | refine eN ?_ | refine eO rfl rfl ?_ | refine eV rfl rfl (zA rfl rfl) ?_ | refine eV rfl rfl (zB rfl rfl) ?_ | (refine at_bin ?_; first | refine eD rfl rfl (zL rfl rfl rfl) (fun hh => ?_) (fun hh => ?_) | refine eD rfl rfl (zN rfl rfl rfl) (fun hh => ?_) (fun hh => ?_) | refine eD rfl rfl (zO rfl rfl rfl) (fun hh => ?_) (fun hh => ?_) | refine eV rfl rfl (zU rfl rfl rfl (by omega) (by omega)) ?_) | (refine at_call ?_; first | refine eV rfl rfl (zK rfl rfl) ?_ | refine eV rfl rfl (zJ rfl rfl) ?_) | refine eV rfl rfl (zC rfl rfl rfl) ?_ | refine eV rfl rfl (zD rfl rfl rfl) ?_ | refine eV rfl rfl (zH rfl rfl) ?_) | (refine at_K ?_; first | refine K_then ?_ | refine K_in ?_ | refine K_then_ret ?_ | refine K_then_exit ?_ | refine K_in_ret ?_ | refine K_in_exit ?_) | (refine at_E ?_; first | refine E_seq ?_ | refine E_region ?_ | refine E_cond_t rfl ?_ | refine E_cond_f rfl ?_ | refine E_block ?_ | refine E_skip ?_ | refine E_ret ?_ | refine E_exit ?_)))
    all_goals (first | (exfalso; omega) | skip)
    all_goals first
      | (refine K_rnd (i + 1) ⟨rfl, rfl, trivial⟩ ⟨by omega, by omega, hx, fun j y hj hy => ?_⟩ (by omega)
         by_cases ej : j = i
         · subst ej
           rw [hx1] at hy; cases hy
           exact ⟨by omega, by omega⟩
         · exact hall j y (by omega) hy)
      | exact ret_1 rfl rfl ⟨⟨_, rfl, fun e => by cases e⟩, hX⟩
  · obtain rfl : i = xs.length := by omega
    have cc := Ix.rcheck_any xs _ wr (hv0.ext hX)
    have hfit : Fits xs := by
      refine ⟨?_, fun x hx2 => ?_⟩
      · have := postIds_few (k := 40) (xs := xs) fun x hx2 => by
          obtain ⟨j, hj⟩ := List.getElem?_of_mem hx2
          exact (hall j x (List.getElem?_eq_some_iff.1 hj).1 hj).2
        omega
      · obtain ⟨j, hj⟩ := List.getElem?_of_mem hx2
        have := (hall j x (List.getElem?_eq_some_iff.1 hj).1 hj).1
        omega
    (repeat' (first | refine eV rfl rfl (val_load rfl rfl rfl (rXr.cellAt (j := 0) rfl)) ?_ | refine eV rfl rfl (val_loadA (cs := [.slice a xs.length cap]) rfl rfl rfl rXr.at rfl) ?_ | (refine EL_call rfl rfl (entersF rfl rfl en91) cc (fun vC wC hC => ?_); obtain ⟨rfl, xC⟩ := hC) | (refine at_EL ?_; first | refine eN ?_ | refine eO rfl rfl ?_ | refine eV rfl rfl (zA rfl rfl) ?_ | refine eV rfl rfl (zB rfl rfl) ?_ | (refine at_bin ?_; first | refine eD rfl rfl (zL rfl rfl rfl) (fun hh => ?_) (fun hh => ?_) | refine eD rfl rfl (zM rfl rfl rfl) (fun hh => ?_) (fun hh => ?_) | refine eD rfl rfl (zN rfl rfl rfl) (fun hh => ?_) (fun hh => ?_)) | (refine at_call ?_; first | refine eV rfl rfl (zK rfl rfl) ?_) | refine eV rfl rfl (zC rfl rfl rfl) ?_ | refine eV rfl rfl (zD rfl rfl rfl) ?_ | refine eV rfl rfl (zH rfl rfl) ?_) | (refine at_K ?_; first | refine K_then ?_ | refine K_then_exit ?_ | refine K_in_exit ?_) | (refine at_E ?_; first | refine E_seq ?_ | refine E_region ?_ | refine E_cond_t rfl ?_ | refine E_cond_f rfl ?_ | refine E_block ?_ | refine E_skip ?_ | refine E_ret ?_ | refine E_exit ?_)))
    all_goals (first | (exfalso; omega) | skip)
    all_goals first
      | exact ret_1 rfl rfl ⟨⟨_, rfl, fun _ => hfit⟩, hX.trans xC⟩
      | exact ret_1 rfl rfl ⟨⟨_, rfl, fun _ => hfit⟩, hX⟩
set_option maxHeartbeats 4000000 in
set_option maxRecDepth 8000 in
theorem asked44_any (q : Qy) (qv : Value) (w : World) (h : QAt w qv q) : Calls Tryz.prog 44 #[qv] w (Rt fun u w' => (∃ c, u = .bool c ∧ (c = true → okQ q ∧ nodesW q ≤ 12)) ∧ Ext w w') := by
  have h0 := h
  obtain ⟨kv, rfl, hkv⟩ := h
  obtain ⟨a, cap, rfl, hc, hm, hp⟩ := hkv.sl
  refine calls_E (n := 11) (args := [.agg #[int q.op, int q.role, str q.text, .slice a q.kids.length cap] ]) Tryz.func44 rfl Tryz.ntmps44 (by simp) ?_
  refine E_seq ?_
  refine E_region ?_
  refine EL_box rfl rfl rfl rfl (fun bQ wQ xQ hbQ rQ0 => ?_)
  have rQ : Row wQ bQ 36 [int q.op, int q.role, str q.text, .slice a q.kids.length cap] := rQ0
  clear rQ0
  have hq := h0.ext xQ
  have cn := nodes_any q _ wQ hq
  (repeat' (first | refine eV rfl rfl (val_loadA rfl rfl rfl rQ.at rfl) ?_ | (refine EL_call rfl rfl (entersF rfl rfl en79) cn (fun vC wC hC => ?_); obtain ⟨rfl, xC⟩ := hC; replace rQ := rQ.ext xC; replace hq := hq.ext xC; replace xQ := xQ.trans xC; clear xC) | (refine EL_call rfl rfl (entersF rfl rfl en78) (qcheck_any q _ _ hq) (fun vC wE hC => ?_); obtain ⟨⟨e, rfl, he⟩, xC⟩ := hC) | (refine at_EL ?_; first | refine eN ?_ | refine eO rfl rfl ?_ | refine eV rfl rfl (zA rfl rfl) ?_ | refine eV rfl rfl (zB rfl rfl) ?_ | (refine at_bin ?_; first | refine eD rfl rfl (zM rfl rfl rfl) (fun hh => ?_) (fun hh => ?_) | refine eD rfl rfl (zN rfl rfl rfl) (fun hh => ?_) (fun hh => ?_)) | refine eV rfl rfl (zC rfl rfl rfl) ?_ | refine eV rfl rfl (zD rfl rfl rfl) ?_) | (refine at_K ?_; first | refine K_then ?_) | (refine at_E ?_; first | refine E_seq ?_ | refine E_region ?_ | refine E_ret ?_)))
  all_goals (first | (exfalso; omega) | skip)
  all_goals first
    | exact ret_1 rfl rfl ⟨⟨_, rfl, fun e => by cases e⟩, xQ⟩
    | exact ret_1 rfl rfl ⟨⟨_, rfl, fun _ => ⟨(he (by assumption)).1, by omega⟩⟩, xQ.trans xC⟩
    | exact ret_1 rfl rfl ⟨⟨_, rfl, fun e => by cases e⟩, xQ.trans xC⟩
end Go.Proofs.YtnifmbbpfdghmaaGreatDoor
