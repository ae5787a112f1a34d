/-
  Walks of align: Next, of both.
-/
import Derived.Test.YtnifmbbpfdghmaaGreatDoorWm
set_option linter.all false
namespace Go.Proofs.YtnifmbbpfdghmaaGreatDoor
open Go.RowKit Go.En
theorem behind_step {id : Int} {l : List Note} {i : Nat} {a b : Note} (ha : l[i]? = some a) (hb : l[i + 1]? = some b) : behind (l.drop i) id = if a.id = id then some b else behind (l.drop (i + 1)) id := by
  obtain ⟨h1, rfl⟩ := List.getElem?_eq_some_iff.1 ha
  obtain ⟨h2, rfl⟩ := List.getElem?_eq_some_iff.1 hb
  rw [List.drop_eq_getElem_cons h1, List.drop_eq_getElem_cons h2, behind]
theorem behind_end {id : Int} {l : List Note} {i : Nat} (h : l.length ≤ i + 1) : behind (l.drop i) id = none := by
  have hl : (l.drop i).length ≤ 1 := by rw [List.length_drop]; omega
  cases hd : l.drop i with
  | nil => rfl
  | cons a r =>
    cases r with
    | nil => rfl
    | cons b r => rw [hd] at hl; simp at hl
theorem getR_none {ns : List Note} {id : Int} (h : getF ns id = none) : getR ns id = .tuple #[.agg (noteC zeroN).toArray, .bool false] := by
  unfold getR; rw [h]
theorem kids_len {d : Dc} (h : LightD d) (p k : Int) : (kidsN d p k).length ≤ 14 := by
  rw [kids_acc, (insSort_perm _).length_eq]
  have := acc_len d p k d.notes
  have := h.nnotes
  omega
attribute [local irreducible] E EL K Val Enters Rt Calls bodyPost Code.wp RQ
set_option maxHeartbeats 4000000 in
set_option maxRecDepth 8000 in
theorem next_any {d : Dc} (h : LightD d) (v : Value) (id : Int) (w : World) (hv : DcAt w v d) : Calls Tryz.prog 61 #[v, int id] w (Rt fun u w' => u = int (nextF d id) ∧ Ext w w') := by
  have hd0 := hv
  obtain ⟨sv, tv, nv, rfl, _, ht, hn⟩ := hv
  refine calls_E (n := 40) (args := [.agg #[int d.rid, str d.rname, int d.len, int d.day, sv, tv, nv], int id]) Tryz.func61 rfl Tryz.ntmps61 (by simp) ?_
  refine E_seq ?_
  refine E_region ?_
  refine EL_box rfl rfl rfl rfl (fun bD wD xD hbD rD0 => ?_)
  have rD : Row wD bD 28 [int d.rid, str d.rname, int d.len, int d.day, sv, tv, nv] := rD0
  clear rD0
  have cg := tget_any d _ id wD (hd0.ext xD)
  cases hg : getF d.notes id with
  | none =>
    rw [getR_none hg] at cg
    (repeat' (first | refine eV rfl rfl (val_loadA rfl rfl rfl rD.at rfl) ?_ | (refine EL_call rfl rfl (entersF rfl rfl en82) cg (fun vC wC hC => ?_); obtain ⟨rfl, xC⟩ := hC) | (refine at_EL ?_; first | refine eN ?_ | refine eV rfl rfl (zA rfl rfl) ?_ | refine eV rfl rfl (zB rfl rfl) ?_ | refine eV rfl rfl (zF rfl rfl rfl) ?_) | (refine at_K ?_; first | refine K_then ?_) | (refine at_E ?_; first | refine E_seq ?_ | refine E_region ?_)))
    refine EL_alloc rfl rfl rfl (fun bP wP xP hbP rP0 => ?_)
    refine EL_storeP (cs := noteC zeroN) rP0 xP (by omega) rfl rfl rfl rfl rfl rfl rfl rfl (Nat.le_refl _) (fun w3 rP1 x3 k3 => ?_)
    (repeat' (first | (refine at_EL ?_; first | refine eN ?_ | refine eV rfl rfl (zA rfl rfl) ?_ | refine eV rfl rfl (zB rfl rfl) ?_ | refine eV rfl rfl (zE rfl rfl) ?_) | (refine at_K ?_; first | refine K_then ?_ | refine K_then_ret ?_) | (refine at_E ?_; first | refine E_seq ?_ | refine E_region ?_ | refine E_cond_t rfl ?_ | refine E_ret ?_)))
    exact ret_1 rfl rfl ⟨by unfold nextF; rw [hg], xD.trans (xC.trans x3)⟩
  | some n =>
    rw [getR_val hg] at cg
    (repeat' (first | refine eV rfl rfl (val_loadA rfl rfl rfl rD.at rfl) ?_ | (refine EL_call rfl rfl (entersF rfl rfl en82) cg (fun vC wC hC => ?_); obtain ⟨rfl, xC⟩ := hC) | (refine at_EL ?_; first | refine eN ?_ | refine eV rfl rfl (zA rfl rfl) ?_ | refine eV rfl rfl (zB rfl rfl) ?_ | refine eV rfl rfl (zF rfl rfl rfl) ?_) | (refine at_K ?_; first | refine K_then ?_) | (refine at_E ?_; first | refine E_seq ?_ | refine E_region ?_)))
    refine EL_alloc rfl rfl rfl (fun bP wP xP hbP rP0 => ?_)
    refine EL_storeP (cs := noteC n) rP0 xP (by omega) rfl rfl rfl rfl rfl rfl rfl rfl (Nat.le_refl _) (fun w3 rP1 x3 k3 => ?_)
    have rP : Row w3 bP 74 (noteC n) := rP1
    clear rP0 rP1 k3 cg
    have rD3 := rD.ext (xC.trans x3)
    have hX3 := xD.trans (xC.trans x3)
    have ck := kids_any h _ n.parent n.tier w3 (hd0.ext hX3)
    have hnx : nextF d id = (match behind (kidsN d n.parent n.tier) id with | some m => m.id | none => 0) := by unfold nextF; rw [hg]; rfl
    obtain ⟨X, hX⟩ : ∃ X, X = kidsN d n.parent n.tier := ⟨_, rfl⟩
    obtain ⟨I, hI⟩ : ∃ I : List Int, I = X.map (fun n => n.id) := ⟨_, rfl⟩
    have hXl : X.length ≤ 14 := hX ▸ kids_len h _ _
    rw [← hX, ← hI] at ck
    rw [← hX] at hnx
    have hIl : I.length = X.length := by rw [hI, List.length_map]
    (repeat' (first | refine eV rfl rfl (val_loadA rfl rfl rfl rD3.at rfl) ?_ | refine eV rfl rfl (val_load rfl rfl rfl (rP.cellAt rfl)) ?_ | (refine EL_call rfl rfl (entersF rfl rfl en104) ck (fun vE wE hE => ?_); obtain ⟨xE, sE⟩ := hE) | (refine at_EL ?_; first | refine eN ?_ | refine eV rfl rfl (zA rfl rfl) ?_ | refine eV rfl rfl (zB rfl rfl) ?_ | refine eV rfl rfl (zE rfl rfl) ?_ | refine eV rfl rfl (zH rfl rfl) ?_) | (refine at_K ?_; first | refine K_then ?_) | (refine at_E ?_; first | refine E_seq ?_ | refine E_region ?_ | refine E_cond_f rfl ?_ | refine E_block ?_ | refine E_skip ?_)))
    have sE0 := sE
    obtain ⟨a, cap, rfl, hc, hm, hp⟩ := sE.sl
    refine E_loop (ι := Nat) (fun i => [(1, int id), (7, .slice a I.length cap), (8, int i)])
      (fun i wr => 1 ≤ i ∧ i ≤ X.length + 1 ∧ Ext wE wr ∧ behind X id = behind (X.drop (i - 1)) id) (fun i => X.length + 1 - i) 1
      ⟨rfl, rfl, rfl, trivial⟩ ⟨Nat.le_refl _, by omega, Ext.refl _, rfl⟩ ?_
    rintro i wr ⟨hi1, hi, hx, hbe⟩
    have hXr := hX3.trans (xE.trans hx)
    by_cases hlt : i < X.length
    · obtain ⟨b, off, rfl⟩ := hp (by omega)
      obtain ⟨m0, hm0⟩ : ∃ m, X[i - 1]? = some m := ⟨_, List.getElem?_eq_getElem (by omega)⟩
      obtain ⟨m1, hm1⟩ : ∃ m, X[i]? = some m := ⟨_, List.getElem?_eq_getElem hlt⟩
      have c0 := int_elem (sE0.ext hx) (show I[i - 1]? = some m0.id by rw [hI, List.getElem?_map, hm0]; rfl)
      have c1 := int_elem (sE0.ext hx) (show I[i]? = some m1.id by rw [hI, List.getElem?_map, hm1]; rfl)
      have hst := behind_step (id := id) hm0 (show X[i - 1 + 1]? = some m1 by rw [show i - 1 + 1 = i by omega]; exact hm1)
      rw [show i - 1 + 1 = i by omega] at hst
      rw [hst] at hbe
      (repeat' (first | refine eV rfl rfl (val_indexAddr (m := i - 1) rfl rfl rfl (by omega) (by omega)) ?_ | refine eV rfl rfl (val_indexAddr (m := i) rfl rfl rfl rfl (by omega)) ?_ | refine eV rfl rfl (val_load rfl rfl rfl c0) ?_ | refine eV rfl rfl (val_load rfl rfl rfl c1) ?_ | (refine at_EL ?_; first | refine eN ?_ | refine eV rfl rfl (zA rfl rfl) ?_ | refine eV rfl rfl (zB rfl rfl) ?_ | (refine at_bin ?_; first | refine eD rfl rfl (zL rfl rfl rfl) (fun hh => ?_) (fun hh => ?_) | refine eD rfl rfl (zM rfl rfl rfl) (fun hh => ?_) (fun hh => ?_) | refine eV rfl rfl (zU rfl rfl rfl (by omega) (by omega)) ?_ | refine eV rfl rfl (zV rfl rfl rfl (by omega) (by omega)) ?_) | (refine at_call ?_; first | refine eV rfl rfl (zK rfl rfl) ?_)) | (refine at_K ?_; first | refine K_then ?_ | refine K_in ?_ | refine K_then_ret ?_ | refine K_then_exit ?_ | refine K_in_ret ?_ | refine K_in_exit ?_) | (refine at_E ?_; first | refine E_seq ?_ | refine E_region ?_ | refine E_cond_t rfl ?_ | refine E_cond_f rfl ?_ | refine E_block ?_ | refine E_skip ?_ | refine E_ret ?_ | refine E_exit ?_)))
      all_goals (first | (exfalso; omega) | skip)
      · rw [if_pos ‹m0.id = id›] at hbe
        exact ret_1 rfl rfl ⟨by rw [hnx, hbe], hXr⟩
      · rw [if_neg ‹¬ m0.id = id›] at hbe
        exact K_rnd (i + 1) ⟨rfl, rfl, rfl, trivial⟩ ⟨by omega, by omega, hx, by rw [show i + 1 - 1 = i by omega]; exact hbe⟩ (by omega)
    · rw [behind_end (by omega)] at hbe
      (repeat' (first | (refine at_EL ?_; first | refine eN ?_ | refine eV rfl rfl (zA rfl rfl) ?_ | refine eV rfl rfl (zB rfl rfl) ?_ | (refine at_bin ?_; first | refine eD rfl rfl (zL rfl rfl rfl) (fun hh => ?_) (fun hh => ?_) | refine eV rfl rfl (zV rfl rfl rfl (by omega) (by omega)) ?_) | (refine at_call ?_; first | refine eV rfl rfl (zK rfl rfl) ?_)) | (refine at_K ?_; first | refine K_then ?_ | refine K_then_exit ?_ | refine K_in_exit ?_) | (refine at_E ?_; first | refine E_seq ?_ | refine E_region ?_ | refine E_cond_t rfl ?_ | refine E_cond_f rfl ?_ | refine E_block ?_ | refine E_skip ?_ | refine E_ret ?_ | refine E_exit ?_)))
      all_goals (first | (exfalso; omega) | skip)
      exact ret_1 rfl rfl ⟨by rw [hnx, hbe], hXr⟩
end Go.Proofs.YtnifmbbpfdghmaaGreatDoor
