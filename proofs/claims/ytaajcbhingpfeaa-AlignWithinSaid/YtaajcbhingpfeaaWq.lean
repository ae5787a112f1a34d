/-
  Walks of align: Order, of both; the reference's Under.
-/
import Derived.Test.YtaajcbhingpfeaaWp
set_option linter.all false
namespace Go.Proofs.Ytaajcbhingpfeaa
open Go.RowKit Go.En
/-- the order up to a tier -/
def ordT (d : Dc) (i : Nat) : List Note := (List.range i).flatMap fun k => ofR d ((k : Nat) : Int)
theorem ordT_succ (d : Dc) (i : Nat) : ordT d (i + 1) = ordT d i ++ ofR d (i : Int) := by
  unfold ordT
  rw [List.range_succ, List.flatMap_append, List.flatMap_singleton]
theorem ordT_le {d : Dc} (h : LightD d) : ∀ (i : Nat), i ≤ d.tiers.length → (ordT d i).length ≤ 14 := by
  intro i hi
  have h1 : (ordT d i).length ≤ (orderF d).length := by
    have he : orderF d = ordT d d.tiers.length := rfl
    rw [he]
    have : ∀ j, (ordT d i).length ≤ (ordT d (i + j)).length := by
      intro j
      induction j with
      | zero => exact Nat.le_refl _
      | succ j ih => rw [show i + (j + 1) = i + j + 1 by omega, ordT_succ, List.length_append]; omega
    have := this (d.tiers.length - i)
    rwa [show i + (d.tiers.length - i) = d.tiers.length by omega] at this
  have h2 := (order_perm h).length_eq
  have := h.nnotes
  omega
attribute [local irreducible] E EL K Val Enters Rt Calls bodyPost Code.wp RQ
set_option maxHeartbeats 4000000 in
set_option maxRecDepth 8000 in
theorem order29_any {d : Dc} (h : LightD d) (v : Value) (w : World) (hv : DcAt w v d) : Calls Try.prog 29 #[v] w (Rt fun u w' => Ext w w' ∧ Sl w' u ((orderF d).map (fun n => n.id))) := by
  have hd0 := hv
  have hT := h.ntiers
  obtain ⟨sv, tv, nv, rfl, _, ht, hn⟩ := hv
  refine calls_E (n := 18) (args := [.agg #[int d.rid, str d.rname, int d.len, int d.day, sv, tv, nv] ]) Try.func29 rfl Try.ntmps29 (by simp) ?_
  obtain ⟨ta, tc, rfl, _, _, _⟩ := ht.sl
  refine E_seq ?_
  refine E_region ?_
  refine EL_box rfl rfl rfl rfl (fun bD wD xD hbD rD0 => ?_)
  have rD : Row wD bD 28 [int d.rid, str d.rname, int d.len, int d.day, sv, .slice ta d.tiers.length tc, nv] := rD0
  clear rD0
  (repeat' (first | refine eV rfl rfl (val_load rfl rfl rfl (rD.cellAt rfl)) ?_ | (refine at_EL ?_; first | refine eN ?_ | refine eV rfl rfl (zA rfl rfl) ?_ | refine eV rfl rfl (zB rfl rfl) ?_ | (refine at_call ?_; first | refine eV rfl rfl (zK rfl rfl) ?_) | refine eV rfl rfl (zH rfl rfl) ?_) | (refine at_K ?_; first | refine K_then ?_) | (refine at_E ?_; first | refine E_seq ?_ | refine E_region ?_ | refine E_block ?_)))
  refine E_loop (ι := Nat × Value) (fun x => [(1, .pointer (some ⟨bD, 0, none⟩)), (3, x.2), (7, int d.tiers.length), (8, int x.1)])
    (fun x wr => x.1 ≤ d.tiers.length ∧ Ext wD wr ∧ wr.ownsRow wD.heap.size 3 1 x.2 (ordT d x.1).length (((ordT d x.1).map (fun n => n.id)).map int)) (fun x => d.tiers.length - x.1) (0, .slice none 0 0)
    ⟨rfl, rfl, rfl, rfl, trivial⟩ ⟨Nat.zero_le _, Ext.refl _, World.ownsRow_nil _ _ _ _⟩ ?_
  rintro ⟨i, vO⟩ wr ⟨hi, hx, hown⟩
  dsimp only at hi hx hown ⊢
  have rDr := rD.ext hx
  have hXr := xD.trans hx
  by_cases hlt : i < d.tiers.length
  · have hl1 := ordT_le h (i + 1) (by omega)
    rw [ordT_succ, List.length_append] at hl1
    have cg := of_any h _ ((i : Int).toNat + 1) (i : Int) wr (by omega) (hd0.ext hXr)
    obtain ⟨KI, hKI⟩ : ∃ KI : List Int, KI = (ofR d (i : Int)).map (fun n => n.id) := ⟨_, rfl⟩
    rw [← hKI] at cg
    have hKl : KI.length = (ofR d (i : Int)).length := by rw [hKI, List.length_map]
    (repeat' (first | refine eV rfl rfl (val_loadA rfl rfl rfl rDr.at rfl) ?_ | (refine EL_call rfl rfl (entersF rfl rfl en45) cg (fun vC wC hC => ?_); obtain ⟨xC, sC⟩ := hC) | (refine at_EL ?_; first | refine eN ?_ | refine eV rfl rfl (zA rfl rfl) ?_ | refine eV rfl rfl (zB rfl rfl) ?_ | (refine at_bin ?_; first | refine eD rfl rfl (zL rfl rfl rfl) (fun hh => ?_) (fun hh => ?_))) | (refine at_K ?_; first | refine K_then ?_ | refine K_then_exit ?_ | refine K_in_exit ?_) | (refine at_E ?_; first | refine E_seq ?_ | refine E_region ?_ | refine E_cond_t rfl ?_ | refine E_cond_f rfl ?_ | refine E_block ?_ | refine E_skip ?_ | refine E_ret ?_ | refine E_exit ?_)))
    all_goals (first | (exfalso; omega) | skip)
    have sC0 := sC
    obtain ⟨a4, c4, rfl, hc4, hm4, hp4⟩ := sC.sl
    refine EL_appO (news := KI.map int) (own_ext hown xC) (hx.trans xC) (fun h0 => sl_ints sC0 h0) rfl rfl rfl rfl rfl (by simp) (ints_one _) rfl rfl (by omega) (by omega) (fun vJ wJ oJ xJ kJ hJ => ?_)
    (repeat' (first | (refine at_EL ?_; first | refine eN ?_ | refine eV rfl rfl (zA rfl rfl) ?_ | refine eV rfl rfl (zB rfl rfl) ?_ | (refine at_bin ?_; first | refine eV rfl rfl (zU rfl rfl rfl (by omega) (by omega)) ?_)) | (refine at_K ?_; first | refine K_then ?_ | refine K_in ?_) | (refine at_E ?_; first | refine E_region ?_)))
    refine K_rnd (i + 1, vJ) ⟨rfl, rfl, rfl, rfl, trivial⟩ ⟨by dsimp only; omega, xJ, ?_⟩ (by dsimp only; omega)
    dsimp only
    rw [ordT_succ, List.length_append, List.map_append, List.map_append, ← hKI, ← hKl]
    exact oJ
  · obtain rfl : i = d.tiers.length := by omega
    (repeat' (first | (refine at_EL ?_; first | refine eN ?_ | refine eV rfl rfl (zA rfl rfl) ?_ | refine eV rfl rfl (zB rfl rfl) ?_ | (refine at_bin ?_; first | refine eD rfl rfl (zL rfl rfl rfl) (fun hh => ?_) (fun hh => ?_))) | (refine at_K ?_; first | refine K_then ?_ | refine K_then_exit ?_ | refine K_in_exit ?_) | (refine at_E ?_; first | refine E_seq ?_ | refine E_region ?_ | refine E_cond_t rfl ?_ | refine E_cond_f rfl ?_ | refine E_block ?_ | refine E_skip ?_ | refine E_ret ?_ | refine E_exit ?_)))
    all_goals (first | (exfalso; omega) | skip)
    refine ret_1 rfl rfl ⟨hXr, ?_⟩
    have hl := ordT_le h _ (Nat.le_refl _)
    exact own_Sl (css := ((ordT d d.tiers.length).map (fun n => n.id)).map fun z => [int z]) (by rw [ints_flat]; exact hown) (ints_ats _ _) (by simp [orderF, ordT]) (by rw [List.length_map]; exact Nat.le_trans hl (by omega))
set_option maxHeartbeats 4000000 in
set_option maxRecDepth 8000 in
theorem reforder_any {d : Dc} (h : LightD d) (v : Value) (w : World) (hv : DcAt w v d) : Calls Try.prog 30 #[v] w (Rt fun u w' => Ext w w' ∧ Sl w' u ((orderF d).map (fun n => n.id))) := by
  have hd0 := hv
  have hT := h.ntiers
  obtain ⟨sv, tv, nv, rfl, _, ht, hn⟩ := hv
  refine calls_E (n := 18) (args := [.agg #[int d.rid, str d.rname, int d.len, int d.day, sv, tv, nv] ]) Try.func30 rfl Try.ntmps30 (by simp) ?_
  obtain ⟨ta, tc, rfl, _, _, _⟩ := ht.sl
  refine E_seq ?_
  refine E_region ?_
  refine EL_box rfl rfl rfl rfl (fun bD wD xD hbD rD0 => ?_)
  have rD : Row wD bD 28 [int d.rid, str d.rname, int d.len, int d.day, sv, .slice ta d.tiers.length tc, nv] := rD0
  clear rD0
  (repeat' (first | (refine at_EL ?_; first | refine eN ?_ | refine eV rfl rfl (zB rfl rfl) ?_) | (refine at_K ?_; first | refine K_then ?_) | (refine at_E ?_; first | refine E_seq ?_ | refine E_region ?_ | refine E_block ?_)))
  refine E_loop (ι := Nat × Value) (fun x => [(1, .pointer (some ⟨bD, 0, none⟩)), (3, x.2), (4, int x.1)])
    (fun x wr => x.1 ≤ d.tiers.length ∧ Ext wD wr ∧ wr.ownsRow wD.heap.size 3 1 x.2 (ordT d x.1).length (((ordT d x.1).map (fun n => n.id)).map int)) (fun x => d.tiers.length - x.1) (0, .slice none 0 0)
    ⟨rfl, rfl, rfl, trivial⟩ ⟨Nat.zero_le _, Ext.refl _, World.ownsRow_nil _ _ _ _⟩ ?_
  rintro ⟨i, vO⟩ wr ⟨hi, hx, hown⟩
  dsimp only at hi hx hown ⊢
  have rDr := rD.ext hx
  have hXr := xD.trans hx
  by_cases hlt : i < d.tiers.length
  · have hl1 := ordT_le h (i + 1) (by omega)
    rw [ordT_succ, List.length_append] at hl1
    have cg := refof_any h _ (i : Int) wr (hd0.ext hXr)
    obtain ⟨KI, hKI⟩ : ∃ KI : List Int, KI = (ofR d (i : Int)).map (fun n => n.id) := ⟨_, rfl⟩
    rw [← hKI] at cg
    have hKl : KI.length = (ofR d (i : Int)).length := by rw [hKI, List.length_map]
    (repeat' (first | refine eV rfl rfl (val_load rfl rfl rfl (rDr.cellAt rfl)) ?_ | refine eV rfl rfl (val_loadA rfl rfl rfl rDr.at rfl) ?_ | (refine EL_call rfl rfl (entersF rfl rfl en43) cg (fun vC wC hC => ?_); obtain ⟨xC, sC⟩ := hC) | (refine at_EL ?_; first | refine eN ?_ | refine eV rfl rfl (zA rfl rfl) ?_ | refine eV rfl rfl (zB rfl rfl) ?_ | (refine at_bin ?_; first | refine eD rfl rfl (zL rfl rfl rfl) (fun hh => ?_) (fun hh => ?_)) | (refine at_call ?_; first | refine eV rfl rfl (zK rfl rfl) ?_) | refine eV rfl rfl (zH rfl rfl) ?_) | (refine at_K ?_; first | refine K_then ?_ | refine K_then_exit ?_ | refine K_in_exit ?_) | (refine at_E ?_; first | refine E_seq ?_ | refine E_region ?_ | refine E_cond_t rfl ?_ | refine E_cond_f rfl ?_ | refine E_block ?_ | refine E_skip ?_ | refine E_ret ?_ | refine E_exit ?_)))
    all_goals (first | (exfalso; omega) | skip)
    have sC0 := sC
    obtain ⟨a4, c4, rfl, hc4, hm4, hp4⟩ := sC.sl
    refine EL_appO (news := KI.map int) (own_ext hown xC) (hx.trans xC) (fun h0 => sl_ints sC0 h0) rfl rfl rfl rfl rfl (by simp) (ints_one _) rfl rfl (by omega) (by omega) (fun vJ wJ oJ xJ kJ hJ => ?_)
    (repeat' (first | (refine at_EL ?_; first | refine eN ?_ | refine eV rfl rfl (zA rfl rfl) ?_ | refine eV rfl rfl (zB rfl rfl) ?_ | (refine at_bin ?_; first | refine eV rfl rfl (zU rfl rfl rfl (by omega) (by omega)) ?_)) | (refine at_K ?_; first | refine K_then ?_ | refine K_in ?_) | (refine at_E ?_; first | refine E_region ?_)))
    refine K_rnd (i + 1, vJ) ⟨rfl, rfl, rfl, trivial⟩ ⟨by dsimp only; omega, xJ, ?_⟩ (by dsimp only; omega)
    dsimp only
    rw [ordT_succ, List.length_append, List.map_append, List.map_append, ← hKI, ← hKl]
    exact oJ
  · obtain rfl : i = d.tiers.length := by omega
    (repeat' (first | refine eV rfl rfl (val_load rfl rfl rfl (rDr.cellAt rfl)) ?_ | (refine at_EL ?_; first | refine eN ?_ | refine eV rfl rfl (zA rfl rfl) ?_ | refine eV rfl rfl (zB rfl rfl) ?_ | (refine at_bin ?_; first | refine eD rfl rfl (zL rfl rfl rfl) (fun hh => ?_) (fun hh => ?_)) | (refine at_call ?_; first | refine eV rfl rfl (zK rfl rfl) ?_) | refine eV rfl rfl (zH rfl rfl) ?_) | (refine at_K ?_; first | refine K_then ?_ | refine K_then_exit ?_ | refine K_in_exit ?_) | (refine at_E ?_; first | refine E_seq ?_ | refine E_region ?_ | refine E_cond_t rfl ?_ | refine E_cond_f rfl ?_ | refine E_block ?_ | refine E_skip ?_ | refine E_ret ?_ | refine E_exit ?_)))
    all_goals (first | (exfalso; omega) | skip)
    refine ret_1 rfl rfl ⟨hXr, ?_⟩
    have hl := ordT_le h _ (Nat.le_refl _)
    exact own_Sl (css := ((ordT d d.tiers.length).map (fun n => n.id)).map fun z => [int z]) (by rw [ints_flat]; exact hown) (ints_ats _ _) (by simp [orderF, ordT]) (by rw [List.length_map]; exact Nat.le_trans hl (by omega))
set_option maxHeartbeats 4000000 in
set_option maxRecDepth 8000 in
theorem refunder_any {d : Dc} (h : LightD d) (v : Value) (id : Int) (w : World) (hv : DcAt w v d) : Calls Try.prog 17 #[v, int id] w (Rt fun u w' => Ext w w' ∧ Sl w' u (underR d id)) := by
  have hd0 := hv
  have hN := h.nnotes
  have hT := h.ntiers
  obtain ⟨sv, tv, nv, rfl, _, ht, hn⟩ := hv
  refine calls_E (n := 44) (args := [.agg #[int d.rid, str d.rname, int d.len, int d.day, sv, tv, nv], int id]) Try.func17 rfl Try.ntmps17 (by simp) ?_
  have hn0 := hn
  obtain ⟨a, cap, rfl, hc, hm, hp⟩ := hn.sl
  refine E_seq ?_
  refine E_region ?_
  refine EL_box rfl rfl rfl rfl (fun bD wD xD hbD rD0 => ?_)
  have rD : Row wD bD 28 [int d.rid, str d.rname, int d.len, int d.day, sv, tv, .slice a d.notes.length cap] := rD0
  clear rD0
  obtain ⟨f, hf⟩ : ∃ f : Note → Bool, f = fun n => !decide (n.id = id) && decide (id ∈ (chainF d n.id).map (·.id)) := ⟨_, rfl⟩
  have hun : underR d id = (d.notes.filter f).map (fun n => n.id) := by rw [hf]; rfl
  rw [hun]
  (repeat' (first | (refine at_EL ?_; first | refine eN ?_ | refine eV rfl rfl (zB rfl rfl) ?_) | (refine at_K ?_; first | refine K_then ?_) | (refine at_E ?_; first | refine E_seq ?_ | refine E_region ?_ | refine E_block ?_)))
  refine E_loop (ι := Nat × Value) (fun x => [(1, int id), (2, .pointer (some ⟨bD, 0, none⟩)), (5, x.2), (6, int x.1)])
    (fun x wr => x.1 ≤ d.notes.length ∧ Ext wD wr ∧ wr.ownsRow wD.heap.size 3 1 x.2 ((d.notes.take x.1).filter f).length ((((d.notes.take x.1).filter f).map (fun n => n.id)).map int)) (fun x => d.notes.length - x.1) (0, .slice none 0 0)
    ⟨rfl, rfl, rfl, rfl, trivial⟩ ⟨Nat.zero_le _, Ext.refl _, World.ownsRow_nil _ _ _ _⟩ ?_
  rintro ⟨i, vO⟩ wr ⟨hi, hx, hown⟩
  dsimp only at hi hx hown ⊢
  have rDr := rD.ext hx
  have hXr := xD.trans hx
  have hfl : ((d.notes.take i).filter f).length ≤ i := Nat.le_trans (List.length_filter_le _ _) (by rw [List.length_take]; omega)
  by_cases hlt : i < d.notes.length
  · obtain ⟨b, off, rfl⟩ := hp (by omega)
    obtain ⟨q, hq⟩ : ∃ q, d.notes[i]? = some q := ⟨_, List.getElem?_eq_getElem hlt⟩
    have hat := note_elem (hn0.ext hXr) hq
    obtain ⟨C, hC⟩ : ∃ C : List Int, C = (chainF d q.id).map (fun n => n.id) := ⟨_, rfl⟩
    have hCl : C.length ≤ 7 := by rw [hC, List.length_map]; exact Nat.le_trans (chain_len _ _ _) (by omega)
    have cc := fun wq (xq : Ext wr wq) => refchain_any h _ q.id wq (hd0.ext (hXr.trans xq))
    simp only [← hC] at cc
    have hfq : f q = (!decide (q.id = id) && decide (id ∈ C)) := by rw [hf, hC]
    by_cases hqi : q.id = id
    · have hf0 : f q = false := by rw [hfq]; simp [hqi]
      (repeat' (first | refine eV rfl rfl (val_load rfl rfl rfl (rDr.cellAt rfl)) ?_ | refine yV rfl rfl (fun wq _ xq => val_load rfl rfl rfl ((rDr.ext xq).cellAt rfl)) ?_ | refine yV rfl rfl (fun _ _ _ => val_indexAddr (m := i) rfl rfl rfl rfl (by omega)) ?_ | refine yV rfl rfl (fun wq _ xq => val_load rfl rfl rfl ((hat.ext xq).cellAt (j := 0) rfl)) ?_ | (refine at_EL ?_; first | refine eN ?_ | refine eV rfl rfl (zA rfl rfl) ?_ | refine eV rfl rfl (zB rfl rfl) ?_ | (refine at_bin ?_; first | refine eD rfl rfl (zL rfl rfl rfl) (fun hh => ?_) (fun hh => ?_) | refine eV rfl rfl (zU rfl rfl rfl (by omega) (by omega)) ?_) | (refine at_call ?_; first | refine eV rfl rfl (zK rfl rfl) ?_) | refine eV rfl rfl (zH rfl rfl) ?_) | (refine at_K ?_; first | refine K_then ?_ | refine K_in ?_ | refine K_then_exit ?_ | refine K_in_exit ?_) | (refine at_E ?_; first | refine E_seq ?_ | refine E_region ?_ | refine E_cond_t rfl ?_ | refine E_cond_f rfl ?_ | refine E_block ?_ | refine E_skip ?_ | refine E_ret ?_ | refine E_exit ?_ | refine E_dq mixedOk (by kernel_rfl) rfl ?_) | (refine at_RQ ?_; first | refine yN rfl (fun wq xq => ?_) | refine yO rfl rfl ?_ | refine yV rfl rfl (fun _ _ _ => zA rfl rfl) ?_ | (refine at_binR ?_; first | refine yD rfl rfl (fun _ _ _ => zQ rfl rfl rfl) (fun hh => ?_) (fun hh => ?_)) | refine yV rfl rfl (fun _ _ _ => zD rfl rfl rfl) ?_ | refine yV rfl rfl (fun _ _ _ => zH rfl rfl) ?_)))
      all_goals (first | (exfalso; omega) | skip)
      refine K_rnd (i + 1, vO) ⟨rfl, rfl, rfl, rfl, trivial⟩ ⟨by dsimp only; omega, hx.trans xq, ?_⟩ (by dsimp only; omega)
      dsimp only
      rw [filter_no hq hf0]
      exact own_ext hown xq
    · obtain ⟨bb, hbb⟩ : ∃ bb, bb = decide (id ∈ C) := ⟨_, rfl⟩
      have cin : ∀ (u : Value) (wq : World), Sl wq u C → Calls Try.prog 40 #[u, int id] wq (Rt fun u' w' => u' = .bool bb ∧ Ext wq w') := fun u wq hu => by
        rw [hbb]; exact in_any C id u wq hu (by omega)
      have hfb : f q = bb := by rw [hfq, ← hbb]; simp [hqi]
      clear hbb
      cases bb
      all_goals
        (repeat' (first | refine eV rfl rfl (val_load rfl rfl rfl (rDr.cellAt rfl)) ?_ | refine yV rfl rfl (fun wq _ xq => val_load rfl rfl rfl ((rDr.ext xq).cellAt rfl)) ?_ | refine yV rfl rfl (fun _ _ _ => val_indexAddr (m := i) rfl rfl rfl rfl (by omega)) ?_ | refine yV rfl rfl (fun wq _ xq => val_load rfl rfl rfl ((hat.ext xq).cellAt (j := 0) rfl)) ?_ | refine yV rfl rfl (fun wq _ xq => val_loadA rfl rfl rfl (rDr.ext xq).at rfl) ?_ | refine RQ_callR (fun u w' => Sl w' u C) (fun _ => #[.agg #[int d.rid, str d.rname, int d.len, int d.day, sv, tv, .slice (some ⟨b, off, none⟩) d.notes.length cap], int q.id]) rfl rfl (fun _ _ _ _ xe h => SlG.ext h xe) (fun _ _ _ => entersF rfl rfl en15) (fun wq _ xq _ => calls_mono (cc wq xq) fun _ _ h => ⟨h.2, h.1⟩) ?_ | refine RQ_callV (fun δ => #[δ 30, int id]) rfl rfl (fun _ _ _ => entersF rfl rfl en40) (fun wq δ xq hs => cin (δ 30) wq (hs 30 rfl _ rfl)) ?_ | refine RQ_end (fun wq δ xq hR => ?_) | (refine at_EL ?_; first | refine eN ?_ | refine eV rfl rfl (zA rfl rfl) ?_ | refine eV rfl rfl (zB rfl rfl) ?_ | (refine at_bin ?_; first | refine eD rfl rfl (zL rfl rfl rfl) (fun hh => ?_) (fun hh => ?_) | refine eV rfl rfl (zU rfl rfl rfl (by omega) (by omega)) ?_) | (refine at_call ?_; first | refine eV rfl rfl (zK rfl rfl) ?_) | refine eV rfl rfl (zH rfl rfl) ?_) | (refine at_K ?_; first | refine K_then ?_ | refine K_in ?_ | refine K_then_exit ?_ | refine K_in_exit ?_) | (refine at_E ?_; first | refine E_seq ?_ | refine E_region ?_ | refine E_cond_t rfl ?_ | refine E_cond_f rfl ?_ | refine E_block ?_ | refine E_skip ?_ | refine E_ret ?_ | refine E_exit ?_ | refine E_dq mixedOk (by kernel_rfl) rfl ?_) | (refine at_RQ ?_; first | refine yO rfl rfl ?_ | refine yV rfl rfl (fun _ _ _ => zA rfl rfl) ?_ | (refine at_binR ?_; first | refine yD rfl rfl (fun _ _ _ => zQ rfl rfl rfl) (fun hh => ?_) (fun hh => ?_)) | refine yV rfl rfl (fun _ _ _ => zC rfl rfl rfl) ?_ | refine yV rfl rfl (fun _ _ _ => zD rfl rfl rfl) ?_ | refine yV rfl rfl (fun _ _ _ => zH rfl rfl) ?_)))
        all_goals (first | (exfalso; omega) | skip)
      · refine K_rnd (i + 1, vO) ⟨rfl, rfl, rfl, rfl, trivial⟩ ⟨by dsimp only; omega, hx.trans xq, ?_⟩ (by dsimp only; omega)
        dsimp only
        rw [filter_no hq hfb]
        exact own_ext hown xq
      · have rDq := rDr.ext xq
        have haq := hat.ext xq
        have hx1 := hx.trans xq
        have own1 := own_ext hown xq
        (repeat' (first | refine eV rfl rfl (val_load rfl rfl rfl (rDq.cellAt rfl)) ?_ | refine eV rfl rfl (val_indexAddr (m := i) rfl rfl rfl rfl (by omega)) ?_ | refine eV rfl rfl (val_load rfl rfl rfl (haq.cellAt (j := 0) rfl)) ?_ | (refine EL_appO (news := [int q.id]) (own_ext own1 xS) (hx1.trans xS) (fun _ => ⟨_, _, rfl, rS.at⟩) rfl rfl rfl rfl rfl rfl rfl rfl rfl (by omega) (by omega) (fun vJ wJ oJ xJ kJ hJ => ?_)) | (refine at_EL ?_; first | refine eN ?_ | refine eV rfl rfl (zA rfl rfl) ?_ | refine eV rfl rfl (zB rfl rfl) ?_ | (refine at_bin ?_; first | refine eV rfl rfl (zU rfl rfl rfl (by omega) (by omega)) ?_) | refine eV rfl rfl (zH rfl rfl) ?_ | refine eL rfl rfl rfl rfl rfl rfl rfl rfl (fun bS wS xS hbS rS => ?_)) | (refine at_K ?_; first | refine K_then ?_ | refine K_in ?_) | (refine at_E ?_; first | refine E_region ?_)))
        refine K_rnd (i + 1, vJ) ⟨rfl, rfl, rfl, rfl, trivial⟩ ⟨by dsimp only; omega, xJ, ?_⟩ (by dsimp only; omega)
        dsimp only
        rw [filter_yes hq hfb, List.length_append, List.map_append, List.map_append]
        exact oJ
  · obtain rfl : i = d.notes.length := by omega
    rw [List.take_length] at hown
    (repeat' (first | refine eV rfl rfl (val_load rfl rfl rfl (rDr.cellAt rfl)) ?_ | (refine at_EL ?_; first | refine eN ?_ | refine eV rfl rfl (zA rfl rfl) ?_ | refine eV rfl rfl (zB rfl rfl) ?_ | (refine at_bin ?_; first | refine eD rfl rfl (zL rfl rfl rfl) (fun hh => ?_) (fun hh => ?_)) | (refine at_call ?_; first | refine eV rfl rfl (zK rfl rfl) ?_) | refine eV rfl rfl (zH rfl rfl) ?_) | (refine at_K ?_; first | refine K_then ?_ | refine K_then_exit ?_ | refine K_in_exit ?_) | (refine at_E ?_; first | refine E_seq ?_ | refine E_region ?_ | refine E_cond_t rfl ?_ | refine E_cond_f rfl ?_ | refine E_block ?_ | refine E_skip ?_ | refine E_ret ?_ | refine E_exit ?_)))
    all_goals (first | (exfalso; omega) | skip)
    refine ret_1 rfl rfl ⟨hXr, ?_⟩
    exact own_Sl (css := ((d.notes.filter f).map (fun n => n.id)).map fun z => [int z]) (by rw [ints_flat]; exact hown) (ints_ats _ _) (by simp) (by rw [List.length_map]; have := List.length_filter_le f d.notes; omega)
end Go.Proofs.Ytaajcbhingpfeaa
