/-
  Walks of align: the program's Chain.
-/
import Derived.Test.YtaajcbhingpfeaaWe
set_option linter.all false
namespace Go.Proofs.Ytaajcbhingpfeaa
open Go.RowKit Go.En
attribute [local irreducible] E EL K Val Enters Rt Calls bodyPost Code.wp RQ
set_option maxRecDepth 8000 in
set_option maxHeartbeats 4000000 in
theorem chain_any {d : Dc} (h : LightD d) (v : Value) (id : Int) (w : World) (hv : DcAt w v d) : Calls Try.prog 14 #[v, int id] w (Rt fun u w' => Ext w w' ∧ Sl w' u ((chainF d id).map (·.id))) := by
  have hd0 := hv
  have hT := h.ntiers
  obtain ⟨sv, tv, nv, rfl, hs, htv, hnv⟩ := hv
  refine calls_E (n := 29) (args := [.agg #[int d.rid, str d.rname, int d.len, int d.day, sv, tv, nv], int id]) Try.func14 rfl Try.ntmps14 (by simp) ?_
  have htv0 := htv
  obtain ⟨a, cap, rfl, hc, hm, hp⟩ := htv.sl
  refine E_seq ?_
  refine E_region ?_
  refine EL_box rfl rfl rfl rfl (fun bD wD xD hbD rD0 => ?_)
  have rD1 : Row wD bD 28 [int d.rid, str d.rname, int d.len, int d.day, sv, .slice a d.tiers.length cap, nv] := rD0
  clear rD0
  have cg1 := tget_any d _ id wD (hd0.ext xD)
  rw [getR_cur] at cg1
  (repeat' (first | refine eV rfl rfl (val_loadA rfl rfl rfl rD1.at rfl) ?_ | (refine at_EL ?_; first | refine eN ?_ | refine eV rfl rfl (zA rfl rfl) ?_ | refine eV rfl rfl (zB rfl rfl) ?_) | (refine at_K ?_; first | refine K_then ?_) | (refine at_E ?_; first | refine E_seq ?_ | refine E_region ?_)))
  (repeat' (first | (refine EL_call rfl rfl (entersF rfl rfl en37) cg1 (fun vC wC hC => ?_); obtain ⟨rfl, xC⟩ := hC) | (refine at_EL ?_; first | refine eV rfl rfl (zA rfl rfl) ?_ | refine eV rfl rfl (zF rfl rfl rfl) ?_)))
  refine EL_alloc rfl rfl rfl (fun bP wP xP hbP rP0 => ?_)
  refine EL_storeP (cs := noteC (curN d.notes id)) rP0 xP (by omega) rfl rfl rfl rfl rfl rfl rfl rfl (Nat.le_refl _) (fun w3 rP1 x3 k3 => ?_)
  have rP : Row w3 bP 48 (noteC (curN d.notes id)) := rP1
  have rD := rD1.ext (xC.trans x3)
  have hX := xD.trans (xC.trans x3)
  have hbP3 : bP < w3.heap.size := rP.lt
  clear rP0 rP1 k3 cg1
  (repeat' (first | (refine at_EL ?_; first | refine eN ?_ | refine eV rfl rfl (zB rfl rfl) ?_) | (refine at_K ?_; first | refine K_then ?_) | (refine at_E ?_; first | refine E_block ?_)))
  refine E_loop (ι := Nat × Value × List Int × Int) (fun s => [(2, .pointer (some ⟨bD, 0, none⟩)), (5, s.2.1), (6, .pointer (some ⟨s.1, 0, none⟩)), (7, .bool (getF d.notes s.2.2.2).isSome)])
    (fun s wr => Ext wC wr ∧ wr.ownsRow wC.heap.size 3 1 s.2.1 s.2.2.1.length (s.2.2.1.map int) ∧ wC.heap.size ≤ s.1 ∧ s.2.1.ownBlock ≠ some s.1 ∧ Row wr s.1 48 (noteC (curN d.notes s.2.2.2)) ∧ s.2.2.1 ++ (chainF d s.2.2.2).map (·.id) = (chainF d id).map (·.id)) (fun s => (chainF d s.2.2.2).length) (bP, .slice none 0 0, [], id)
    ⟨rfl, rfl, rfl, rfl, trivial⟩ ⟨x3, World.ownsRow_nil _ _ _ _, by dsimp only; omega, by simp [Value.ownBlock], rP, rfl⟩ ?_
  rintro ⟨bR, vO, acc, q⟩ wr ⟨hx, hown, hbR, hne, rPr, hcat⟩
  dsimp only at hx hown hbR hne rPr hcat ⊢
  have rDr := (rD1.ext xC).ext hx
  have hcl : (chainF d id).length ≤ 7 := Nat.le_trans (chain_len _ _ _) (by omega)
  have hal : acc.length + (chainF d q).length ≤ 7 := by
    have := congrArg List.length hcat
    simp only [List.length_append, List.length_map] at this
    omega
  have hret : ∀ w', Ext wr w' → Sl w' vO acc := fun w' xx => own_Sl (css := acc.map fun z => [int z]) (by rw [ints_flat]; exact own_ext hown xx) (ints_ats _ _) (by simp) (by omega)
  cases hg : getF d.notes q with
  | none =>
    have he : acc = (chainF d id).map (·.id) := by
      rw [← hcat, chain_none hg]
      simp
    (repeat' (first | (refine at_EL ?_; first | refine eN ?_ | refine eV rfl rfl (zA rfl rfl) ?_ | refine eV rfl rfl (zB rfl rfl) ?_) | (refine at_K ?_; first | refine K_then ?_ | refine K_then_exit ?_ | refine K_in_exit ?_) | (refine at_E ?_; first | refine E_seq ?_ | refine E_region ?_ | refine E_cond_f rfl ?_ | refine E_ret ?_ | refine E_exit ?_)))
    all_goals (first | (exfalso; omega) | skip)
    all_goals exact ret_1 rfl rfl ⟨xD.trans (xC.trans hx), he ▸ hret wr (Ext.refl _)⟩
  | some p =>
    obtain ⟨hpm, hpi⟩ := get_some hg
    have hcc := chain_cons h hpm
    rw [hpi] at hcc
    have hcp : curN d.notes q = p := by unfold curN; rw [hg]; rfl
    rw [hcp] at rPr
    rw [hcc] at hal hcat
    have hlt0 : ∀ bb, vO.ownBlock = some bb → wC.heap.size ≤ bb := fun bb e => (hown.lt bb e).1
    (repeat' (first | refine eV rfl rfl (val_load rfl rfl rfl (rPr.cellAt rfl)) ?_ | (refine EL_append (news := [int p.id]) rfl rfl rfl rfl (own_ext hown xS) rfl rS.at rfl rfl rfl (by omega) (by simp only [List.length_cons] at hal; omega) (by simp only [List.length_cons] at hal; omega) (by have := xS.size; have := hx.size; omega) (fun vJ wJ oJ kJ => ?_)) | (refine at_EL ?_; first | refine eN ?_ | refine eV rfl rfl (zA rfl rfl) ?_ | refine eV rfl rfl (zB rfl rfl) ?_ | refine eV rfl rfl (zH rfl rfl) ?_ | refine eL rfl rfl rfl rfl rfl rfl rfl rfl (fun bS wS xS hbS rS => ?_)) | (refine at_K ?_; first | refine K_then ?_ | refine K_in ?_) | (refine at_E ?_; first | refine E_seq ?_ | refine E_region ?_ | refine E_cond_t rfl ?_ | refine E_block ?_ | refine E_skip ?_)))
    all_goals (first | (exfalso; omega) | skip)
    have rPJ := kJ.row (rPr.ext xS) (fun e => hne e.symm)
    have xJ : Ext wC wJ := kJ.ext (hx.trans xS) (fun bb e => hlt0 bb e)
    (repeat' (first | refine eV rfl rfl (val_loadA rfl rfl rfl rPJ.at rfl) ?_ | (refine at_EL ?_; first | refine eN ?_) | (refine at_K ?_; first | refine K_then ?_) | (refine at_E ?_; first | refine E_region ?_)))
    refine EL_alloc rfl rfl rfl (fun bQ wQ xQ hbQ rQ0 => ?_)
    have hJs := xJ.size
    refine EL_storeP (cs := noteC p) rQ0 xQ (by omega) rfl rfl rfl rfl rfl rfl rfl rfl (Nat.le_refl _) (fun w4 rQ1 x4 k4 => ?_)
    have rQ : Row w4 bQ 48 (noteC p) := rQ1
    clear rQ0 rQ1 k4
    have rD4 := (rD1.ext xC).ext (xJ.trans x4)
    (repeat' (first | refine eV rfl rfl (val_loadA rfl rfl rfl rD4.at rfl) ?_ | refine eV rfl rfl (val_load rfl rfl rfl (rQ.cellAt rfl)) ?_ | (refine at_EL ?_; first | refine eN ?_ | refine eV rfl rfl (zH rfl rfl) ?_) | (refine at_K ?_; first | refine K_then ?_) | (refine at_E ?_; first | refine E_region ?_)))
    have cg2 := tget_any d _ p.parent w4 (hd0.ext (xD.trans (xC.trans (xJ.trans x4))))
    rw [getR_cur] at cg2
    (repeat' (first | (refine EL_call rfl rfl (entersF rfl rfl en37) cg2 (fun vC wC2 hC => ?_); obtain ⟨rfl, xC2⟩ := hC) | (refine at_EL ?_; first | refine eV rfl rfl (zA rfl rfl) ?_ | refine eV rfl rfl (zF rfl rfl rfl) ?_)))
    have hneJ : vJ.ownBlock ≠ some bQ := fun e => by have := (oJ.lt bQ e).2; omega
    refine EL_storeP (cs := noteC (curN d.notes p.parent)) (rQ.ext xC2) (xJ.trans (x4.trans xC2)) (by omega) rfl rfl rfl rfl rfl rfl rfl rfl (Nat.le_refl _) (fun w5 rP5 x5 k5 => ?_)
    have rP5' : Row w5 bQ 48 (noteC (curN d.notes p.parent)) := rP5
    clear rP5
    have o5 := (own_ext oJ (x4.trans xC2)).kept k5 (Or.inr hneJ)
    (repeat' (first | (refine at_EL ?_; first | refine eN ?_ | refine eV rfl rfl (zB rfl rfl) ?_)))
    refine K_rnd (bQ, vJ, acc ++ [p.id], p.parent) ⟨rfl, rfl, rfl, rfl, trivial⟩ ⟨x5, by dsimp only; simpa using o5, by dsimp only; omega, hneJ, rP5', ?_⟩ (by dsimp only; rw [hcc]; simp)
    dsimp only
    rw [← hcat]
    simp
end Go.Proofs.Ytaajcbhingpfeaa
