/-
  Walks of align: the reference's Chain.
-/
import Derived.Test.YtaajcbhingpfeaaWd
set_option linter.all false
namespace Go.Proofs.Ytaajcbhingpfeaa
open Go.RowKit Go.En
def curN (ns : List Note) (id : Int) : Note := (getF ns id).getD zeroN
theorem getR_cur (ns : List Note) (id : Int) : getR ns id = .tuple #[.agg (noteC (curN ns id)).toArray, .bool (getF ns id).isSome] := by
  unfold getR curN
  cases getF ns id <;> rfl
attribute [local irreducible] E EL K Val Enters Rt Calls bodyPost Code.wp RQ
set_option maxRecDepth 8000 in
set_option maxHeartbeats 4000000 in
theorem refchain_any {d : Dc} (h : LightD d) (v : Value) (id : Int) (w : World) (hv : DcAt w v d) : Calls Try.prog 15 #[v, int id] w (Rt fun u w' => Ext w w' ∧ Sl w' u ((chainF d id).map (·.id))) := by
  have hd0 := hv
  have hT := h.ntiers
  obtain ⟨sv, tv, nv, rfl, hs, htv, hnv⟩ := hv
  refine calls_E (n := 38) (args := [.agg #[int d.rid, str d.rname, int d.len, int d.day, sv, tv, nv], int id]) Try.func15 rfl Try.ntmps15 (by simp) ?_
  have htv0 := htv
  obtain ⟨a, cap, rfl, hc, hm, hp⟩ := htv.sl
  refine E_seq ?_
  refine E_region ?_
  refine EL_box rfl rfl rfl rfl (fun bD wD xD hbD rD0 => ?_)
  have rD1 : Row wD bD 28 [int d.rid, str d.rname, int d.len, int d.day, sv, .slice a d.tiers.length cap, nv] := rD0
  clear rD0
  have cg1 := get_any d _ id wD (hd0.ext xD)
  rw [getR_cur] at cg1
  (repeat' (first | refine eV rfl rfl (val_loadA rfl rfl rfl rD1.at rfl) ?_ | (refine at_EL ?_; first | refine eN ?_ | refine eV rfl rfl (zA rfl rfl) ?_ | refine eV rfl rfl (zB rfl rfl) ?_) | (refine at_K ?_; first | refine K_then ?_) | (refine at_E ?_; first | refine E_seq ?_ | refine E_region ?_)))
  (repeat' (first | (refine EL_call rfl rfl (entersF rfl rfl en33) cg1 (fun vC wC hC => ?_); obtain ⟨rfl, xC⟩ := hC) | (refine at_EL ?_; first | refine eV rfl rfl (zA rfl rfl) ?_ | refine eV rfl rfl (zF rfl rfl rfl) ?_)))
  refine EL_alloc rfl rfl rfl (fun bP wP xP hbP rP0 => ?_)
  refine EL_storeP (cs := noteC (curN d.notes id)) rP0 xP (by omega) rfl rfl rfl rfl rfl rfl rfl rfl (Nat.le_refl _) (fun w3 rP1 x3 k3 => ?_)
  have rP : Row w3 bP 48 (noteC (curN d.notes id)) := rP1
  have rD := rD1.ext (xC.trans x3)
  have hX := xD.trans (xC.trans x3)
  have hbP3 : bP < w3.heap.size := rP.lt
  clear rP0 rP1 k3 cg1
  (repeat' (first | (refine at_EL ?_; first | refine eN ?_ | refine eV rfl rfl (zB rfl rfl) ?_) | (refine at_K ?_; first | refine K_then ?_) | (refine at_E ?_; first | refine E_seq ?_ | refine E_region ?_ | refine E_block ?_)))
  refine E_loop (ι := Nat × Value × List Int × Int) (fun s => [(2, .pointer (some ⟨bD, 0, none⟩)), (5, s.2.1), (6, .pointer (some ⟨bP, 0, none⟩)), (7, .bool (getF d.notes s.2.2.2).isSome), (8, int s.1)])
    (fun s wr => s.1 ≤ d.tiers.length + 1 ∧ Ext wC wr ∧ wr.ownsRow (bP + 1) 3 1 s.2.1 s.2.2.1.length (s.2.2.1.map int) ∧ s.2.2.1.length = s.1 ∧ Row wr bP 48 (noteC (curN d.notes s.2.2.2)) ∧ s.2.2.1 ++ (chainN d.notes (d.tiers.length + 1 - s.1) s.2.2.2).map (·.id) = (chainF d id).map (·.id)) (fun s => d.tiers.length + 1 - s.1) (0, .slice none 0 0, [], id)
    ⟨rfl, rfl, rfl, rfl, rfl, trivial⟩ ⟨Nat.zero_le _, x3, World.ownsRow_nil _ _ _ _, rfl, rP, rfl⟩ ?_
  rintro ⟨i, vO, acc, q⟩ wr ⟨hi, hx, hown, hal, rPr, hcat⟩
  dsimp only at hi hx hown hal rPr hcat ⊢
  have rDr := (rD1.ext xC).ext hx
  have hret : ∀ w', Ext wr w' → Sl w' vO acc := fun w' xx => own_Sl (css := acc.map fun z => [int z]) (by rw [ints_flat]; exact own_ext hown xx) (ints_ats _ _) (by simp) (by omega)
  by_cases hlt : i ≤ d.tiers.length
  · cases hg : getF d.notes q with
    | none =>
      have he : acc = (chainF d id).map (·.id) := by
        rw [← hcat, show d.tiers.length + 1 - i = (d.tiers.length - i) + 1 by omega]
        simp [chainN, hg]
      (repeat' (first | refine eV rfl rfl (val_load rfl rfl rfl (rDr.cellAt rfl)) ?_ | (refine at_EL ?_; first | refine eN ?_ | refine eO rfl rfl ?_ | refine eV rfl rfl (zA rfl rfl) ?_ | refine eV rfl rfl (zB rfl rfl) ?_ | (refine at_bin ?_; first | refine eD rfl rfl (zN rfl rfl rfl) (fun hh => ?_) (fun hh => ?_)) | (refine at_call ?_; first | refine eV rfl rfl (zK rfl rfl) ?_) | refine eV rfl rfl (zC rfl rfl rfl) ?_ | refine eV rfl rfl (zD rfl rfl rfl) ?_ | refine eV rfl rfl (zH rfl rfl) ?_) | (refine at_K ?_; first | refine K_then ?_ | refine K_then_exit ?_ | refine K_in_exit ?_) | (refine at_E ?_; first | refine E_seq ?_ | refine E_region ?_ | refine E_cond_f rfl ?_ | refine E_ret ?_ | refine E_exit ?_)))
      all_goals (first | (exfalso; omega) | skip)
      all_goals exact ret_1 rfl rfl ⟨xD.trans (xC.trans hx), he ▸ hret wr (Ext.refl _)⟩
    | some p =>
      have hcp : curN d.notes q = p := by unfold curN; rw [hg]; rfl
      rw [hcp] at rPr
      have hlt0 : ∀ bb, vO.ownBlock = some bb → bP + 1 ≤ bb := fun bb e => (hown.lt bb e).1
      have hsz : bP < wr.heap.size := rPr.lt
      (repeat' (first | refine eV rfl rfl (val_load rfl rfl rfl (rDr.cellAt rfl)) ?_ | refine eV rfl rfl (val_load rfl rfl rfl (rPr.cellAt rfl)) ?_ | (refine EL_append (news := [int p.id]) rfl rfl rfl rfl (own_ext hown xS) rfl rS.at rfl rfl rfl (by omega) (by omega) (by omega) (by have := xS.size; omega) (fun vJ wJ oJ kJ => ?_)) | (refine at_EL ?_; first | refine eN ?_ | refine eO rfl rfl ?_ | refine eV rfl rfl (zA rfl rfl) ?_ | refine eV rfl rfl (zB rfl rfl) ?_ | (refine at_bin ?_; first | refine eD rfl rfl (zN rfl rfl rfl) (fun hh => ?_) (fun hh => ?_)) | (refine at_call ?_; first | refine eV rfl rfl (zK rfl rfl) ?_) | refine eV rfl rfl (zC rfl rfl rfl) ?_ | refine eV rfl rfl (zD rfl rfl rfl) ?_ | refine eV rfl rfl (zH rfl rfl) ?_ | refine eL rfl rfl rfl rfl rfl rfl rfl rfl (fun bS wS xS hbS rS => ?_)) | (refine at_K ?_; first | refine K_then ?_ | refine K_then_exit ?_ | refine K_in_exit ?_) | (refine at_E ?_; first | refine E_seq ?_ | refine E_region ?_ | refine E_cond_t rfl ?_ | refine E_cond_f rfl ?_ | refine E_block ?_ | refine E_skip ?_ | refine E_ret ?_ | refine E_exit ?_)))
      all_goals (first | (exfalso; omega) | skip)
      have rPJ := kJ.row (rPr.ext xS) (fun e => by have := hlt0 _ e.symm; omega)
      have xJ : Ext wC wJ := kJ.ext (hx.trans xS) (fun bb e => by have := hlt0 _ e; omega)
      have rDJ := (rD1.ext xC).ext xJ
      (repeat' (first | refine eV rfl rfl (val_loadA rfl rfl rfl rDJ.at rfl) ?_ | refine eV rfl rfl (val_load rfl rfl rfl (rPJ.cellAt rfl)) ?_ | (refine at_EL ?_; first | refine eV rfl rfl (zH rfl rfl) ?_)))
      have cg2 := get_any d _ p.parent wJ (hd0.ext (xD.trans (xC.trans xJ)))
      rw [getR_cur] at cg2
      (repeat' (first | (refine EL_call rfl rfl (entersF rfl rfl en33) cg2 (fun vC wC2 hC => ?_); obtain ⟨rfl, xC2⟩ := hC) | (refine at_EL ?_; first | refine eV rfl rfl (zA rfl rfl) ?_ | refine eV rfl rfl (zF rfl rfl rfl) ?_)))
      refine EL_storeP (cs := noteC (curN d.notes p.parent)) (rPJ.ext xC2) (xJ.trans xC2) (by omega) rfl rfl rfl rfl rfl rfl rfl rfl (Nat.le_refl _) (fun w5 rP5 x5 k5 => ?_)
      have rP5' : Row w5 bP 48 (noteC (curN d.notes p.parent)) := rP5
      clear rP5
      have o5 := (own_ext oJ xC2).kept k5 (Or.inr fun e => by have := (oJ.lt bP e).1; omega)
      (repeat' (first | (refine at_EL ?_; first | refine eN ?_ | refine eV rfl rfl (zA rfl rfl) ?_ | refine eV rfl rfl (zB rfl rfl) ?_ | (refine at_bin ?_; first | refine eV rfl rfl (zU rfl rfl rfl (by omega) (by omega)) ?_)) | (refine at_K ?_; first | refine K_then ?_ | refine K_in ?_) | (refine at_E ?_; first | refine E_region ?_)))
      refine K_rnd (i + 1, vJ, acc ++ [p.id], p.parent) ⟨rfl, rfl, rfl, rfl, rfl, trivial⟩ ⟨by dsimp only; omega, x5, by dsimp only; simpa using o5, by simp [hal], rP5', ?_⟩ (by dsimp only; omega)
      dsimp only
      rw [← hcat, show d.tiers.length + 1 - i = (d.tiers.length - i) + 1 by omega, show d.tiers.length + 1 - (i + 1) = d.tiers.length - i by omega]
      simp [chainN, hg]
  · have he : acc = (chainF d id).map (·.id) := by
      rw [← hcat, show d.tiers.length + 1 - i = 0 by omega]
      simp [chainN]
    (repeat' (first | refine eV rfl rfl (val_load rfl rfl rfl (rDr.cellAt rfl)) ?_ | (refine at_EL ?_; first | refine eN ?_ | refine eO rfl rfl ?_ | refine eV rfl rfl (zA rfl rfl) ?_ | refine eV rfl rfl (zB rfl rfl) ?_ | (refine at_bin ?_; first | refine eD rfl rfl (zN rfl rfl rfl) (fun hh => ?_) (fun hh => ?_)) | (refine at_call ?_; first | refine eV rfl rfl (zK rfl rfl) ?_) | refine eV rfl rfl (zC rfl rfl rfl) ?_ | refine eV rfl rfl (zD rfl rfl rfl) ?_ | refine eV rfl rfl (zH rfl rfl) ?_) | (refine at_K ?_; first | refine K_then ?_ | refine K_then_exit ?_ | refine K_in_exit ?_) | (refine at_E ?_; first | refine E_seq ?_ | refine E_region ?_ | refine E_cond_f rfl ?_ | refine E_ret ?_ | refine E_exit ?_)))
    all_goals (first | (exfalso; omega) | skip)
    all_goals exact ret_1 rfl rfl ⟨xD.trans (xC.trans hx), he ▸ hret wr (Ext.refl _)⟩
end Go.Proofs.Ytaajcbhingpfeaa
