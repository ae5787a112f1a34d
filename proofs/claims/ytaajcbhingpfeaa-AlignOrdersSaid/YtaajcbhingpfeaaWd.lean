/-
  Walks of align: the reference's before.
-/
import Derived.Test.YtaajcbhingpfeaaWc
set_option linter.all false
namespace Go.Proofs.Ytaajcbhingpfeaa
open Go.RowKit Go.En
theorem getR_val {ns : List Note} {id : Int} {p : Note} (h : getF ns id = some p) : getR ns id = .tuple #[.agg (noteC p).toArray, .bool true] := by
  unfold getR
  rw [h]
attribute [local irreducible] E EL K Val Enters Rt Calls bodyPost Code.wp RQ
set_option maxRecDepth 8000 in
set_option maxHeartbeats 4000000 in
theorem before_any {d : Dc} (h : LightD d) (v : Value) : ∀ (k f : Nat) (t : Tier) (x y : Note) (w : World), DcAt w v d → d.tiers[k]? = some t → k < f → x ∈ d.notes → y ∈ d.notes → x.tier = (k : Int) → y.tier = (k : Int) →
    Calls Try.prog 59 #[v, .agg (noteC x).toArray, .agg (noteC y).toArray] w (Rt fun u w' => u = .bool (befF d f x y) ∧ Ext w w') := by
  intro k
  induction k using Nat.strongRecOn with
  | _ k ih =>
  intro f t x y w hv ht hf hx hy hxk hyk
  obtain ⟨f, rfl⟩ : ∃ f', f = f' + 1 := ⟨f - 1, by omega⟩
  have hd0 := hv
  obtain ⟨sv, tv, nv, rfl, hs, htv, hnv⟩ := hv
  refine calls_E (n := 54) (args := [.agg #[int d.rid, str d.rname, int d.len, int d.day, sv, tv, nv], .agg (noteC x).toArray, .agg (noteC y).toArray]) Try.func59 rfl Try.ntmps59 (by simp) ?_
  have htv0 := htv
  obtain ⟨a, cap, rfl, hc, hm, hp⟩ := htv.sl
  have hklt := (List.getElem?_eq_some_iff.1 ht).1
  obtain ⟨b, off, rfl⟩ := hp (by omega)
  refine E_seq ?_
  refine E_region ?_
  refine EL_box rfl rfl rfl rfl (fun bD wD xD hbD rD0 => ?_)
  refine EL_box rfl rfl rfl rfl (fun bX wX xX hbX rX0 => ?_)
  refine EL_box rfl rfl rfl rfl (fun bY wY xY hbY rY0 => ?_)
  have rD : Row wY bD 28 [int d.rid, str d.rname, int d.len, int d.day, sv, .slice (some ⟨b, off, none⟩) d.tiers.length cap, nv] := rD0.ext (xX.trans xY)
  have rX : Row wY bX 48 (noteC x) := rX0.ext xY
  have rY : Row wY bY 48 (noteC y) := rY0
  have hX := xD.trans (xX.trans xY)
  clear rD0 rX0 rY0
  by_cases hpp : x.parent = y.parent
  · have hat := tier_elem (htv0.ext hX) ht
    have ca := aligned_any t.kind
    obtain ⟨bt, hbt⟩ : ∃ bt, bt = timedB t.kind := ⟨_, rfl⟩
    have hb : befF d (f + 1) x y = if bt = true then decide (x.frm < y.frm) else decide (x.rank < y.rank) := by
      rw [hbt]
      show (if x.parent ≠ y.parent then _ else _) = _
      rw [if_neg (by omega), show x.tier.toNat = k by omega, ht]
    rw [hb]
    rw [← hbt] at ca
    cases bt
    all_goals
      (repeat' (first | refine eV rfl rfl (val_load rfl rfl rfl (rX.cellAt rfl)) ?_ | refine eV rfl rfl (val_load rfl rfl rfl (rY.cellAt rfl)) ?_ | refine eV rfl rfl (val_load rfl rfl rfl (rD.cellAt rfl)) ?_ | refine eV rfl rfl (val_indexAddr (m := k) rfl rfl rfl hxk hklt) ?_ | refine eV rfl rfl (val_load rfl rfl rfl (hat.cellAt (j := 1) rfl)) ?_ | (refine EL_call rfl rfl (entersF rfl rfl en65) (ca _) (fun vC wC hC => ?_); obtain ⟨rfl, xC⟩ := hC; replace rX := rX.ext xC; replace rY := rY.ext xC; replace hX := hX.trans xC) | (refine at_EL ?_; first | refine eN ?_ | refine eV rfl rfl (zB rfl rfl) ?_ | (refine at_bin ?_; first | refine eD rfl rfl (zL rfl rfl rfl) (fun hh => ?_) (fun hh => ?_) | refine eD rfl rfl (zQ rfl rfl rfl) (fun hh => ?_) (fun hh => ?_)) | refine eV rfl rfl (zH rfl rfl) ?_) | (refine at_K ?_; first | refine K_then ?_ | refine K_then_ret ?_) | (refine at_E ?_; first | refine E_seq ?_ | refine E_region ?_ | refine E_cond_t rfl ?_ | refine E_cond_f rfl ?_ | refine E_skip ?_ | refine E_ret ?_)))
      all_goals (first | (exfalso; omega) | skip)
      all_goals exact ret_1 rfl rfl ⟨by simp; omega, hX⟩
  · have h0 : t.kind ≠ 0 := by
      intro h0
      obtain ⟨px, _, _⟩ := note_at h hx hxk ht
      obtain ⟨py, _, _⟩ := note_at h hy hyk ht
      exact hpp ((px.root h0).trans (py.root h0).symm)
    obtain ⟨j, u, p, e1, e2, e3, e4, e5, e6, e7⟩ := parent_of h ht hx hxk h0
    obtain ⟨j', u', q, g1, g2, g3, g4, g5, g6, g7⟩ := parent_of h ht hy hyk h0
    obtain rfl : j' = j := by omega
    have hb : befF d (f + 1) x y = befF d f p q := by
      show (if x.parent ≠ y.parent then _ else _) = _
      rw [if_pos hpp, e4, g4]
    rw [hb]
    have cg1 := get_any d _ x.parent wY (hd0.ext hX)
    rw [getR_val e4] at cg1
    (repeat' (first | refine eV rfl rfl (val_loadA rfl rfl rfl rD.at rfl) ?_ | refine eV rfl rfl (val_load rfl rfl rfl (rX.cellAt rfl)) ?_ | refine eV rfl rfl (val_load rfl rfl rfl (rY.cellAt rfl)) ?_ | (refine at_EL ?_; first | refine eN ?_ | refine eV rfl rfl (zB rfl rfl) ?_ | (refine at_bin ?_; first | refine eD rfl rfl (zQ rfl rfl rfl) (fun hh => ?_) (fun hh => ?_)) | refine eV rfl rfl (zH rfl rfl) ?_) | (refine at_K ?_; first | refine K_then ?_) | (refine at_E ?_; first | refine E_seq ?_ | refine E_region ?_ | refine E_cond_t rfl ?_ | refine E_cond_f rfl ?_ | refine E_skip ?_)))
    all_goals (first | (exfalso; omega) | skip)
    (repeat' (first | (refine EL_call rfl rfl (entersF rfl rfl en33) cg1 (fun vC wC hC => ?_); obtain ⟨rfl, xC⟩ := hC) | (refine at_EL ?_; first | refine eV rfl rfl (zA rfl rfl) ?_ | refine eV rfl rfl (zF rfl rfl rfl) ?_)))
    refine EL_alloc rfl rfl rfl (fun bP wP xP hbP rP0 => ?_)
    refine EL_storeP (cs := noteC p) rP0 xP (by omega) rfl rfl rfl rfl rfl rfl rfl rfl (Nat.le_refl _) (fun w3 rP1 x3 k3 => ?_)
    have rP : Row w3 bP 48 (noteC p) := rP1
    replace rD := rD.ext (xC.trans x3)
    replace rY := rY.ext (xC.trans x3)
    have hX3 := hX.trans (xC.trans x3)
    clear rP0 rP1 k3 cg1
    (repeat' (first | refine eV rfl rfl (val_loadA rfl rfl rfl rD.at rfl) ?_ | refine eV rfl rfl (val_load rfl rfl rfl (rY.cellAt rfl)) ?_ | (refine at_EL ?_; first | refine eN ?_ | refine eV rfl rfl (zB rfl rfl) ?_ | refine eV rfl rfl (zH rfl rfl) ?_) | (refine at_K ?_; first | refine K_then ?_) | (refine at_E ?_; first | refine E_seq ?_ | refine E_region ?_)))
    have cg2 := get_any d _ y.parent w3 (hd0.ext hX3)
    rw [getR_val g4] at cg2
    (repeat' (first | (refine EL_call rfl rfl (entersF rfl rfl en33) cg2 (fun vC wC hC => ?_); obtain ⟨rfl, xC2⟩ := hC) | (refine at_EL ?_; first | refine eV rfl rfl (zA rfl rfl) ?_ | refine eV rfl rfl (zF rfl rfl rfl) ?_)))
    refine EL_alloc rfl rfl rfl (fun bQ wQ xQ hbQ rQ0 => ?_)
    refine EL_storeP (cs := noteC q) rQ0 xQ (by omega) rfl rfl rfl rfl rfl rfl rfl rfl (Nat.le_refl _) (fun w4 rQ1 x4 k4 => ?_)
    have rQ : Row w4 bQ 48 (noteC q) := rQ1
    replace rD := rD.ext (xC2.trans x4)
    replace rP := rP.ext (xC2.trans x4)
    have hX4 := hX3.trans (xC2.trans x4)
    clear rQ0 rQ1 k4 cg2
    have cb := ih j' e2 f u p q w4 (hd0.ext hX4) e3 (by omega) e5 g5 e7 g7
    (repeat' (first | refine eV rfl rfl (val_loadA rfl rfl rfl rD.at rfl) ?_ | refine eV rfl rfl (val_loadA rfl rfl rfl rP.at rfl) ?_ | refine eV rfl rfl (val_loadA rfl rfl rfl rQ.at rfl) ?_ | (refine EL_call rfl rfl (entersF rfl rfl en59) cb (fun vC wC hC => ?_); obtain ⟨rfl, xC3⟩ := hC) | (refine at_EL ?_; first | refine eN ?_ | refine eV rfl rfl (zB rfl rfl) ?_) | (refine at_K ?_; first | refine K_then ?_ | refine K_then_ret ?_) | (refine at_E ?_; first | refine E_seq ?_ | refine E_region ?_ | refine E_ret ?_)))
    all_goals (first | (exfalso; omega) | skip)
    exact ret_1 rfl rfl ⟨rfl, hX4.trans xC3⟩
end Go.Proofs.Ytaajcbhingpfeaa
