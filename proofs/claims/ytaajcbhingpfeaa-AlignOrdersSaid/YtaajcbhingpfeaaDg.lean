/-
  Walks: the reference's placed, noteError.
-/
import Derived.Test.YtaajcbhingpfeaaDd
import Derived.Test.YtaajcbhingpfeaaY1
set_option linter.all false
namespace Go.Proofs.Ytaajcbhingpfeaa
open Go.RowKit Go.En
theorem getR_cases (ns : List Note) (id : Int) : ∃ (q : Note) (ok : Bool), getR ns id = .tuple #[.agg (noteC q).toArray, .bool ok] ∧ (ok = true → getF ns id = some q) ∧ (ok = false → getF ns id = none) := by
  unfold getR
  cases h : getF ns id with
  | none => exact ⟨zeroN, false, rfl, by simp, by simp⟩
  | some q => exact ⟨q, true, rfl, by simp, by simp⟩
attribute [local irreducible] E EL K Val Enters Rt Calls bodyPost Code.wp RQ
set_option maxRecDepth 8000 in
set_option maxHeartbeats 4000000 in
theorem placed_any (d : Dc) (n : Note) (t : Tier) (k : Nat) (v : Value) (w : World) (hv : DcAt w v d) (hk : n.tier = (k : Int)) (ht : d.tiers[k]? = some t) :
    Calls Try.prog 63 #[v, .agg (noteC n).toArray] w (Rt fun u w' => (∃ e : Int, u = int e ∧ (e = 0 → PlacedOK d n t)) ∧ Ext w w') := by
  have hd0 := hv
  obtain ⟨sv, tv, nv, rfl, hs, htv, hnv⟩ := hv
  refine calls_E (n := 117) (args := [.agg #[int d.rid, str d.rname, int d.len, int d.day, sv, tv, nv], .agg (noteC n).toArray]) Try.func63 rfl Try.ntmps63 (by simp) ?_
  have htv0 := htv
  obtain ⟨a, cap, rfl, hc, hm, hp⟩ := htv.sl
  have hklt := (List.getElem?_eq_some_iff.1 ht).1
  obtain ⟨b, off, rfl⟩ := hp (by omega)
  refine E_seq ?_
  refine E_region ?_
  refine EL_box rfl rfl rfl rfl (fun bD wD xD hbD rD0 => ?_)
  refine EL_box rfl rfl rfl rfl (fun bN wN xN hbN rN0 => ?_)
  have rD1 : Row wN bD 28 [int d.rid, str d.rname, int d.len, int d.day, sv, .slice (some ⟨b, off, none⟩) d.tiers.length cap, nv] := rD0.ext xN
  have rN1 : Row wN bN 48 (noteC n) := rN0
  have hat1 := tier_elem (htv0.ext (xD.trans xN)) ht
  (repeat' (first | refine eV rfl rfl (val_load rfl rfl rfl (rD1.cellAt rfl)) ?_ | refine eV rfl rfl (val_load rfl rfl rfl (rN1.cellAt rfl)) ?_ | refine eV rfl rfl (val_indexAddr (m := k) rfl rfl rfl hk hklt) ?_ | refine eV rfl rfl (val_loadA rfl rfl rfl hat1 rfl) ?_ | (refine at_EL ?_; first | refine eN ?_ | refine eV rfl rfl (zB rfl rfl) ?_ | refine eV rfl rfl (zH rfl rfl) ?_) | (refine at_K ?_; first | refine K_then ?_) | (refine at_E ?_; first | refine E_seq ?_ | refine E_region ?_)))
  refine EL_alloc rfl rfl rfl (fun bT wT xT hbT rT0 => ?_)
  refine EL_storeP (cs := tierC t) rT0 xT (by omega) rfl rfl rfl rfl rfl rfl rfl rfl (Nat.le_refl _) (fun w2 rT1 x2 k2 => ?_)
  have rT2 : Row w2 bT 65 (tierC t) := rT1
  have rD2 := rD1.ext x2
  have rN2 := rN1.ext x2
  have hx2 := xD.trans (xN.trans x2)
  clear rT0 rT1 rD0 rN0 rD1 rN1 k2
  (repeat' (first | refine eV rfl rfl (val_loadA rfl rfl rfl rD2.at rfl) ?_ | refine eV rfl rfl (val_load rfl rfl rfl (rN2.cellAt rfl)) ?_ | (refine at_EL ?_; first | refine eN ?_ | refine eV rfl rfl (zH rfl rfl) ?_) | (refine at_K ?_; first | refine K_then ?_) | (refine at_E ?_; first | refine E_seq ?_ | refine E_region ?_)))
  have cg := get_any d _ n.parent w2 (hd0.ext hx2)
  obtain ⟨q, ok, hq, hq1, hq2⟩ := getR_cases d.notes n.parent
  rw [hq] at cg
  (repeat' (first | (refine EL_call rfl rfl (entersF rfl rfl en33) cg (fun vC wC hC => ?_); obtain ⟨rfl, xC⟩ := hC) | (refine at_EL ?_; first | refine eV rfl rfl (zA rfl rfl) ?_ | refine eV rfl rfl (zF rfl rfl rfl) ?_)))
  refine EL_alloc rfl rfl rfl (fun bP wP xP hbP rP0 => ?_)
  refine EL_storeP (cs := noteC q) rP0 xP (by omega) rfl rfl rfl rfl rfl rfl rfl rfl (Nat.le_refl _) (fun w3 rP1 x3 k3 => ?_)
  have rP : Row w3 bP 48 (noteC q) := rP1
  have rT := rT2.ext (xC.trans x3)
  have rD := rD2.ext (xC.trans x3)
  have rN := rN2.ext (xC.trans x3)
  have hx := hx2.trans (xC.trans x3)
  clear rP0 rP1 rT2 rD2 rN2 k3 cg hat1
  (repeat' ((fail_if_success (refine E_seq (x := (Code.seq (Code.region 3 _ _) _)) ?_)); first | (refine at_EL ?_; first | refine eN ?_ | refine eV rfl rfl (zB rfl rfl) ?_) | (refine at_K ?_; first | refine K_then ?_)))
  have f0 := Ext.refl w3
  refine E_mid (ι := Unit) (fun _ => [(2, .pointer (some ⟨bD, 0, none⟩)), (3, .pointer (some ⟨bN, 0, none⟩)), (5, .pointer (some ⟨bT, 0, none⟩)), (6, .pointer (some ⟨bP, 0, none⟩)), (7, .bool ok)]) (fun _ w4 => Ext w3 w4 ∧ (t.kind = 0 → n.parent = 0) ∧ (t.kind ≠ 0 → ok = true ∧ q.tier = t.parent)) ?_ ?_
  · cases ok
    all_goals
      (repeat' (first | refine eV rfl rfl (val_load rfl rfl rfl (rT.cellAt rfl)) ?_ | refine eV rfl rfl (val_load rfl rfl rfl (rN.cellAt rfl)) ?_ | refine eV rfl rfl (val_load rfl rfl rfl (rP.cellAt rfl)) ?_ | (refine at_EL ?_; first | refine eN ?_ | refine eO rfl rfl ?_ | refine eV rfl rfl (zA rfl rfl) ?_ | refine eV rfl rfl (zB rfl rfl) ?_ | (refine at_bin ?_; first | refine eD rfl rfl (zM rfl rfl rfl) (fun hh => ?_) (fun hh => ?_) | refine eD rfl rfl (zQ rfl rfl rfl) (fun hh => ?_) (fun hh => ?_)) | refine eV rfl rfl (zC rfl rfl rfl) ?_ | refine eV rfl rfl (zD rfl rfl rfl) ?_ | refine eV rfl rfl (zE rfl rfl) ?_ | refine eV rfl rfl (zH rfl rfl) ?_) | (refine at_K ?_; first | refine K_then ?_ | refine K_then_ret ?_) | (refine at_E ?_; first | refine E_seq ?_ | refine E_region ?_ | refine E_cond_t rfl ?_ | refine E_cond_f rfl ?_ | refine E_skip ?_ | refine E_ret ?_)))
      all_goals (first | (exfalso; omega) | exact ret_1 rfl rfl ⟨⟨_, rfl, fun h => by omega⟩, hx⟩ | exact K_mid () ⟨rfl, rfl, rfl, rfl, rfl, trivial⟩ ⟨Ext.refl _, by omega, fun h => ⟨rfl, by omega⟩⟩ | exact K_mid () ⟨rfl, rfl, rfl, rfl, rfl, trivial⟩ ⟨Ext.refl _, by omega, fun h => absurd ‹t.kind = 0› h⟩ | exact K_mid () ⟨rfl, rfl, rfl, rfl, rfl, trivial⟩ ⟨Ext.refl _, by omega, fun h => absurd (Classical.not_not.1 ‹_›) h⟩)
  rintro ⟨⟩ w4 ⟨xm, f1, f2⟩
  replace hx := hx.trans xm
  replace rD := rD.ext xm
  replace rN := rN.ext xm
  replace rT := rT.ext xm
  replace rP := rP.ext xm
  obtain ⟨bt, hbt⟩ : ∃ bt, bt = timedB t.kind := ⟨_, rfl⟩
  have ct := aligned_any t.kind
  rw [← hbt] at ct
  obtain ⟨br, hbr⟩ : ∃ br, br = rightB n.frm n.til := ⟨_, rfl⟩
  have cr := rright_any n.frm n.til
  rw [← hbr] at cr
  obtain ⟨bz, hbz⟩ : ∃ bz, bz = !(decide (n.frm = 0) && decide (n.til = 0)) := ⟨_, rfl⟩
  have hspan : At w4 bN (0 + 3) [int n.frm, int n.til] := rN.at.seg 3 (n := 2)
  refine E_mid (ι := Unit) (fun _ => [(2, .pointer (some ⟨bD, 0, none⟩)), (3, .pointer (some ⟨bN, 0, none⟩)), (5, .pointer (some ⟨bT, 0, none⟩)), (6, .pointer (some ⟨bP, 0, none⟩)), (7, .bool ok)]) (fun _ w5 => Ext w4 w5 ∧ (bt = false → bz = false) ∧ (bt = true → br = true)) ?_ ?_
  · have xe := Ext.refl w4
    cases bt <;> cases br <;> cases bz
    all_goals
      (repeat' (first | refine eV rfl rfl (val_load rfl rfl rfl (rT.cellAt rfl)) ?_ | refine eV rfl rfl (val_loadA rfl rfl rfl hspan rfl) ?_ | refine eV rfl rfl (val_build (vs := []) [int 0, int 0] rfl rfl rfl) ?_ | refine eV rfl rfl (val_ne_two_b span_two rfl rfl rfl hbz) ?_ | (refine EL_call rfl rfl (entersF rfl rfl en65) (ct _) (fun vC wC hC => ?_); obtain ⟨rfl, xC⟩ := hC; replace xe := xe.trans xC; replace hspan := hspan.ext xC; replace rT := rT.ext xC; replace rN := rN.ext xC) | (refine EL_call rfl rfl (entersF rfl rfl en81) (cr _) (fun vC wC hC => ?_); obtain ⟨rfl, xC⟩ := hC; replace xe := xe.trans xC) | (refine at_EL ?_; first | refine eN ?_ | refine eO rfl rfl ?_ | refine eV rfl rfl (zA rfl rfl) ?_ | refine eV rfl rfl (zB rfl rfl) ?_ | refine eV rfl rfl (zC rfl rfl rfl) ?_ | refine eV rfl rfl (zD rfl rfl rfl) ?_ | refine eV rfl rfl (zE rfl rfl) ?_ | refine eV rfl rfl (zH rfl rfl) ?_) | (refine at_K ?_; first | refine K_then ?_ | refine K_then_ret ?_) | (refine at_E ?_; first | refine E_seq ?_ | refine E_region ?_ | refine E_cond_t rfl ?_ | refine E_cond_f rfl ?_ | refine E_skip ?_ | refine E_ret ?_)))
      all_goals (first | exact ret_1 rfl rfl ⟨⟨_, rfl, fun h => by omega⟩, hx.trans xe⟩ | exact K_mid () ⟨rfl, rfl, rfl, rfl, rfl, trivial⟩ ⟨xe, by simp, by simp⟩)
  rintro ⟨⟩ w5 ⟨xm, f3, f4⟩
  replace hx := hx.trans xm
  replace rD := rD.ext xm
  replace rN := rN.ext xm
  replace rT := rT.ext xm
  replace rP := rP.ext xm
  refine E_mid (ι := Unit) (fun _ => [(2, .pointer (some ⟨bD, 0, none⟩)), (3, .pointer (some ⟨bN, 0, none⟩)), (5, .pointer (some ⟨bT, 0, none⟩)), (6, .pointer (some ⟨bP, 0, none⟩)), (7, .bool ok)]) (fun _ w6 => Ext w5 w6 ∧ (t.kind = 0 → n.til ≤ d.len)) ?_ ?_
  · (repeat' (first | refine eV rfl rfl (val_load rfl rfl rfl (rT.cellAt rfl)) ?_ | refine eV rfl rfl (val_load rfl rfl rfl (rN.cellAt rfl)) ?_ | refine eV rfl rfl (val_load rfl rfl rfl (rD.cellAt rfl)) ?_ | (refine at_EL ?_; first | refine eN ?_ | refine eO rfl rfl ?_ | refine eV rfl rfl (zA rfl rfl) ?_ | refine eV rfl rfl (zB rfl rfl) ?_ | (refine at_bin ?_; first | refine eD rfl rfl (zM rfl rfl rfl) (fun hh => ?_) (fun hh => ?_) | refine eD rfl rfl (zO rfl rfl rfl) (fun hh => ?_) (fun hh => ?_)) | refine eV rfl rfl (zC rfl rfl rfl) ?_ | refine eV rfl rfl (zD rfl rfl rfl) ?_ | refine eV rfl rfl (zH rfl rfl) ?_) | (refine at_K ?_; first | refine K_then ?_ | refine K_then_ret ?_) | (refine at_E ?_; first | refine E_seq ?_ | refine E_region ?_ | refine E_cond_t rfl ?_ | refine E_cond_f rfl ?_ | refine E_skip ?_ | refine E_ret ?_)))
    all_goals (first | (exfalso; omega) | exact ret_1 rfl rfl ⟨⟨_, rfl, fun h => by omega⟩, hx⟩ | exact K_mid () ⟨rfl, rfl, rfl, rfl, rfl, trivial⟩ ⟨Ext.refl _, by omega⟩)
  rintro ⟨⟩ w6 ⟨xm, f5⟩
  replace hx := hx.trans xm
  replace rD := rD.ext xm
  replace rN := rN.ext xm
  replace rT := rT.ext xm
  replace rP := rP.ext xm
  refine E_mid (ι := Unit) (fun _ => [(2, .pointer (some ⟨bD, 0, none⟩)), (3, .pointer (some ⟨bN, 0, none⟩)), (5, .pointer (some ⟨bT, 0, none⟩)), (6, .pointer (some ⟨bP, 0, none⟩)), (7, .bool ok)]) (fun _ w7 => Ext w6 w7 ∧ (bt = true → t.kind ≠ 0 → q.frm ≤ n.frm ∧ n.til ≤ q.til)) ?_ ?_
  · cases bt
    all_goals
      (repeat' (first | refine eV rfl rfl (val_load rfl rfl rfl (rT.cellAt rfl)) ?_ | refine eV rfl rfl (val_load rfl rfl rfl (rN.cellAt rfl)) ?_ | refine eV rfl rfl (val_load rfl rfl rfl (rP.cellAt rfl)) ?_ | (refine EL_call rfl rfl (entersF rfl rfl en65) (ct _) (fun vC wC hC => ?_); obtain ⟨rfl, xC⟩ := hC; replace rT := rT.ext xC; replace rN := rN.ext xC; replace rP := rP.ext xC) | (refine at_EL ?_; first | refine eN ?_ | refine eO rfl rfl ?_ | refine eV rfl rfl (zA rfl rfl) ?_ | refine eV rfl rfl (zB rfl rfl) ?_ | (refine at_bin ?_; first | refine eD rfl rfl (zL rfl rfl rfl) (fun hh => ?_) (fun hh => ?_) | refine eD rfl rfl (zO rfl rfl rfl) (fun hh => ?_) (fun hh => ?_) | refine eD rfl rfl (zQ rfl rfl rfl) (fun hh => ?_) (fun hh => ?_)) | refine eV rfl rfl (zC rfl rfl rfl) ?_ | refine eV rfl rfl (zD rfl rfl rfl) ?_ | refine eV rfl rfl (zH rfl rfl) ?_) | (refine at_K ?_; first | refine K_then ?_ | refine K_then_ret ?_) | (refine at_E ?_; first | refine E_seq ?_ | refine E_region ?_ | refine E_cond_t rfl ?_ | refine E_cond_f rfl ?_ | refine E_skip ?_ | refine E_ret ?_)))
      all_goals (first | (exfalso; omega) | exact ret_1 rfl rfl ⟨⟨_, rfl, fun h => by omega⟩, hx.trans xC⟩ | exact K_mid () ⟨rfl, rfl, rfl, rfl, rfl, trivial⟩ ⟨xC, fun h => Bool.noConfusion h⟩ | exact K_mid () ⟨rfl, rfl, rfl, rfl, rfl, trivial⟩ ⟨xC, fun _ h => by omega⟩ | exact K_mid () ⟨rfl, rfl, rfl, rfl, rfl, trivial⟩ ⟨xC, fun _ h => absurd (Classical.not_not.1 ‹_›) h⟩)
  rintro ⟨⟩ w7 ⟨xm, f6⟩
  replace hx := hx.trans xm
  replace rD := rD.ext xm
  replace rN := rN.ext xm
  replace rT := rT.ext xm
  replace rP := rP.ext xm
  (repeat' (first | refine eV rfl rfl (val_load rfl rfl rfl (rT.cellAt rfl)) ?_ | refine eV rfl rfl (val_load rfl rfl rfl (rN.cellAt rfl)) ?_ | (refine at_EL ?_; first | refine eN ?_ | refine eO rfl rfl ?_ | refine eV rfl rfl (zA rfl rfl) ?_ | refine eV rfl rfl (zB rfl rfl) ?_ | (refine at_bin ?_; first | refine eD rfl rfl (zL rfl rfl rfl) (fun hh => ?_) (fun hh => ?_) | refine eD rfl rfl (zQ rfl rfl rfl) (fun hh => ?_) (fun hh => ?_)) | refine eV rfl rfl (zC rfl rfl rfl) ?_ | refine eV rfl rfl (zD rfl rfl rfl) ?_ | refine eV rfl rfl (zH rfl rfl) ?_) | (refine at_K ?_; first | refine K_then ?_ | refine K_then_ret ?_) | (refine at_E ?_; first | refine E_seq ?_ | refine E_region ?_ | refine E_cond_t rfl ?_ | refine E_cond_f rfl ?_ | refine E_skip ?_ | refine E_ret ?_)))
  all_goals (first | (exfalso; omega) | exact ret_1 rfl rfl ⟨⟨_, rfl, fun h => by omega⟩, hx⟩ | skip)
  all_goals
    refine ret_1 rfl rfl ⟨⟨_, rfl, fun _ => ⟨f1, fun h => ⟨q, hq1 (f2 h).1, (f2 h).2⟩, fun h => ?_, fun h => ?_, f5, fun h p hp => ?_, by omega⟩⟩, hx⟩
    · have h1 := f3 (by rw [hbt]; exact h)
      rw [h1] at hbz
      simpa using hbz.symm
    · rw [← hbr]; exact f4 (by rw [hbt]; exact h)
    · have h0 : t.kind ≠ 0 := by omega
      have h1 := hq1 (f2 h0).1
      rw [h1] at hp; cases hp
      exact f6 (by rw [hbt]; exact timed_iff.2 (by omega)) h0
end Go.Proofs.Ytaajcbhingpfeaa
