/-
  Walks: the reference's Check of tiers, Check, Light, Copy of documents.
-/
import Derived.Test.YtaajcbhingpfeaaDh
import Derived.Test.YtaajcbhingpfeaaDf
set_option linter.all false
namespace Go.Proofs.Ytaajcbhingpfeaa
open Go.RowKit Go.En
/-- no name is longer than a string can be -/
def Names (d : Dc) : Prop := ∀ t ∈ d.tiers, t.name.length ≤ 9223372036854775807
attribute [local irreducible] E EL K Val Enters Rt Calls bodyPost Code.wp RQ
set_option maxRecDepth 8000 in
theorem tcheck_any (ts : List Tier) (v : Value) (w : World) (hv : Sl w v ts) (hn : ∀ t ∈ ts, t.name.length ≤ 9223372036854775807) :
    Calls Try.prog 49 #[v] w (Rt fun u w' => (∃ e : Int, u = int e ∧ (e = 0 → ∀ i t, ts[i]? = some t → TierOK ts i t)) ∧ Ext w w') := by
  refine calls_E (n := 20) (args := [v]) Try.func49 rfl Try.ntmps49 (by simp) ?_
  have hv0 := hv
  obtain ⟨a, cap, rfl, hc, hm, hp⟩ := hv.sl
  by_cases h12 : ts.length ≤ 12
  · (repeat' (first | (refine at_EL ?_; first | refine eN ?_ | refine eV rfl rfl (zA rfl rfl) ?_ | refine eV rfl rfl (zB rfl rfl) ?_ | (refine at_bin ?_; first | refine eD rfl rfl (zO rfl rfl rfl) (fun hh => ?_) (fun hh => ?_)) | (refine at_call ?_; first | refine eV rfl rfl (zK rfl rfl) ?_)) | (refine at_K ?_; first | refine K_then ?_ | refine K_then_ret ?_) | (refine at_E ?_; first | refine E_seq ?_ | refine E_region ?_ | refine E_cond_t rfl ?_ | refine E_cond_f rfl ?_ | refine E_block ?_ | refine E_skip ?_ | refine E_ret ?_)))
    all_goals (first | (exfalso; omega) | skip)
    refine E_loop (ι := Nat) (fun i => [(0, .slice a ts.length cap), (3, int i)]) (fun i wr => i ≤ ts.length ∧ Ext w wr ∧ ∀ j, j < i → ∀ t, ts[j]? = some t → TierOK ts j t) (fun i => ts.length - i) 0
      ⟨rfl, rfl, trivial⟩ ⟨Nat.zero_le _, Ext.refl _, fun j hj => by omega⟩ ?_
    rintro i wr ⟨hi, hx, hall⟩
    by_cases hlt : i < ts.length
    · obtain ⟨t, ht⟩ : ∃ t, ts[i]? = some t := ⟨_, List.getElem?_eq_getElem hlt⟩
      (repeat' (first | (refine EL_call rfl rfl (entersF rfl rfl en61) (tier_any ts i t _ _ (hv0.ext hx) ht hn) (fun vC wC hC => ?_); obtain ⟨⟨e, rfl, he⟩, xC⟩ := hC) | (refine at_EL ?_; first | refine eN ?_ | refine eV rfl rfl (zA rfl rfl) ?_ | refine eV rfl rfl (zB rfl rfl) ?_ | (refine at_bin ?_; first | refine eD rfl rfl (zL rfl rfl rfl) (fun hh => ?_) (fun hh => ?_) | refine eD rfl rfl (zQ rfl rfl rfl) (fun hh => ?_) (fun hh => ?_) | refine eV rfl rfl (zU rfl rfl rfl (by omega) (by omega)) ?_) | (refine at_call ?_; first | refine eV rfl rfl (zK rfl rfl) ?_)) | (refine at_K ?_; first | refine K_then ?_ | refine K_in ?_ | refine K_then_ret ?_ | refine K_then_exit ?_ | refine K_in_ret ?_ | refine K_in_exit ?_) | (refine at_E ?_; first | refine E_seq ?_ | refine E_region ?_ | refine E_cond_t rfl ?_ | refine E_cond_f rfl ?_ | refine E_block ?_ | refine E_skip ?_ | refine E_ret ?_ | refine E_exit ?_)))
      all_goals (first | (exfalso; omega) | skip)
      · exact ret_1 rfl rfl ⟨⟨_, rfl, fun h => absurd h ‹_›⟩, hx.trans xC⟩
      · exact K_rnd (i + 1) ⟨rfl, rfl, trivial⟩ ⟨by omega, hx.trans xC, loop_nx (f := fun j t => TierOK ts j t) ht hall (he (Classical.not_not.1 ‹_›))⟩ (by omega)
    · (repeat' (first | (refine at_EL ?_; first | refine eN ?_ | refine eV rfl rfl (zA rfl rfl) ?_ | refine eV rfl rfl (zB rfl rfl) ?_ | (refine at_bin ?_; first | refine eD rfl rfl (zL rfl rfl rfl) (fun hh => ?_) (fun hh => ?_)) | (refine at_call ?_; first | refine eV rfl rfl (zK rfl rfl) ?_)) | (refine at_K ?_; first | refine K_then ?_ | refine K_then_exit ?_ | refine K_in_exit ?_) | (refine at_E ?_; first | refine E_seq ?_ | refine E_region ?_ | refine E_cond_t rfl ?_ | refine E_cond_f rfl ?_ | refine E_block ?_ | refine E_skip ?_ | refine E_ret ?_ | refine E_exit ?_)))
      all_goals (first | (exfalso; omega) | skip)
      exact ret_1 rfl rfl ⟨⟨_, rfl, fun _ i t ht => hall i (by have := (List.getElem?_eq_some_iff.1 ht).1; omega) t ht⟩, hx⟩
  · (repeat' (first | (refine at_EL ?_; first | refine eN ?_ | refine eV rfl rfl (zA rfl rfl) ?_ | refine eV rfl rfl (zB rfl rfl) ?_ | (refine at_bin ?_; first | refine eD rfl rfl (zO rfl rfl rfl) (fun hh => ?_) (fun hh => ?_)) | (refine at_call ?_; first | refine eV rfl rfl (zK rfl rfl) ?_)) | (refine at_K ?_; first | refine K_then ?_ | refine K_then_ret ?_) | (refine at_E ?_; first | refine E_seq ?_ | refine E_region ?_ | refine E_cond_t rfl ?_ | refine E_cond_f rfl ?_ | refine E_block ?_ | refine E_skip ?_ | refine E_ret ?_)))
    all_goals (first | (exfalso; omega) | skip)
    exact ret_1 rfl rfl ⟨⟨_, rfl, fun h => by omega⟩, Ext.refl _⟩
set_option maxRecDepth 8000 in
set_option maxHeartbeats 2000000 in
theorem dcheck_any (d : Dc) (v : Value) (w : World) (hv : DcAt w v d) (hn : Names d) (h20 : d.notes.length ≤ 20) :
    Calls Try.prog 35 #[v] w (Rt fun u w' => (∃ e : Int, u = int e ∧ (e = 0 → (∀ i t, d.tiers[i]? = some t → TierOK d.tiers i t) ∧ (0 ≤ d.len ∧ d.len ≤ 86400000) ∧ (∀ i n, d.notes[i]? = some n → NoteOK d i n) ∧ ∀ k t, d.tiers[k]? = some t → TierNotes d k t)) ∧ Ext w w') := by
  have hd0 := hv
  obtain ⟨sv, tv, nv, rfl, hs, htv, hnv⟩ := hv
  refine calls_E (n := 54) (args := [.agg #[int d.rid, str d.rname, int d.len, int d.day, sv, tv, nv]]) Try.func35 rfl Try.ntmps35 (by simp) ?_
  have htv0 := htv
  obtain ⟨at_, capt, rfl, hct, hmt, hpt⟩ := htv.sl
  obtain ⟨a, cap, rfl, hc, hm, hp⟩ := hnv.sl
  refine E_seq ?_
  refine E_region ?_
  refine EL_box rfl rfl rfl rfl (fun bD wD xD hbD rD0 => ?_)
  have rD : Row wD bD 28 [int d.rid, str d.rname, int d.len, int d.day, sv, .slice at_ d.tiers.length capt, .slice a d.notes.length cap] := rD0
  clear rD0
  have hx := xD
  (repeat' ((fail_if_success (refine E_seq (x := (Code.seq (Code.region 8 _ _) _)) ?_)); first | refine eV rfl rfl (val_load rfl rfl rfl (rD.cellAt rfl)) ?_ | (refine EL_call rfl rfl (entersF rfl rfl en49) (tcheck_any d.tiers _ _ (htv0.ext hx) hn) (fun vC wC hC => ?_); obtain ⟨⟨e, rfl, he⟩, xC⟩ := hC; replace rD := rD.ext xC; replace hx := hx.trans xC) | (refine at_EL ?_; first | refine eN ?_ | refine eO rfl rfl ?_ | refine eV rfl rfl (zA rfl rfl) ?_ | refine eV rfl rfl (zB rfl rfl) ?_ | (refine at_bin ?_; first | refine eD rfl rfl (zL rfl rfl rfl) (fun hh => ?_) (fun hh => ?_) | refine eD rfl rfl (zO rfl rfl rfl) (fun hh => ?_) (fun hh => ?_) | refine eD rfl rfl (zQ rfl rfl rfl) (fun hh => ?_) (fun hh => ?_)) | (refine at_call ?_; first | refine eV rfl rfl (zK rfl rfl) ?_) | refine eV rfl rfl (zC rfl rfl rfl) ?_ | refine eV rfl rfl (zD rfl rfl rfl) ?_ | refine eV rfl rfl (zH rfl rfl) ?_) | (refine at_K ?_; first | refine K_then ?_ | refine K_then_ret ?_) | (refine at_E ?_; first | refine E_seq ?_ | refine E_region ?_ | refine E_cond_t rfl ?_ | refine E_cond_f rfl ?_ | refine E_skip ?_ | refine E_ret ?_)))
  all_goals (first | (exfalso; omega) | exact ret_1 rfl rfl ⟨⟨_, rfl, fun h => by omega⟩, hx⟩ | exact ret_1 rfl rfl ⟨⟨_, rfl, fun h => absurd h ‹_›⟩, hx⟩ | skip)
  have f1 := he (Classical.not_not.1 ‹_›)
  have f2 : 0 ≤ d.len ∧ d.len ≤ 86400000 := by omega
  obtain ⟨w1, hw1⟩ : ∃ w1, w1 = wC := ⟨_, rfl⟩
  refine E_mid (ι := Unit) (fun _ => [(1, .pointer (some ⟨bD, 0, none⟩))]) (fun _ wr => Ext wC wr ∧ ∀ j n, d.notes[j]? = some n → NoteOK d j n) ?_ ?_
  · (repeat' (first | (refine at_EL ?_; first | refine eN ?_ | refine eV rfl rfl (zB rfl rfl) ?_) | (refine at_K ?_; first | refine K_then ?_) | (refine at_E ?_; first | refine E_seq ?_ | refine E_region ?_ | refine E_block ?_)))
    refine E_loop (ι := Nat) (fun i => [(1, .pointer (some ⟨bD, 0, none⟩)), (4, int i)]) (fun i wr => i ≤ d.notes.length ∧ Ext wC wr ∧ ∀ j, j < i → ∀ n, d.notes[j]? = some n → NoteOK d j n) (fun i => d.notes.length - i) 0
      ⟨rfl, rfl, trivial⟩ ⟨Nat.zero_le _, Ext.refl _, fun j hj => by omega⟩ ?_
    rintro i wr ⟨hi, hx2, hall⟩
    have rDr := rD.ext hx2
    by_cases hlt : i < d.notes.length
    · obtain ⟨n, hnn⟩ : ∃ n, d.notes[i]? = some n := ⟨_, List.getElem?_eq_getElem hlt⟩
      (repeat' (first | refine eV rfl rfl (val_load rfl rfl rfl (rDr.cellAt rfl)) ?_ | refine eV rfl rfl (val_loadA rfl rfl rfl rDr.at rfl) ?_ | (refine EL_call rfl rfl (entersF rfl rfl en50) (noteError_any d i n _ _ (hd0.ext (hx.trans hx2)) hnn) (fun vF wF hF => ?_); obtain ⟨⟨e2, rfl, he2⟩, xF⟩ := hF) | (refine at_EL ?_; first | refine eN ?_ | refine eV rfl rfl (zA rfl rfl) ?_ | refine eV rfl rfl (zB rfl rfl) ?_ | (refine at_bin ?_; first | refine eD rfl rfl (zL rfl rfl rfl) (fun hh => ?_) (fun hh => ?_) | refine eD rfl rfl (zQ rfl rfl rfl) (fun hh => ?_) (fun hh => ?_) | refine eV rfl rfl (zU rfl rfl rfl (by omega) (by omega)) ?_) | (refine at_call ?_; first | refine eV rfl rfl (zK rfl rfl) ?_) | refine eV rfl rfl (zH rfl rfl) ?_) | (refine at_K ?_; first | refine K_then ?_ | refine K_in ?_ | refine K_then_ret ?_ | refine K_then_exit ?_ | refine K_in_ret ?_ | refine K_in_exit ?_) | (refine at_E ?_; first | refine E_seq ?_ | refine E_region ?_ | refine E_cond_t rfl ?_ | refine E_cond_f rfl ?_ | refine E_block ?_ | refine E_skip ?_ | refine E_ret ?_ | refine E_exit ?_)))
      all_goals (first | (exfalso; omega) | skip)
      · exact ret_1 rfl rfl ⟨⟨_, rfl, fun h => absurd h ‹_›⟩, hx.trans (hx2.trans xF)⟩
      · exact K_rnd (i + 1) ⟨rfl, rfl, trivial⟩ ⟨by omega, hx2.trans xF, loop_nx (f := fun j n => NoteOK d j n) hnn hall (he2 (Classical.not_not.1 ‹_›))⟩ (by omega)
    · (repeat' (first | refine eV rfl rfl (val_load rfl rfl rfl (rDr.cellAt rfl)) ?_ | (refine at_EL ?_; first | refine eN ?_ | refine eV rfl rfl (zA rfl rfl) ?_ | (refine at_bin ?_; first | refine eD rfl rfl (zL rfl rfl rfl) (fun hh => ?_) (fun hh => ?_)) | (refine at_call ?_; first | refine eV rfl rfl (zK rfl rfl) ?_) | refine eV rfl rfl (zH rfl rfl) ?_) | (refine at_K ?_; first | refine K_then ?_ | refine K_then_exit ?_ | refine K_in_exit ?_) | (refine at_E ?_; first | refine E_seq ?_ | refine E_region ?_ | refine E_cond_t rfl ?_ | refine E_cond_f rfl ?_ | refine E_block ?_ | refine E_skip ?_ | refine E_exit ?_)))
      all_goals (first | (exfalso; omega) | skip)
      exact K_mid () ⟨rfl, trivial⟩ ⟨hx2, fun j n hj => hall j (by have := (List.getElem?_eq_some_iff.1 hj).1; omega) n hj⟩
  rintro ⟨⟩ w2 ⟨xm, f3⟩
  replace hx := hx.trans xm
  replace rD := rD.ext xm
  (repeat' (first | (refine at_EL ?_; first | refine eN ?_ | refine eV rfl rfl (zB rfl rfl) ?_) | (refine at_K ?_; first | refine K_then ?_) | (refine at_E ?_; first | refine E_seq ?_ | refine E_region ?_ | refine E_block ?_)))
  refine E_loop (ι := Nat) (fun i => [(1, .pointer (some ⟨bD, 0, none⟩)), (6, int i)]) (fun i wr => i ≤ d.tiers.length ∧ Ext w2 wr ∧ ∀ j, j < i → ∀ t, d.tiers[j]? = some t → TierNotes d j t) (fun i => d.tiers.length - i) 0
    ⟨rfl, rfl, trivial⟩ ⟨Nat.zero_le _, Ext.refl _, fun j hj => by omega⟩ ?_
  rintro i wr ⟨hi, hx2, hall⟩
  have rDr := rD.ext hx2
  by_cases hlt : i < d.tiers.length
  · obtain ⟨t, ht⟩ : ∃ t, d.tiers[i]? = some t := ⟨_, List.getElem?_eq_getElem hlt⟩
    (repeat' (first | refine eV rfl rfl (val_load rfl rfl rfl (rDr.cellAt rfl)) ?_ | refine eV rfl rfl (val_loadA rfl rfl rfl rDr.at rfl) ?_ | (refine EL_call rfl rfl (entersF rfl rfl en51) (tierError_any d i t _ _ (hd0.ext (hx.trans hx2)) ht h20) (fun vF wF hF => ?_); obtain ⟨⟨e2, rfl, he2⟩, xF⟩ := hF) | (refine at_EL ?_; first | refine eN ?_ | refine eV rfl rfl (zA rfl rfl) ?_ | refine eV rfl rfl (zB rfl rfl) ?_ | (refine at_bin ?_; first | refine eD rfl rfl (zL rfl rfl rfl) (fun hh => ?_) (fun hh => ?_) | refine eD rfl rfl (zQ rfl rfl rfl) (fun hh => ?_) (fun hh => ?_) | refine eV rfl rfl (zU rfl rfl rfl (by omega) (by omega)) ?_) | (refine at_call ?_; first | refine eV rfl rfl (zK rfl rfl) ?_) | refine eV rfl rfl (zH rfl rfl) ?_) | (refine at_K ?_; first | refine K_then ?_ | refine K_in ?_ | refine K_then_ret ?_ | refine K_then_exit ?_ | refine K_in_ret ?_ | refine K_in_exit ?_) | (refine at_E ?_; first | refine E_seq ?_ | refine E_region ?_ | refine E_cond_t rfl ?_ | refine E_cond_f rfl ?_ | refine E_block ?_ | refine E_skip ?_ | refine E_ret ?_ | refine E_exit ?_)))
    all_goals (first | (exfalso; omega) | skip)
    · exact ret_1 rfl rfl ⟨⟨_, rfl, fun h => absurd h ‹_›⟩, hx.trans (hx2.trans xF)⟩
    · exact K_rnd (i + 1) ⟨rfl, rfl, trivial⟩ ⟨by omega, hx2.trans xF, loop_nx (f := fun j t => TierNotes d j t) ht hall (he2 (Classical.not_not.1 ‹_›))⟩ (by omega)
  · (repeat' (first | refine eV rfl rfl (val_load rfl rfl rfl (rDr.cellAt rfl)) ?_ | (refine at_EL ?_; first | refine eN ?_ | refine eV rfl rfl (zA rfl rfl) ?_ | refine eV rfl rfl (zB rfl rfl) ?_ | (refine at_bin ?_; first | refine eD rfl rfl (zL rfl rfl rfl) (fun hh => ?_) (fun hh => ?_)) | (refine at_call ?_; first | refine eV rfl rfl (zK rfl rfl) ?_) | refine eV rfl rfl (zH rfl rfl) ?_) | (refine at_K ?_; first | refine K_then ?_ | refine K_then_exit ?_ | refine K_in_exit ?_) | (refine at_E ?_; first | refine E_seq ?_ | refine E_region ?_ | refine E_cond_t rfl ?_ | refine E_cond_f rfl ?_ | refine E_block ?_ | refine E_skip ?_ | refine E_ret ?_ | refine E_exit ?_)))
    all_goals (first | (exfalso; omega) | skip)
    exact ret_1 rfl rfl ⟨⟨_, rfl, fun _ => ⟨f1, f2, f3, fun k t hk => hall k (by have := (List.getElem?_eq_some_iff.1 hk).1; omega) t hk⟩⟩, hx.trans hx2⟩
set_option maxRecDepth 8000 in
theorem dlight_any (d : Dc) (v : Value) (w : World) (hv : DcAt w v d) (hn : Names d) : Calls Try.prog 11 #[v] w (Rt fun u w' => (∃ b, u = .bool b ∧ (b = true → LightD d)) ∧ Ext w w') := by
  have hd0 := hv
  obtain ⟨sv, tv, nv, rfl, hs, htv, hnv⟩ := hv
  refine calls_E (n := 25) (args := [.agg #[int d.rid, str d.rname, int d.len, int d.day, sv, tv, nv]]) Try.func11 rfl Try.ntmps11 (by simp) ?_
  obtain ⟨aS, caps, rfl, hcs, hms, hps⟩ := hs.sl
  obtain ⟨at_, capt, rfl, hct, hmt, hpt⟩ := htv.sl
  obtain ⟨a, cap, rfl, hc, hm, hp⟩ := hnv.sl
  refine E_seq ?_
  refine E_region ?_
  refine EL_box rfl rfl rfl rfl (fun bD wD xD hbD rD0 => ?_)
  have rD : Row wD bD 28 [int d.rid, str d.rname, int d.len, int d.day, .slice aS d.sp.length caps, .slice at_ d.tiers.length capt, .slice a d.notes.length cap] := rD0
  clear rD0
  by_cases h14 : d.notes.length ≤ 14
  · (repeat' (first | refine eV rfl rfl (val_load rfl rfl rfl (rD.cellAt rfl)) ?_ | refine eV rfl rfl (val_loadA rfl rfl rfl rD.at rfl) ?_ | (refine EL_call rfl rfl (entersF rfl rfl en35) (dcheck_any d _ _ (hd0.ext xD) hn (by omega)) (fun vC wC hC => ?_); obtain ⟨⟨e, rfl, he⟩, xC⟩ := hC) | (refine at_EL ?_; first | refine eN ?_ | refine eO rfl rfl ?_ | refine eV rfl rfl (zA rfl rfl) ?_ | refine eV rfl rfl (zB rfl rfl) ?_ | (refine at_bin ?_; first | refine eD rfl rfl (zM rfl rfl rfl) (fun hh => ?_) (fun hh => ?_) | refine eD rfl rfl (zN rfl rfl rfl) (fun hh => ?_) (fun hh => ?_)) | (refine at_call ?_; first | refine eV rfl rfl (zK rfl rfl) ?_) | refine eV rfl rfl (zC rfl rfl rfl) ?_ | refine eV rfl rfl (zD rfl rfl rfl) ?_ | refine eV rfl rfl (zH rfl rfl) ?_) | (refine at_K ?_; first | refine K_then ?_) | (refine at_E ?_; first | refine E_seq ?_ | refine E_region ?_ | refine E_ret ?_)))
    all_goals (first | (exfalso; omega) | skip)
    all_goals first
      | exact ret_1 rfl rfl ⟨⟨_, rfl, fun h => Bool.noConfusion h⟩, xD⟩
      | exact ret_1 rfl rfl ⟨⟨_, rfl, fun h => Bool.noConfusion h⟩, xD.trans xC⟩
      | (refine ret_1 rfl rfl ⟨⟨_, rfl, fun _ => ?_⟩, xD.trans xC⟩
         obtain ⟨f1, f2, f3, f4⟩ := he (by assumption)
         exact ⟨h14, by omega, by omega, f1, f2, f3, f4⟩)
  · (repeat' (first | refine eV rfl rfl (val_load rfl rfl rfl (rD.cellAt rfl)) ?_ | (refine at_EL ?_; first | refine eN ?_ | refine eO rfl rfl ?_ | refine eV rfl rfl (zA rfl rfl) ?_ | refine eV rfl rfl (zB rfl rfl) ?_ | (refine at_bin ?_; first | refine eD rfl rfl (zN rfl rfl rfl) (fun hh => ?_) (fun hh => ?_)) | (refine at_call ?_; first | refine eV rfl rfl (zK rfl rfl) ?_) | refine eV rfl rfl (zC rfl rfl rfl) ?_ | refine eV rfl rfl (zD rfl rfl rfl) ?_ | refine eV rfl rfl (zH rfl rfl) ?_) | (refine at_K ?_; first | refine K_then ?_) | (refine at_E ?_; first | refine E_seq ?_ | refine E_region ?_ | refine E_ret ?_)))
    all_goals (first | (exfalso; omega) | skip)
    exact ret_1 rfl rfl ⟨⟨_, rfl, fun h => Bool.noConfusion h⟩, xD⟩
end Go.Proofs.Ytaajcbhingpfeaa
