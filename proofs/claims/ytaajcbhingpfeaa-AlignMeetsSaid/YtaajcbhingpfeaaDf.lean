/-
  Walks: the reference's tier, Check of tiers.
-/
import Derived.Test.YtaajcbhingpfeaaDb
import Derived.Test.YtaajcbhingpfeaaY1
set_option linter.all false
namespace Go.Proofs.Ytaajcbhingpfeaa
open Go.RowKit Go.En
theorem loop_nx2 {α : Type} {l : List α} {i : Nat} {x : α} {f : α → Prop} (hx : l[i]? = some x) (hall : ∀ j, j < i → ∀ y, l[j]? = some y → f y) (h : f x) : ∀ j, j < i + 1 → ∀ y, l[j]? = some y → f y := fun j hj y hy => by
  by_cases hj2 : j < i
  · exact hall j hj2 y hy
  · obtain rfl : j = i := by omega
    rw [hx] at hy; cases hy; exact h
attribute [local irreducible] E EL K Val Enters Rt Calls bodyPost Code.wp RQ
theorem rname_some (s : List UInt8) (w : World) (hl : s.length ≤ 9223372036854775807) : Calls Try.prog 77 #[str s] w (Rt fun u w' => (∃ b, u = .bool b) ∧ Ext w w') := rname_any s w hl
set_option maxRecDepth 8000 in
set_option maxHeartbeats 4000000 in
theorem tier_any (ts : List Tier) (i : Nat) (t : Tier) (v : Value) (w : World) (hv : Sl w v ts) (ht : ts[i]? = some t) (hn : ∀ t ∈ ts, t.name.length ≤ 9223372036854775807) :
    Calls Try.prog 61 #[v, int i] w (Rt fun u w' => (∃ e : Int, u = int e ∧ (e = 0 → TierOK ts i t)) ∧ Ext w w') := by
  refine calls_E (n := 136) (args := [v, int i]) Try.func61 rfl Try.ntmps61 (by simp) ?_
  have hv0 := hv
  obtain ⟨a, cap, rfl, hc, hm, hp⟩ := hv.sl
  have hilt := (List.getElem?_eq_some_iff.1 ht).1
  obtain ⟨b, off, rfl⟩ := hp (by omega)
  have hat := tier_elem hv0 ht
  have hnl := hn t (List.mem_of_getElem? ht)
  (repeat' (first | refine eV rfl rfl (val_indexAddr (m := i) rfl rfl rfl rfl (by omega)) ?_ | refine eV rfl rfl (val_loadA rfl rfl rfl hat rfl) ?_ | (refine at_EL ?_; first | refine eN ?_ | refine eV rfl rfl (zA rfl rfl) ?_ | refine eV rfl rfl (zB rfl rfl) ?_) | (refine at_K ?_; first | refine K_then ?_) | (refine at_E ?_; first | refine E_seq ?_ | refine E_region ?_)))
  refine EL_alloc rfl rfl rfl (fun b5 w5 x5 hb5 r50 => ?_)
  refine EL_storeP (cs := tierC t) r50 x5 (by omega) rfl rfl rfl rfl rfl rfl rfl rfl (Nat.le_refl _) (fun w6 r5' x6 k6 => ?_)
  have r5 : Row w6 b5 65 (tierC t) := r5'
  clear r5'
  (repeat' ((fail_if_success (refine E_seq (x := (Code.seq (Code.region 4 _ _) _)) ?_)); first | refine eV rfl rfl (val_load rfl rfl rfl (r5.cellAt rfl)) ?_ | (refine EL_call rfl rfl (entersF rfl rfl en77) (rname_some _ _ hnl) (fun vC wC hC => ?_); obtain ⟨⟨bb, rfl⟩, xC⟩ := hC; cases bb) | (refine at_EL ?_; first | refine eN ?_ | refine eV rfl rfl (zB rfl rfl) ?_ | refine eV rfl rfl (zE rfl rfl) ?_ | refine eV rfl rfl (zH rfl rfl) ?_) | (refine at_K ?_; first | refine K_then ?_ | refine K_then_ret ?_) | (refine at_E ?_; first | refine E_seq ?_ | refine E_region ?_ | refine E_cond_t rfl ?_ | refine E_cond_f rfl ?_ | refine E_skip ?_ | refine E_ret ?_)))
  · exact ret_1 rfl rfl ⟨⟨_, rfl, fun h => by omega⟩, x6.trans xC⟩
  have hx0 := x6.trans xC
  have r50 := r5.ext xC
  clear r5 k6
  -- the names before
  refine E_mid (ι := Unit) (fun _ => [(0, .slice (some ⟨b, off, none⟩) ts.length cap), (1, int i), (5, .pointer (some ⟨b5, 0, none⟩))]) (fun _ wr => Ext wC wr) ?_ ?_
  · (repeat' (first | (refine at_EL ?_; first | refine eN ?_ | refine eV rfl rfl (zB rfl rfl) ?_) | (refine at_K ?_; first | refine K_then ?_) | (refine at_E ?_; first | refine E_seq ?_ | refine E_region ?_ | refine E_block ?_)))
    refine E_loop (ι := Nat) (fun k => [(0, .slice (some ⟨b, off, none⟩) ts.length cap), (1, int i), (5, .pointer (some ⟨b5, 0, none⟩)), (6, int k)]) (fun k wr => k ≤ i ∧ Ext wC wr) (fun k => i - k) 0
      ⟨rfl, rfl, rfl, rfl, trivial⟩ ⟨Nat.zero_le _, Ext.refl _⟩ ?_
    rintro k wr ⟨hk, hx⟩
    by_cases hlt : k < i
    · obtain ⟨p, hpk⟩ : ∃ p, ts[k]? = some p := ⟨_, List.getElem?_eq_getElem (by omega)⟩
      have hatk := tier_elem (hv0.ext (hx0.trans hx)) hpk
      have r5r := r50.ext hx
      (repeat' (first | refine yV rfl rfl (fun _ _ _ => val_indexAddr (m := k) rfl rfl rfl rfl (by omega)) ?_ | refine yV rfl rfl (fun wq _ xq => val_load rfl rfl rfl ((hatk.ext xq).cellAt (j := 0) rfl)) ?_ | refine yV rfl rfl (fun wq _ xq => val_load rfl rfl rfl ((r5r.ext xq).cellAt (j := 0) rfl)) ?_ | (refine at_EL ?_; first | refine eN ?_ | refine eV rfl rfl (zA rfl rfl) ?_ | refine eV rfl rfl (zB rfl rfl) ?_ | (refine at_bin ?_; first | refine eD rfl rfl (zL rfl rfl rfl) (fun hh => ?_) (fun hh => ?_) | refine eV rfl rfl (zU rfl rfl rfl (by omega) (by omega)) ?_)) | (refine at_K ?_; first | refine K_then ?_ | refine K_in ?_ | refine K_then_ret ?_ | refine K_then_exit ?_ | refine K_in_ret ?_ | refine K_in_exit ?_) | (refine at_E ?_; first | refine E_seq ?_ | refine E_region ?_ | refine E_cond_t rfl ?_ | refine E_cond_f rfl ?_ | refine E_block ?_ | refine E_skip ?_ | refine E_ret ?_ | refine E_exit ?_ | refine E_dq mixedOk (by kernel_rfl) rfl ?_) | (refine at_RQ ?_; first | refine yN rfl (fun wq xq => ?_) | refine yV rfl rfl (fun _ _ _ => zA rfl rfl) ?_ | (refine at_binR ?_; first | refine yD rfl rfl (fun _ _ _ => zR rfl rfl rfl) (fun hh => ?_) (fun hh => ?_)) | refine yV rfl rfl (fun _ _ _ => zH rfl rfl) ?_)))
      all_goals (first | (exfalso; omega) | skip)
      · exact ret_1 rfl rfl ⟨⟨_, rfl, fun h => by omega⟩, (hx0.trans hx).trans xq⟩
      · exact K_rnd (k + 1) ⟨rfl, rfl, rfl, rfl, trivial⟩ ⟨by omega, hx.trans xq⟩ (by omega)
    · (repeat' (first | (refine at_EL ?_; first | refine eN ?_ | refine eV rfl rfl (zA rfl rfl) ?_ | (refine at_bin ?_; first | refine eD rfl rfl (zL rfl rfl rfl) (fun hh => ?_) (fun hh => ?_))) | (refine at_K ?_; first | refine K_then ?_ | refine K_then_exit ?_ | refine K_in_exit ?_) | (refine at_E ?_; first | refine E_seq ?_ | refine E_region ?_ | refine E_cond_t rfl ?_ | refine E_cond_f rfl ?_ | refine E_block ?_ | refine E_skip ?_ | refine E_exit ?_)))
      all_goals (first | (exfalso; omega) | skip)
      exact K_mid () ⟨rfl, rfl, rfl, trivial⟩ hx
  rintro ⟨⟩ wr hx
  have hx1 := hx0.trans hx
  have r51 := r50.ext hx
  clear hx0 r50
  -- kind and role
  (repeat' ((fail_if_success (refine E_seq (x := (Code.seq (Code.region 13 _ _) _)) ?_)); first | refine eV rfl rfl (val_load rfl rfl rfl (r51.cellAt rfl)) ?_ | (refine at_EL ?_; first | refine eN ?_ | refine eO rfl rfl ?_ | refine eV rfl rfl (zA rfl rfl) ?_ | refine eV rfl rfl (zB rfl rfl) ?_ | (refine at_bin ?_; first | refine eD rfl rfl (zL rfl rfl rfl) (fun hh => ?_) (fun hh => ?_) | refine eD rfl rfl (zO rfl rfl rfl) (fun hh => ?_) (fun hh => ?_)) | refine eV rfl rfl (zC rfl rfl rfl) ?_ | refine eV rfl rfl (zD rfl rfl rfl) ?_ | refine eV rfl rfl (zH rfl rfl) ?_) | (refine at_K ?_; first | refine K_then ?_ | refine K_then_ret ?_) | (refine at_E ?_; first | refine E_seq ?_ | refine E_region ?_ | refine E_cond_t rfl ?_ | refine E_cond_f rfl ?_ | refine E_skip ?_ | refine E_ret ?_)))
  all_goals (first | exact ret_1 rfl rfl ⟨⟨_, rfl, fun h => by omega⟩, hx1⟩ | skip)
  refine E_mid (ι := Unit) (fun _ => [(0, .slice (some ⟨b, off, none⟩) ts.length cap), (1, int i), (5, .pointer (some ⟨b5, 0, none⟩))]) (fun _ w2 => Ext wr w2 ∧ (t.role ≠ 0 → ∀ k p, k < i → ts[k]? = some p → p.role ≠ t.role)) ?_ ?_
  · (repeat' (first | (refine at_EL ?_; first | refine eN ?_ | refine eV rfl rfl (zB rfl rfl) ?_) | (refine at_K ?_; first | refine K_then ?_) | (refine at_E ?_; first | refine E_seq ?_ | refine E_region ?_ | refine E_block ?_)))
    refine E_loop (ι := Nat) (fun k => [(0, .slice (some ⟨b, off, none⟩) ts.length cap), (1, int i), (5, .pointer (some ⟨b5, 0, none⟩)), (7, int k)]) (fun k w2 => k ≤ i ∧ Ext wr w2 ∧ (t.role ≠ 0 → ∀ j, j < k → ∀ p, ts[j]? = some p → p.role ≠ t.role)) (fun k => i - k) 0
      ⟨rfl, rfl, rfl, rfl, trivial⟩ ⟨Nat.zero_le _, Ext.refl _, fun _ j hj => by omega⟩ ?_
    rintro k w2 ⟨hk, hx2, hall⟩
    by_cases hlt : k < i
    · obtain ⟨p, hpk⟩ : ∃ p, ts[k]? = some p := ⟨_, List.getElem?_eq_getElem (by omega)⟩
      have hatk := tier_elem (hv0.ext (hx1.trans hx2)) hpk
      have r5r := r51.ext hx2
      (repeat' (first | refine yV rfl rfl (fun _ _ _ => val_indexAddr (m := k) rfl rfl rfl rfl (by omega)) ?_ | refine yV rfl rfl (fun wq _ xq => val_load rfl rfl rfl ((hatk.ext xq).cellAt (j := 2) rfl)) ?_ | refine yV rfl rfl (fun wq _ xq => val_load rfl rfl rfl ((r5r.ext xq).cellAt (j := 2) rfl)) ?_ | (refine at_EL ?_; first | refine eN ?_ | refine eV rfl rfl (zA rfl rfl) ?_ | refine eV rfl rfl (zB rfl rfl) ?_ | (refine at_bin ?_; first | refine eD rfl rfl (zL rfl rfl rfl) (fun hh => ?_) (fun hh => ?_) | refine eV rfl rfl (zU rfl rfl rfl (by omega) (by omega)) ?_)) | (refine at_K ?_; first | refine K_then ?_ | refine K_in ?_ | refine K_then_ret ?_ | refine K_then_exit ?_ | refine K_in_ret ?_ | refine K_in_exit ?_) | (refine at_E ?_; first | refine E_seq ?_ | refine E_region ?_ | refine E_cond_t rfl ?_ | refine E_cond_f rfl ?_ | refine E_block ?_ | refine E_skip ?_ | refine E_ret ?_ | refine E_exit ?_ | refine E_dq mixedOk (by kernel_rfl) rfl ?_) | (refine at_RQ ?_; first | refine yN rfl (fun wq xq => ?_) | refine yO rfl rfl ?_ | refine yV rfl rfl (fun _ _ _ => zA rfl rfl) ?_ | (refine at_binR ?_; first | refine yD rfl rfl (fun _ _ _ => zM rfl rfl rfl) (fun hh => ?_) (fun hh => ?_) | refine yD rfl rfl (fun _ _ _ => zQ rfl rfl rfl) (fun hh => ?_) (fun hh => ?_)) | refine yV rfl rfl (fun _ _ _ => zC rfl rfl rfl) ?_ | refine yV rfl rfl (fun _ _ _ => zD rfl rfl rfl) ?_ | refine yV rfl rfl (fun _ _ _ => zH rfl rfl) ?_)))
      all_goals (first | (exfalso; omega) | skip)
      all_goals first
        | exact ret_1 rfl rfl ⟨⟨_, rfl, fun h => by omega⟩, (hx1.trans hx2).trans xq⟩
        | exact K_rnd (k + 1) ⟨rfl, rfl, rfl, rfl, trivial⟩ ⟨by omega, hx2.trans xq, fun h0 => loop_nx2 hpk (hall h0) (by assumption)⟩ (by omega)
        | exact K_rnd (k + 1) ⟨rfl, rfl, rfl, rfl, trivial⟩ ⟨by omega, hx2.trans xq, fun h0 => absurd h0 ‹_›⟩ (by omega)
    · (repeat' (first | (refine at_EL ?_; first | refine eN ?_ | refine eV rfl rfl (zA rfl rfl) ?_ | (refine at_bin ?_; first | refine eD rfl rfl (zL rfl rfl rfl) (fun hh => ?_) (fun hh => ?_))) | (refine at_K ?_; first | refine K_then ?_ | refine K_then_exit ?_ | refine K_in_exit ?_) | (refine at_E ?_; first | refine E_seq ?_ | refine E_region ?_ | refine E_cond_t rfl ?_ | refine E_cond_f rfl ?_ | refine E_block ?_ | refine E_skip ?_ | refine E_exit ?_)))
      all_goals (first | (exfalso; omega) | skip)
      exact K_mid () ⟨rfl, rfl, rfl, trivial⟩ ⟨hx2, fun h0 k2 p hk2 hp2 => hall h0 k2 (by omega) p hp2⟩
  rintro ⟨⟩ w2 ⟨hx2, huniq⟩
  have hx3 := hx1.trans hx2
  have r52 := r51.ext hx2
  clear hx1 r51
  by_cases hroot : t.kind = 0
  · (repeat' (first | refine eV rfl rfl (val_load rfl rfl rfl (r52.cellAt rfl)) ?_ | (refine yN rfl (fun wq xq => ?_); replace hx3 := hx3.trans xq; replace r52 := r52.ext xq) | refine yV rfl rfl (fun wq _ xq => val_load rfl rfl rfl ((r52.ext xq).cellAt rfl)) ?_ | refine RQ_call rfl rfl (fun _ _ _ => entersF rfl rfl en78) (fun wq _ => kind_any _ wq) ?_ | refine RQ_call rfl rfl (fun _ _ _ => entersF rfl rfl en79) (fun wq _ => over_any _ wq) ?_ | (refine at_EL ?_; first | refine eN ?_ | refine eO rfl rfl ?_ | refine eV rfl rfl (zA rfl rfl) ?_ | refine eV rfl rfl (zB rfl rfl) ?_ | (refine at_bin ?_; first | refine eD rfl rfl (zL rfl rfl rfl) (fun hh => ?_) (fun hh => ?_) | refine eD rfl rfl (zM rfl rfl rfl) (fun hh => ?_) (fun hh => ?_) | refine eD rfl rfl (zP rfl rfl rfl) (fun hh => ?_) (fun hh => ?_) | refine eD rfl rfl (zQ rfl rfl rfl) (fun hh => ?_) (fun hh => ?_)) | refine eV rfl rfl (zC rfl rfl rfl) ?_ | refine eV rfl rfl (zD rfl rfl rfl) ?_ | refine eV rfl rfl (zE rfl rfl) ?_ | refine eV rfl rfl (zH rfl rfl) ?_) | (refine at_K ?_; first | refine K_then ?_ | refine K_then_ret ?_) | (refine at_E ?_; first | refine E_seq ?_ | refine E_region ?_ | refine E_cond_t rfl ?_ | refine E_cond_f rfl ?_ | refine E_skip ?_ | refine E_ret ?_ | refine E_dq mixedOk (by kernel_rfl) rfl ?_) | (refine at_RQ ?_; first | refine yO rfl rfl ?_ | refine yV rfl rfl (fun _ _ _ => zA rfl rfl) ?_ | (refine at_binR ?_; first | refine yD rfl rfl (fun _ _ _ => zP rfl rfl rfl) (fun hh => ?_) (fun hh => ?_) | refine yD rfl rfl (fun _ _ _ => zQ rfl rfl rfl) (fun hh => ?_) (fun hh => ?_)) | refine yV rfl rfl (fun _ _ _ => zC rfl rfl rfl) ?_ | refine yV rfl rfl (fun _ _ _ => zD rfl rfl rfl) ?_ | refine yV rfl rfl (fun _ _ _ => zH rfl rfl) ?_)))
    all_goals (first | (exfalso; omega) | skip)
    all_goals (first | exact ret_1 rfl rfl ⟨⟨_, rfl, fun h => by omega⟩, hx3⟩ | skip)
    all_goals
      refine ret_1 rfl rfl ⟨⟨_, rfl, fun _ => ?_⟩, hx3⟩
      have hk : ¬ (0 ≤ kindF t.role ∧ t.kind ≠ kindF t.role) := by rintro ⟨h1, h2⟩; first | exact absurd h1 ‹_› | exact absurd h2 ‹_›
      have ho : ¬ 0 ≤ overF t.role := ‹_›
      clear hh
      unfold kindF at hk
      unfold overF at ho
      exact ⟨by omega, by omega, huniq, fun _ => by omega, fun h => absurd hroot h, fun h => by omega, by split at hk <;> (try split at hk) <;> (try split at hk) <;> omega, by split at ho <;> (try split at ho) <;> (try split at ho) <;> omega⟩
  · by_cases hpar : 0 ≤ t.parent ∧ t.parent < i
    · obtain ⟨m, hmm⟩ : ∃ m : Nat, t.parent = (m : Int) := ⟨t.parent.toNat, by omega⟩
      have hmi : m < i := by omega
      obtain ⟨p, hpm⟩ : ∃ p, ts[m]? = some p := ⟨_, List.getElem?_eq_getElem (by omega)⟩
      have hatp := tier_elem (hv0.ext hx3) hpm
      have hpm2 : ts[t.parent.toNat]? = some p := by rw [hmm, Int.toNat_natCast, hpm]
      obtain ⟨bt, hbt⟩ : ∃ bt, bt = timedB t.kind := ⟨_, rfl⟩
      obtain ⟨bp, hbp⟩ : ∃ bp, bp = timedB p.kind := ⟨_, rfl⟩
      have ct := timed_any t.kind
      have cp := timed_any p.kind
      rw [← hbt] at ct
      rw [← hbp] at cp
      have hbb2 : bp = true → timedB p.kind = true := fun h => by rw [← hbp]; exact h
      have hbt2 : t.kind = 1 ∨ t.kind = 2 → bt = true := fun h => by rw [hbt]; exact timed_iff.2 (by omega)
      have r52' : Row w2 b5 65 [str t.name, int t.kind, int t.role, int m] := by rw [← hmm]; exact r52
      clear r52
      clear hbt hbp
      (repeat' ((fail_if_success (refine E_seq (x := (Code.seq (Code.region 21 _ _) _)) ?_)); first | refine eV rfl rfl (val_load rfl rfl rfl (r52'.cellAt rfl)) ?_ | (refine at_EL ?_; first | refine eN ?_ | refine eO rfl rfl ?_ | refine eV rfl rfl (zA rfl rfl) ?_ | refine eV rfl rfl (zB rfl rfl) ?_ | (refine at_bin ?_; first | refine eD rfl rfl (zL rfl rfl rfl) (fun hh => ?_) (fun hh => ?_) | refine eD rfl rfl (zM rfl rfl rfl) (fun hh => ?_) (fun hh => ?_) | refine eD rfl rfl (zP rfl rfl rfl) (fun hh => ?_) (fun hh => ?_) | refine eD rfl rfl (zQ rfl rfl rfl) (fun hh => ?_) (fun hh => ?_)) | refine eV rfl rfl (zC rfl rfl rfl) ?_ | refine eV rfl rfl (zD rfl rfl rfl) ?_ | refine eV rfl rfl (zE rfl rfl) ?_ | refine eV rfl rfl (zH rfl rfl) ?_) | (refine at_K ?_; first | refine K_then ?_ | refine K_then_ret ?_) | (refine at_E ?_; first | refine E_seq ?_ | refine E_region ?_ | refine E_cond_t rfl ?_ | refine E_cond_f rfl ?_ | refine E_skip ?_ | refine E_ret ?_)))
      all_goals (first | (exfalso; omega) | skip)
      refine E_mid (ι := Unit) (fun _ => [(0, .slice (some ⟨b, off, none⟩) ts.length cap), (1, int i), (5, .pointer (some ⟨b5, 0, none⟩)), (8, .bool false)]) (fun _ w3 => Ext w2 w3 ∧ (bt = true → bp = true)) ?_ ?_
      · cases bt <;> cases bp
        all_goals
          (repeat' (first | refine eV rfl rfl (val_load rfl rfl rfl (r52'.cellAt rfl)) ?_ | refine eV rfl rfl (val_indexAddr (m := m) rfl rfl rfl rfl (by omega)) ?_ | refine eV rfl rfl (val_load rfl rfl rfl (hatp.cellAt (j := 1) rfl)) ?_ | (refine EL_call rfl rfl (entersF rfl rfl en48) (ct _) (fun vC wC hC => ?_); obtain ⟨rfl, xC⟩ := hC; replace hatp := hatp.ext xC; replace r52' := r52'.ext xC) | (refine EL_call rfl rfl (entersF rfl rfl en48) (cp _) (fun vD wD hD => ?_); obtain ⟨rfl, xD⟩ := hD; replace xC := xC.trans xD) | (refine at_EL ?_; first | refine eN ?_ | refine eO rfl rfl ?_ | refine eV rfl rfl (zA rfl rfl) ?_ | refine eV rfl rfl (zB rfl rfl) ?_ | refine eV rfl rfl (zC rfl rfl rfl) ?_ | refine eV rfl rfl (zD rfl rfl rfl) ?_ | refine eV rfl rfl (zE rfl rfl) ?_ | refine eV rfl rfl (zH rfl rfl) ?_) | (refine at_K ?_; first | refine K_then ?_ | refine K_then_ret ?_) | (refine at_E ?_; first | refine E_seq ?_ | refine E_region ?_ | refine E_cond_t rfl ?_ | refine E_cond_f rfl ?_ | refine E_skip ?_ | refine E_ret ?_)))
        all_goals (first | exact ret_1 rfl rfl ⟨⟨_, rfl, fun h => by omega⟩, hx3.trans xC⟩ | exact K_mid () ⟨rfl, rfl, rfl, rfl, trivial⟩ ⟨xC, by simp⟩)
      rintro ⟨⟩ w3 ⟨xm, hbb⟩
      replace hx3 := hx3.trans xm
      replace r52' := r52'.ext xm
      replace hatp := hatp.ext xm
      clear ct cp
      refine E_mid (ι := Unit) (fun _ => [(0, .slice (some ⟨b, off, none⟩) ts.length cap), (1, int i), (5, .pointer (some ⟨b5, 0, none⟩)), (8, .bool false)]) (fun _ w4 => Ext w3 w4 ∧ ¬ (0 ≤ kindF t.role ∧ t.kind ≠ kindF t.role)) ?_ ?_
      · (repeat' (first | refine yV rfl rfl (fun wq _ xq => val_load rfl rfl rfl ((r52'.ext xq).cellAt rfl)) ?_ | refine RQ_call rfl rfl (fun _ _ _ => entersF rfl rfl en78) (fun wq _ => kind_any _ wq) ?_ | (refine at_EL ?_; first | refine eN ?_ | refine eV rfl rfl (zB rfl rfl) ?_) | (refine at_K ?_; first | refine K_then ?_ | refine K_then_ret ?_) | (refine at_E ?_; first | refine E_seq ?_ | refine E_region ?_ | refine E_cond_t rfl ?_ | refine E_cond_f rfl ?_ | refine E_skip ?_ | refine E_ret ?_ | refine E_dq mixedOk (by kernel_rfl) rfl ?_) | (refine at_RQ ?_; first | refine yN rfl (fun wq xq => ?_) | refine yO rfl rfl ?_ | refine yV rfl rfl (fun _ _ _ => zA rfl rfl) ?_ | (refine at_binR ?_; first | refine yD rfl rfl (fun _ _ _ => zP rfl rfl rfl) (fun hh => ?_) (fun hh => ?_) | refine yD rfl rfl (fun _ _ _ => zQ rfl rfl rfl) (fun hh => ?_) (fun hh => ?_)) | refine yV rfl rfl (fun _ _ _ => zC rfl rfl rfl) ?_ | refine yV rfl rfl (fun _ _ _ => zD rfl rfl rfl) ?_ | refine yV rfl rfl (fun _ _ _ => zH rfl rfl) ?_)))
        all_goals (first | exact ret_1 rfl rfl ⟨⟨_, rfl, fun h => by omega⟩, hx3.trans xq⟩ | exact K_mid () ⟨rfl, rfl, rfl, rfl, trivial⟩ ⟨xq, by rintro ⟨h1, h2⟩; first | exact absurd h1 ‹_› | exact absurd h2 ‹_›⟩)
      rintro ⟨⟩ w4 ⟨xn, hk⟩
      replace hx3 := hx3.trans xn
      replace r52' := r52'.ext xn
      replace hatp := hatp.ext xn
      (repeat' (first | refine yV rfl rfl (fun wq _ xq => val_load rfl rfl rfl ((r52'.ext xq).cellAt rfl)) ?_ | refine yV rfl rfl (fun _ _ _ => val_indexAddr (m := m) rfl rfl rfl rfl (by omega)) ?_ | refine yV rfl rfl (fun wq _ xq => val_load rfl rfl rfl ((hatp.ext xq).cellAt (j := 2) rfl)) ?_ | refine RQ_call rfl rfl (fun _ _ _ => entersF rfl rfl en79) (fun wq _ => over_any _ wq) ?_ | (refine at_EL ?_; first | refine eN ?_ | refine eV rfl rfl (zB rfl rfl) ?_) | (refine at_K ?_; first | refine K_then ?_ | refine K_then_ret ?_) | (refine at_E ?_; first | refine E_seq ?_ | refine E_region ?_ | refine E_cond_t rfl ?_ | refine E_cond_f rfl ?_ | refine E_skip ?_ | refine E_ret ?_ | refine E_dq mixedOk (by kernel_rfl) rfl ?_) | (refine at_RQ ?_; first | refine yN rfl (fun wq xq => ?_) | refine yO rfl rfl ?_ | refine yV rfl rfl (fun _ _ _ => zA rfl rfl) ?_ | (refine at_binR ?_; first | refine yD rfl rfl (fun _ _ _ => zP rfl rfl rfl) (fun hh => ?_) (fun hh => ?_) | refine yD rfl rfl (fun _ _ _ => zQ rfl rfl rfl) (fun hh => ?_) (fun hh => ?_)) | refine yV rfl rfl (fun _ _ _ => zC rfl rfl rfl) ?_ | refine yV rfl rfl (fun _ _ _ => zD rfl rfl rfl) ?_ | refine yV rfl rfl (fun _ _ _ => zH rfl rfl) ?_)))
      all_goals (first | (exfalso; omega) | skip)
      all_goals (first | exact ret_1 rfl rfl ⟨⟨_, rfl, fun h => by omega⟩, hx3.trans xq⟩ | skip)
      all_goals
        refine ret_1 rfl rfl ⟨⟨_, rfl, fun _ => ?_⟩, hx3.trans xq⟩
        have ho : ¬ (0 ≤ overF t.role ∧ p.role ≠ overF t.role) := by rintro ⟨h1, h2⟩; first | exact absurd h1 ‹_› | exact absurd h2 ‹_›
        clear hh
        unfold kindF at hk
        unfold overF at ho
        refine ⟨by omega, by omega, huniq, fun h => absurd h hroot, fun _ => by omega, fun h => ⟨p, hpm2, hbb2 (hbb (hbt2 h))⟩, ?_, ?_⟩
        · split at hk <;> (try split at hk) <;> (try split at hk) <;> omega
        · refine ⟨fun h => ⟨hroot, p, hpm2, ?_⟩, fun h => ⟨p, hpm2, ?_⟩, fun h => ⟨p, hpm2, ?_⟩⟩
          all_goals (split at ho <;> (try split at ho) <;> (try split at ho) <;> omega)
    · (repeat' (first | refine eV rfl rfl (val_load rfl rfl rfl (r52.cellAt rfl)) ?_ | (refine at_EL ?_; first | refine eN ?_ | refine eO rfl rfl ?_ | refine eV rfl rfl (zA rfl rfl) ?_ | refine eV rfl rfl (zB rfl rfl) ?_ | (refine at_bin ?_; first | refine eD rfl rfl (zL rfl rfl rfl) (fun hh => ?_) (fun hh => ?_) | refine eD rfl rfl (zM rfl rfl rfl) (fun hh => ?_) (fun hh => ?_) | refine eD rfl rfl (zP rfl rfl rfl) (fun hh => ?_) (fun hh => ?_) | refine eD rfl rfl (zQ rfl rfl rfl) (fun hh => ?_) (fun hh => ?_)) | refine eV rfl rfl (zC rfl rfl rfl) ?_ | refine eV rfl rfl (zD rfl rfl rfl) ?_ | refine eV rfl rfl (zE rfl rfl) ?_ | refine eV rfl rfl (zH rfl rfl) ?_) | (refine at_K ?_; first | refine K_then ?_ | refine K_then_ret ?_) | (refine at_E ?_; first | refine E_seq ?_ | refine E_region ?_ | refine E_cond_t rfl ?_ | refine E_cond_f rfl ?_ | refine E_skip ?_ | refine E_ret ?_)))
      all_goals (first | (exfalso; omega) | skip)
      all_goals exact ret_1 rfl rfl ⟨⟨_, rfl, fun h => by omega⟩, hx3⟩
end Go.Proofs.Ytaajcbhingpfeaa
