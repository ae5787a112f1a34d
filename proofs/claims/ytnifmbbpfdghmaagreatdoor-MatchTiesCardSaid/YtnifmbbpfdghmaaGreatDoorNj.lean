/-
  Walks of the reference's match: Role, text; of the tier of a role.
-/
import Derived.Test.YtnifmbbpfdghmaaGreatDoorNi
import Derived.Test.YtnifmbbpfdghmaaGreatDoorQe
import Derived.Test.YtnifmbbpfdghmaaGreatDoorY3
set_option linter.all false
namespace Go.Proofs.YtnifmbbpfdghmaaGreatDoor
open Go.RowKit Go.En
theorem sl_cast {w : World} {v : Value} {l l' : List Int} (h : Sl w v l) (e : l = l') : Sl w v l' := e ▸ h
attribute [local irreducible] E EL K Val Enters Rt Calls bodyPost Code.wp RQ
set_option maxHeartbeats 4000000 in
set_option maxRecDepth 8000 in
theorem role123_any (d : Dc) (tv : Value) (role : Int) (w : World) (ht : Sl w tv d.tiers) : Calls Tryz.prog 123 #[tv, int role] w (Rt fun u w' => u = int (roleF d role) ∧ Ext w w') := by
  have ht0 := ht
  obtain ⟨a, cap, rfl, hc, hm, hp⟩ := ht.sl
  refine calls_E (n := 24) (args := [.slice a d.tiers.length cap, int role]) Tryz.func123 rfl Tryz.ntmps123 (by simp) ?_
  (repeat' (first | (refine at_EL ?_; first | refine eN ?_ | refine eV rfl rfl (zB rfl rfl) ?_) | (refine at_K ?_; first | refine K_then ?_) | (refine at_E ?_; first | refine E_seq ?_ | refine E_region ?_ | refine E_block ?_)))
  refine E_loop (ι := Nat) (fun i => [(0, .slice a d.tiers.length cap), (1, int role), (5, int i)])
    (fun i wr => i ≤ d.tiers.length ∧ wr = w ∧ (role = 0 ∨ ∀ j, j < i → ∀ t, d.tiers[j]? = some t → t.role ≠ role)) (fun i => d.tiers.length - i) 0
    ⟨rfl, rfl, rfl, trivial⟩ ⟨Nat.zero_le _, rfl, .inr (fun j hj => absurd hj (by omega))⟩ ?_
  rintro i wr ⟨hi, rfl, hall⟩
  by_cases hlt : i < d.tiers.length
  · obtain ⟨b, off, rfl⟩ := hp (by omega)
    obtain ⟨t, hti⟩ : ∃ t, d.tiers[i]? = some t := ⟨_, List.getElem?_eq_getElem hlt⟩
    have hat := tier_elem ht0 hti
    by_cases h0 : role = 0
    · subst h0
      (repeat' (first | (refine at_EL ?_; first | refine eN ?_ | refine eO rfl rfl ?_ | refine eV rfl rfl (zA rfl rfl) ?_ | refine eV rfl rfl (zB rfl rfl) ?_ | (refine at_bin ?_; first | refine eD rfl rfl (zL rfl rfl rfl) (fun hh => ?_) (fun hh => ?_) | refine eD rfl rfl (zQ rfl rfl rfl) (fun hh => ?_) (fun hh => ?_) | refine eV rfl rfl (zU rfl rfl rfl (by omega) (by omega)) ?_) | (refine at_call ?_; first | refine eV rfl rfl (zK rfl rfl) ?_) | refine eV rfl rfl (zD rfl rfl rfl) ?_) | (refine at_K ?_; first | refine K_then ?_ | refine K_in ?_ | refine K_then_exit ?_ | refine K_in_exit ?_) | (refine at_E ?_; first | refine E_seq ?_ | refine E_region ?_ | refine E_cond_t rfl ?_ | refine E_cond_f rfl ?_ | refine E_block ?_ | refine E_skip ?_ | refine E_ret ?_ | refine E_exit ?_)))
      all_goals (first | (exfalso; omega) | skip)
      exact K_rnd (i + 1) ⟨rfl, rfl, rfl, trivial⟩ ⟨by omega, rfl, .inl rfl⟩ (by omega)
    · have hall' := hall.resolve_left h0
      by_cases hr : t.role = role
      · (repeat' (first | refine eV rfl rfl (val_indexAddr (m := i) rfl rfl rfl rfl hlt) ?_ | refine eV rfl rfl (val_load rfl rfl rfl (hat.cellAt (j := 2) rfl)) ?_ | (refine at_EL ?_; first | refine eN ?_ | refine eO rfl rfl ?_ | refine eV rfl rfl (zA rfl rfl) ?_ | refine eV rfl rfl (zB rfl rfl) ?_ | (refine at_bin ?_; first | refine eD rfl rfl (zL rfl rfl rfl) (fun hh => ?_) (fun hh => ?_) | refine eD rfl rfl (zM rfl rfl rfl) (fun hh => ?_) (fun hh => ?_) | refine eD rfl rfl (zQ rfl rfl rfl) (fun hh => ?_) (fun hh => ?_) | refine eV rfl rfl (zU rfl rfl rfl (by omega) (by omega)) ?_) | (refine at_call ?_; first | refine eV rfl rfl (zK rfl rfl) ?_) | refine eV rfl rfl (zC rfl rfl rfl) ?_ | refine eV rfl rfl (zD rfl rfl rfl) ?_ | refine eV rfl rfl (zH rfl rfl) ?_) | (refine at_K ?_; first | refine K_then ?_ | refine K_in ?_ | refine K_then_ret ?_ | refine K_then_exit ?_ | refine K_in_ret ?_ | refine K_in_exit ?_) | (refine at_E ?_; first | refine E_seq ?_ | refine E_region ?_ | refine E_cond_t rfl ?_ | refine E_cond_f rfl ?_ | refine E_block ?_ | refine E_skip ?_ | refine E_ret ?_ | refine E_exit ?_)))
        all_goals (first | (exfalso; omega) | skip)
        exact ret_1 rfl rfl ⟨by rw [roleF_at h0 hti hr hall'], Ext.refl _⟩
      · (repeat' (first | refine eV rfl rfl (val_indexAddr (m := i) rfl rfl rfl rfl hlt) ?_ | refine eV rfl rfl (val_load rfl rfl rfl (hat.cellAt (j := 2) rfl)) ?_ | (refine at_EL ?_; first | refine eN ?_ | refine eO rfl rfl ?_ | refine eV rfl rfl (zA rfl rfl) ?_ | refine eV rfl rfl (zB rfl rfl) ?_ | (refine at_bin ?_; first | refine eD rfl rfl (zL rfl rfl rfl) (fun hh => ?_) (fun hh => ?_) | refine eD rfl rfl (zM rfl rfl rfl) (fun hh => ?_) (fun hh => ?_) | refine eD rfl rfl (zQ rfl rfl rfl) (fun hh => ?_) (fun hh => ?_) | refine eV rfl rfl (zU rfl rfl rfl (by omega) (by omega)) ?_) | (refine at_call ?_; first | refine eV rfl rfl (zK rfl rfl) ?_) | refine eV rfl rfl (zC rfl rfl rfl) ?_ | refine eV rfl rfl (zD rfl rfl rfl) ?_ | refine eV rfl rfl (zH rfl rfl) ?_) | (refine at_K ?_; first | refine K_then ?_ | refine K_in ?_ | refine K_then_ret ?_ | refine K_then_exit ?_ | refine K_in_ret ?_ | refine K_in_exit ?_) | (refine at_E ?_; first | refine E_seq ?_ | refine E_region ?_ | refine E_cond_t rfl ?_ | refine E_cond_f rfl ?_ | refine E_block ?_ | refine E_skip ?_ | refine E_ret ?_ | refine E_exit ?_)))
        all_goals (first | (exfalso; omega) | skip)
        refine K_rnd (i + 1) ⟨rfl, rfl, rfl, trivial⟩ ⟨by omega, rfl, .inr (fun j hj t' ht' => ?_)⟩ (by omega)
        by_cases e : j = i
        · subst e
          rw [hti] at ht'
          cases ht'
          exact hr
        · exact hall' j (by omega) t' ht'
  · obtain rfl : i = d.tiers.length := by omega
    (repeat' (first | (refine at_EL ?_; first | refine eN ?_ | refine eO rfl rfl ?_ | refine eV rfl rfl (zA rfl rfl) ?_ | refine eV rfl rfl (zB rfl rfl) ?_ | (refine at_bin ?_; first | refine eD rfl rfl (zL rfl rfl rfl) (fun hh => ?_) (fun hh => ?_) | refine eD rfl rfl (zQ rfl rfl rfl) (fun hh => ?_) (fun hh => ?_) | refine eV rfl rfl (zU rfl rfl rfl (by omega) (by omega)) ?_) | (refine at_call ?_; first | refine eV rfl rfl (zK rfl rfl) ?_) | refine eV rfl rfl (zD rfl rfl rfl) ?_) | (refine at_K ?_; first | refine K_then ?_ | refine K_in ?_ | refine K_then_exit ?_ | refine K_in_exit ?_) | (refine at_E ?_; first | refine E_seq ?_ | refine E_region ?_ | refine E_cond_t rfl ?_ | refine E_cond_f rfl ?_ | refine E_block ?_ | refine E_skip ?_ | refine E_ret ?_ | refine E_exit ?_)))
    all_goals (first | (exfalso; omega) | skip)
    exact ret_1 rfl rfl ⟨by rw [roleF_none (hall.imp id fun h j t ht => h j (List.getElem?_eq_some_iff.1 ht).1 t ht)], Ext.refl _⟩
set_option maxHeartbeats 4000000 in
set_option maxRecDepth 8000 in
theorem rrole_any {d : Dc} (h : LightD d) (v : Value) (role : Int) (w : World) (hv : DcAt w v d) : Calls Tryz.prog 88 #[v, int role] w (Rt fun u w' => Ext w w' ∧ Sl w' u (idsOf d (ofRoleP d role))) := by
  have hd0 := hv
  have hrl := roleL_len h role
  obtain ⟨sv, tv, nv, rfl, _, ht, _⟩ := hv
  refine calls_E (n := 12) (args := [.agg #[int d.rid, str d.rname, int d.len, int d.day, sv, tv, nv], int role]) Tryz.func88 rfl Tryz.ntmps88 (by simp) ?_
  refine E_seq ?_
  refine E_region ?_
  refine EL_box rfl rfl rfl rfl (fun bD wD xD hbD rD0 => ?_)
  have rD : Row wD bD 28 [int d.rid, str d.rname, int d.len, int d.day, sv, tv, nv] := rD0
  clear rD0
  (repeat' (first | refine yV rfl rfl (fun wq _ xq => val_loadA rfl rfl rfl (rD.ext xq).at rfl) ?_ | refine yV rfl rfl (fun wq _ xq => val_load rfl rfl rfl ((rD.ext xq).cellAt (j := 5) rfl)) ?_ | refine RQ_call rfl rfl (fun _ _ _ => entersF rfl rfl en123) (fun wq xq => role123_any d tv role wq (ht.ext (xD.trans xq))) ?_ | (refine RQ_callR (f := 113) (fun u w' => Sl w' u (roleL d role)) (fun _ => #[.agg #[int d.rid, str d.rname, int d.len, int d.day, sv, tv, nv], int (roleF d role)]) rfl rfl (fun _ _ _ _ xe h => SlG.ext h xe) (fun _ _ _ => entersF rfl rfl en113) (fun wq _ xq _ => ?_) ?_; exact calls_mono (refof_any h _ (roleF d role) wq (hd0.ext (xD.trans xq))) (fun _ _ hh => ⟨hh.2, hh.1⟩)) | (refine RQ_callR (f := 102) (fun u w' => Sl w' u (idsOf d (ofRoleP d role))) (fun δ => #[δ 10]) rfl rfl (fun _ _ _ _ xe h => SlG.ext h xe) (fun _ _ _ => entersF rfl rfl en102) (fun wq δ xq hd => ?_) ?_; exact calls_mono (sorted_any (roleL d role) _ wq (hd 10 rfl _ rfl) (by omega)) (fun _ _ hh => ⟨sl_cast hh.2 (role_ids h role), hh.1⟩)) | refine RQ_asgS rfl rfl rfl rfl (fun _ => rfl) ?_ | refine RQ_end (fun wq δ xq hR => ?_) | (refine at_EL ?_; first | refine eN ?_ | refine eV rfl rfl (zB rfl rfl) ?_) | (refine at_K ?_; first | refine K_then ?_) | (refine at_E ?_; first | refine E_seq ?_ | refine E_ret ?_ | refine E_dq mixedOk (by kernel_rfl) rfl ?_) | (refine at_RQ ?_; first | refine yV rfl rfl (fun _ _ _ => zA rfl rfl) ?_ | refine yV rfl rfl (fun _ _ _ => zH rfl rfl) ?_)))
  exact ret_1 rfl rfl ⟨xD.trans xq, hR 4 _ rfl⟩
set_option maxHeartbeats 4000000 in
set_option maxRecDepth 8000 in
theorem rtext_any {d : Dc} (h : LightD d) (v : Value) (role : Int) (txt : List UInt8) (w : World) (hv : DcAt w v d) : Calls Tryz.prog 87 #[v, int role, str txt] w (Rt fun u w' => Ext w w' ∧ Sl w' u (idsOf d (textP matchF d role txt))) := by
  have hN := h.nnotes
  have hd0 := hv
  obtain ⟨sv, tv, nv, rfl, _, ht, _⟩ := hv
  refine calls_E (n := 42) (args := [.agg #[int d.rid, str d.rname, int d.len, int d.day, sv, tv, nv], int role, str txt]) Tryz.func87 rfl Tryz.ntmps87 (by simp) ?_
  refine E_seq ?_
  refine E_region ?_
  refine EL_box rfl rfl rfl rfl (fun bD wD xD hbD rD0 => ?_)
  have rD : Row wD bD 28 [int d.rid, str d.rname, int d.len, int d.day, sv, tv, nv] := rD0
  clear rD0
  have c1 := rrole_any h _ role wD (hd0.ext xD)
  (repeat' (first | refine eV rfl rfl (val_loadA rfl rfl rfl rD.at rfl) ?_ | (refine EL_call rfl rfl (entersF rfl rfl en88) c1 (fun vX wX hC => ?_); obtain ⟨xX, sX⟩ := hC) | (refine at_EL ?_; first | refine eN ?_ | refine eV rfl rfl (zA rfl rfl) ?_ | refine eV rfl rfl (zB rfl rfl) ?_) | (refine at_K ?_; first | refine K_then ?_) | (refine at_E ?_; first | refine E_seq ?_ | refine E_region ?_ | refine E_block ?_)))
  have rDX := rD.ext xX
  have XX := xD.trans xX
  have hdX := hd0.ext XX
  obtain ⟨X, hXe⟩ : ∃ X, X = idsOf d (ofRoleP d role) := ⟨_, rfl⟩
  rw [← hXe] at sX
  have hXl : X.length ≤ 14 := by rw [hXe]; exact Nat.le_trans (idsOf_len _) hN
  have sX0 := sX
  obtain ⟨xa, xc, rfl, hxc, _, hxp⟩ := sX.sl
  obtain ⟨p, hp⟩ : ∃ p : Int → Bool, p = fun x => matchF txt (curN d.notes x).text := ⟨_, rfl⟩
  refine E_loop (ι := Nat × Value) (fun s => [(2, str txt), (3, .pointer (some ⟨bD, 0, none⟩)), (7, s.2), (8, .slice xa X.length xc), (9, int s.1)])
    (fun s wr => s.1 ≤ X.length ∧ Ext wX wr ∧ wr.ownsRow wX.heap.size 3 1 s.2 ((X.take s.1).filter p).length (((X.take s.1).filter p).map int)) (fun s => X.length - s.1) (0, .slice none 0 0)
    ⟨rfl, rfl, rfl, rfl, rfl, trivial⟩ ⟨Nat.zero_le _, Ext.refl _, World.ownsRow_nil _ _ _ _⟩ ?_
  rintro ⟨i, vO⟩ wr ⟨hi, hx, hown⟩
  dsimp only at hi hx hown ⊢
  have rDr := rDX.ext hx
  have hfl : ((X.take i).filter p).length ≤ 14 := Nat.le_trans (List.length_filter_le _ _) (Nat.le_trans (List.length_take_le _ _) (by omega))
  by_cases hlt : i < X.length
  · obtain ⟨bb, off, rfl⟩ := hxp (by omega)
    obtain ⟨x, hx1⟩ : ∃ x, X[i]? = some x := ⟨_, List.getElem?_eq_getElem hlt⟩
    have hcx := int_elem (sX0.ext hx) hx1
    have hfs := filter_snoc (p := p) hx1
    have hct := cur_text h x
    obtain ⟨n, hn⟩ : ∃ n, n = curN d.notes x := ⟨_, rfl⟩
    have hpx0 : p x = matchF txt n.text := by rw [hp, hn]
    rw [← hn] at hct
    have cget : ∀ wq, Ext wr wq → Calls Tryz.prog 59 #[.agg #[int d.rid, str d.rname, int d.len, int d.day, sv, tv, nv], int x] wq (Rt fun u w' => u = .tuple #[.agg (noteC n).toArray, .bool (getF d.notes x).isSome] ∧ Ext wq w') := fun wq xq => by
      have := get_any d _ x wq (hdX.ext (hx.trans xq))
      rw [getR_cur, ← hn] at this
      exact this
    (repeat' ((fail_if_success (refine E_seq (x := (Code.region 6 _ _)) ?_)); first | (refine at_EL ?_; first | refine eN ?_ | refine eV rfl rfl (zA rfl rfl) ?_ | refine eV rfl rfl (zB rfl rfl) ?_ | (refine at_bin ?_; first | refine eD rfl rfl (zL rfl rfl rfl) (fun hh => ?_) (fun hh => ?_)) | (refine at_call ?_; first | refine eV rfl rfl (zK rfl rfl) ?_)) | (refine at_K ?_; first | refine K_then ?_ | refine K_then_exit ?_ | refine K_in_exit ?_) | (refine at_E ?_; first | refine E_seq ?_ | refine E_region ?_ | refine E_cond_t rfl ?_ | refine E_cond_f rfl ?_ | refine E_block ?_ | refine E_skip ?_ | refine E_ret ?_ | refine E_exit ?_)))
    all_goals (first | (exfalso; omega) | skip)
    refine E_seq ?_
    refine E.sub (M := [(2, str txt), (3, .pointer (some ⟨bD, 0, none⟩)), (7, vO), (8, .slice (some ⟨bb, off, none⟩) X.length xc), (9, int i)]) ⟨rfl, rfl, rfl, rfl, rfl, trivial⟩ ?_
    refine E_one 9 10 10 28 (noteC n) [some (22, .agg #[int d.rid, str d.rname, int d.len, int d.day, sv, tv, nv]), some (23, .slice (some ⟨bb, off, none⟩) X.length xc), some (24, int i), some (25, .pointer (some ⟨bb, off + i * 1, none⟩)), some (26, int x),
      some (27, .tuple #[.agg (noteC n).toArray, .bool (getF d.notes x).isSome]), some (21, .tuple #[.agg (noteC n).toArray, .bool (getF d.notes x).isSome]), some (28, .agg (noteC n).toArray), some (29, .bool (getF d.notes x).isSome), none, none, some (11, .bool (getF d.notes x).isSome)] mixedOk (by kernel_rfl) rfl rfl rfl rfl rfl rfl rfl rfl (by decide) rfl rfl rfl rfl rfl
      ⟨vcV fun wq xq => (val_loadA rfl rfl rfl (rDr.ext xq).at rfl), vcV fun _ _ => zA rfl rfl, vcV fun _ _ => zA rfl rfl, vcV fun _ _ => val_indexAddr (m := i) rfl rfl rfl rfl (by omega), vcV fun wq xq => val_load rfl rfl rfl (xq.cell hcx),
        vcC (fun _ _ => entersF rfl rfl en59) (fun wq xq => cget wq xq), vcV fun _ _ => zA rfl rfl, vcV fun _ _ => zF rfl rfl rfl, vcV fun _ _ => zF rfl rfl rfl, vcV fun _ _ => zB rfl rfl, trivial⟩ (fun b5 w1 x1 hge5 r1 => ?_)
    refine K.sub (M := [(2, str txt), (3, .pointer (some ⟨bD, 0, none⟩)), (7, vO), (8, .slice (some ⟨bb, off, none⟩) X.length xc), (9, int i), (10, .pointer (some ⟨b5, 0, none⟩))]) ⟨rfl, rfl, rfl, rfl, rfl, rfl, trivial⟩ ?_
    have rX : Row w1 b5 74 (noteC n) := r1
    clear r1
    have hcx1 := x1.cell hcx
    have hx1' := hx.trans x1
    have own1 := own_ext hown x1
    have cm := rMatch_any txt n.text (by omega) w1
    cases hpx : p x with
    | true =>
      rw [← hpx0, hpx] at cm
      rw [if_pos hpx] at hfs
      (repeat' (first | refine eV rfl rfl (val_load rfl rfl rfl (rX.cellAt (j := 6) rfl)) ?_ | (refine EL_call rfl rfl (entersF rfl rfl en55) cm (fun vC wC hC => ?_); obtain ⟨rfl, xC⟩ := hC; have own2 := own_ext own1 xC; replace hcx1 := xC.cell hcx1) | refine eV rfl rfl (val_indexAddr (m := i) rfl rfl rfl rfl hlt) ?_ | refine eV rfl rfl (val_load rfl rfl rfl hcx1) ?_ | (refine EL_appO (news := [int x]) (own_ext own2 xS) ((hx1'.trans xC).trans xS) (fun _ => ⟨_, _, rfl, rS.at⟩) rfl rfl rfl rfl rfl rfl rfl rfl rfl (by omega) (by omega) (fun vJ wJ oJ xJ kJ hJ => ?_)) | (refine at_EL ?_; first | refine eN ?_ | refine eV rfl rfl (zA rfl rfl) ?_ | refine eV rfl rfl (zB rfl rfl) ?_ | (refine at_bin ?_; first | refine eV rfl rfl (zU rfl rfl rfl (by omega) (by omega)) ?_) | refine eV rfl rfl (zH rfl rfl) ?_ | refine eL rfl rfl rfl rfl rfl rfl rfl rfl (fun bS wS xS hbS rS => ?_)) | (refine at_K ?_; first | refine K_then ?_ | refine K_in ?_) | (refine at_E ?_; first | refine E_seq ?_ | refine E_region ?_ | refine E_cond_t rfl ?_)))
      all_goals (first | (exfalso; omega) | skip)
      refine K_rnd (i + 1, vJ) ⟨rfl, rfl, rfl, rfl, rfl, trivial⟩ ⟨by dsimp only; omega, xJ, ?_⟩ (by dsimp only; omega)
      dsimp only
      rw [hfs, List.length_append, List.map_append]
      exact oJ
    | false =>
      rw [← hpx0, hpx] at cm
      rw [if_neg (by simp [hpx]), List.append_nil] at hfs
      (repeat' (first | refine eV rfl rfl (val_load rfl rfl rfl (rX.cellAt (j := 6) rfl)) ?_ | (refine EL_call rfl rfl (entersF rfl rfl en55) cm (fun vC wC hC => ?_); obtain ⟨rfl, xC⟩ := hC; have own2 := own_ext own1 xC) | (refine at_EL ?_; first | refine eN ?_ | refine eV rfl rfl (zA rfl rfl) ?_ | refine eV rfl rfl (zB rfl rfl) ?_ | (refine at_bin ?_; first | refine eV rfl rfl (zU rfl rfl rfl (by omega) (by omega)) ?_) | refine eV rfl rfl (zH rfl rfl) ?_) | (refine at_K ?_; first | refine K_then ?_ | refine K_in ?_) | (refine at_E ?_; first | refine E_seq ?_ | refine E_region ?_ | refine E_cond_f rfl ?_ | refine E_skip ?_)))
      all_goals (first | (exfalso; omega) | skip)
      refine K_rnd (i + 1, vO) ⟨rfl, rfl, rfl, rfl, rfl, trivial⟩ ⟨by dsimp only; omega, hx1'.trans xC, ?_⟩ (by dsimp only; omega)
      dsimp only
      rw [hfs]
      exact own2
  · obtain rfl : i = X.length := by omega
    rw [List.take_length] at hown hfl
    (repeat' (first | (refine at_EL ?_; first | refine eN ?_ | refine eV rfl rfl (zA rfl rfl) ?_ | refine eV rfl rfl (zB rfl rfl) ?_ | (refine at_bin ?_; first | refine eD rfl rfl (zL rfl rfl rfl) (fun hh => ?_) (fun hh => ?_)) | (refine at_call ?_; first | refine eV rfl rfl (zK rfl rfl) ?_)) | (refine at_K ?_; first | refine K_then ?_ | refine K_then_exit ?_ | refine K_in_exit ?_) | (refine at_E ?_; first | refine E_seq ?_ | refine E_region ?_ | refine E_cond_t rfl ?_ | refine E_cond_f rfl ?_ | refine E_block ?_ | refine E_skip ?_ | refine E_ret ?_ | refine E_exit ?_)))
    all_goals (first | (exfalso; omega) | skip)
    refine ret_1 rfl rfl ⟨XX.trans hx, ?_⟩
    have hres : X.filter p = idsOf d (textP matchF d role txt) := by rw [hXe, hp]; exact text_filter h matchF role txt
    rw [← hres]
    exact (own_Nw hown (by omega)).any
end Go.Proofs.YtnifmbbpfdghmaaGreatDoor
