/-
  Walk: IndexOnce.
-/
import Derived.Test.YtjpjpgeeeigbkaaDoorWv
set_option linter.all false
namespace Go.Proofs.YtjpjpgeeeigbkaaDoor
open Go.RowKit Go.En
theorem light_role {d : Dc} (h : LightD d) : ∀ n ∈ d.notes, roleAt d.tiers n = 0 ∨ isRole (roleAt d.tiers n) = true := fun n hn => by
  obtain ⟨i, hi⟩ := List.getElem?_of_mem hn
  obtain ⟨t, k, h1, h2, _⟩ := (h.notes i n hi).placed
  have hr : roleAt d.tiers n = t.role := by unfold roleAt; rw [h1, Int.toNat_natCast, h2]
  have h3 := (h.tiers k t h2).role
  rw [hr]
  unfold isRole
  by_cases h0 : t.role = 0
  · exact .inl h0
  · refine .inr ?_
    simp; omega
theorem light_ids {d : Dc} (h : LightD d) : d.notes.Pairwise fun a b => a.id < b.id := by
  have step : ∀ (j i : Nat) (hj : j < d.notes.length) (hi : i < d.notes.length), i < j → d.notes[i].id < d.notes[j].id := by
    intro j
    induction j with
    | zero => intro i _ _ h; omega
    | succ j ih =>
      intro i hj hi hij
      have h1 := (h.notes (j + 1) _ (List.getElem?_eq_getElem hj)).inc d.notes[j] (by omega) (by simp [List.getElem?_eq_getElem (show j < d.notes.length by omega)])
      by_cases he : i = j
      · subst he; exact h1
      · have := ih i (by omega) hi (by omega)
        omega
  exact List.pairwise_iff_getElem.2 fun i j hi hj hij => step j i hj hi hij
theorem sumIds_take {xs : List Post} {i : Nat} {p : Post} (h : xs[i]? = some p) : sumIds (xs.take (i + 1)) = sumIds (xs.take i) + p.ids.length := sum_take h
theorem sumIds_le (xs : List Post) (i : Nat) : sumIds (xs.take i) ≤ sumIds xs := sum_le xs i
theorem cnt_le (ts : List Tier) (ns : List Note) : cntF ts ns ≤ ns.length := List.length_filter_le _ _
attribute [local irreducible] E EL K Val Enters Rt Calls bodyPost Code.wp RQ
set_option maxHeartbeats 4000000 in
theorem law9_any (o : Dc) (vo : Value) (w : World) (ho : DcAt w vo o) (hno : Names o) (hT : Tabs w) :
    Calls Tryd.prog 9 #[vo] w (Rt fun u w' => u = .bool true ∧ Ext w w') := by
  have ho0 := ho
  obtain ⟨so, tvo, nvo, rfl, hso, htv, hnv⟩ := ho
  refine calls_E (n := 76) (args := [.agg #[int o.rid, str o.rname, int o.len, int o.day, so, tvo, nvo]]) Tryd.func9 rfl Tryd.ntmps9 (by simp) ?_
  have htv0 := htv
  have hnv0 := hnv
  obtain ⟨ato, cto, rfl, _, hmt, hpt⟩ := htv.sl
  obtain ⟨ano, cno, rfl, _, hmn, hpn⟩ := hnv.sl
  refine E_seq ?_
  refine E_region ?_
  refine EL_box rfl rfl rfl rfl (fun bO wO xO hbO rO0 => ?_)
  have rO : Row wO bO 36 [int o.rid, str o.rname, int o.len, int o.day, so, .slice ato o.tiers.length cto, .slice ano o.notes.length cno] := rO0
  have hX := xO
  clear rO0
  have hO := ho0.ext hX
  replace hT := hT.ext hX
  (repeat' ((fail_if_success (refine E_seq (x := (Code.region 3 _ _)) ?_)); first | refine eV rfl rfl (val_loadA rfl rfl rfl rO.at rfl) ?_ | (refine EL_call rfl rfl (entersF rfl rfl en18) (dlight_any o _ _ hO hno) (fun vC wC hC => ?_); obtain ⟨⟨b1, rfl, hb1⟩, xC⟩ := hC; cases b1 <;> (replace hX := hX.trans xC; replace hT := hT.ext xC; replace rO := rO.ext xC; replace hO := hO.ext xC)) | (refine EL_call rfl rfl (entersF rfl rfl en17) (awake_any _ hT) (fun vA wA hA => ?_); obtain ⟨rfl, xA⟩ := hA) | (refine at_EL ?_; first | refine eN ?_ | refine eV rfl rfl (zB rfl rfl) ?_ | refine eV rfl rfl (zE rfl rfl) ?_) | (refine at_K ?_; first | refine K_then ?_ | refine K_then_ret ?_) | (refine at_E ?_; first | refine E_seq ?_ | refine E_region ?_ | refine E_cond_t rfl ?_ | refine E_cond_f rfl ?_ | refine E_skip ?_ | refine E_ret ?_)))
  · exact ret_1 rfl rfl ⟨rfl, hX.trans xA⟩
  have lo := hb1 rfl
  have tno := light_tier lo
  have l1 := lo.nnotes
  have l2 := lo.ntiers
  have l3 := lo.nsp
  obtain ⟨X, hXX⟩ : ∃ X, X = buildF o.tiers o.notes := ⟨_, rfl⟩
  have smX : Small 14 X := by
    rw [hXX]
    have := Small.build o.tiers o.notes o.notes.length
    rw [List.take_length] at this
    exact this.wk l1
  have hsum : sumIds X = cntF o.tiers o.notes := by
    have := once o.tiers o.notes (light_role lo) (light_ids lo) o.notes.length (Nat.le_refl _)
    rw [List.take_length] at this
    rw [hXX]; exact this
  have hcl := cnt_le o.tiers o.notes
  (repeat' (first | refine eV rfl rfl (val_loadA rfl rfl rfl rO.at rfl) ?_ | (refine at_E ?_; first | refine E_seq ?_ | refine E_region ?_)))
  refine EL_call rfl rfl (entersF rfl rfl en21) (dcopy_any o _ _ hO (by omega) (by omega) (by omega)) (fun vC wC hC => ?_)
  obtain ⟨xC, s1, t1, n1, rfl, _, ht1, hn1⟩ := hC
  refine EL_call rfl rfl (entersF rfl rfl en20) (build_any o.tiers o.notes _ _ _ _ _ _ _ _ ht1 hn1 (by omega) tno) (fun vB wB hB => ?_)
  obtain ⟨xB, sx, rfl, Sx⟩ := hB
  refine EL_alloc rfl rfl rfl (fun bX wX xX hbX rX0 => ?_)
  obtain ⟨ax, cx, rfl, _, _, hpx⟩ := Sx.sl
  refine EL_storeP (cs := [_]) rX0 xX (by omega) rfl rfl rfl rfl rfl rfl rfl rfl (Nat.le_refl _) (fun w1 rX x1 k1 => ?_)
  replace Sx := Sx.ext x1
  replace rX : Row w1 bX 24 [.slice ax X.length cx] := by rw [hXX]; exact rX
  rw [← hXX] at Sx hpx
  have xx := xC.trans (xB.trans x1)
  replace hX := hX.trans xx
  replace hT := hT.ext xx
  replace rO := rO.ext xx
  clear rX0 k1 xx
  (repeat' (first | (refine at_EL ?_; first | refine eN ?_ | refine eV rfl rfl (zB rfl rfl) ?_) | (refine at_K ?_; first | refine K_then ?_) | (refine at_E ?_; first | refine E_seq ?_ | refine E_region ?_ | refine E_block ?_)))
  refine E_loop (ι := Nat) (fun i => [(1, .pointer (some ⟨bO, 0, none⟩)), (3, .pointer (some ⟨bX, 0, none⟩)), (4, int (cntF o.tiers (o.notes.take i) : Nat)), (5, int i)]) (fun i wr => i ≤ o.notes.length ∧ Ext w1 wr) (fun i => o.notes.length - i) 0
    ⟨rfl, rfl, rfl, rfl, trivial⟩ ⟨Nat.zero_le _, Ext.refl _⟩ ?_
  rintro i wr ⟨hi, hx⟩
  have rOr := rO.ext hx
  have rXr := rX.ext hx
  have Sxr := Sx.ext hx
  by_cases hlt : i < o.notes.length
  · obtain ⟨b', off', rfl⟩ := hpn (by omega)
    obtain ⟨x, hxx⟩ : ∃ x, o.notes[i]? = some x := ⟨_, List.getElem?_eq_getElem hlt⟩
    obtain ⟨m, t, hmm, hmlt, htt, hro⟩ := tier_in tno hxx
    obtain ⟨b, off, rfl⟩ := hpt (by omega)
    have hatn := note_elem (hnv0.ext (hX.trans hx)) hxx
    have hatt := tier_elem (htv0.ext (hX.trans hx)) htt
    rw [hmm] at hatn
    have hct := cnt_take (ts := o.tiers) hxx
    have hcb := cnt_le o.tiers (o.notes.take i)
    rw [List.length_take] at hcb
    rw [hro] at hct
    by_cases hr : t.role = 0
    · rw [if_pos hr] at hct
      (repeat' (first | refine yV rfl rfl (fun wq _ xq => val_load rfl rfl rfl ((rOr.ext xq).cellAt rfl)) ?_ | refine yV rfl rfl (fun wq _ xq => val_indexAddr (m := i) rfl rfl rfl rfl hlt) ?_ | refine yV rfl rfl (fun wq _ xq => val_indexAddr (m := m) rfl rfl rfl rfl hmlt) ?_ | refine yV rfl rfl (fun wq _ xq => val_load rfl rfl rfl ((hatn.ext xq).cellAt (j := 1) rfl)) ?_ | refine yV rfl rfl (fun wq _ xq => val_load rfl rfl rfl ((hatt.ext xq).cellAt (j := 2) rfl)) ?_ | refine eV rfl rfl (val_load rfl rfl rfl (rOr.cellAt rfl)) ?_ | (refine at_EL ?_; first | refine eN ?_ | refine eV rfl rfl (zA rfl rfl) ?_ | refine eV rfl rfl (zB rfl rfl) ?_ | (refine at_bin ?_; first | refine eD rfl rfl (zL rfl rfl rfl) (fun hh => ?_) (fun hh => ?_) | refine eD rfl rfl (zM rfl rfl rfl) (fun hh => ?_) (fun hh => ?_) | refine eV rfl rfl (zU rfl rfl rfl (by omega) (by omega)) ?_) | (refine at_call ?_; first | refine eV rfl rfl (zK rfl rfl) ?_) | refine eV rfl rfl (zH rfl rfl) ?_) | (refine at_K ?_; first | refine K_then ?_ | refine K_then_exit ?_ | refine K_in_exit ?_) | (refine at_E ?_; first | refine E_seq ?_ | refine E_region ?_ | refine E_cond_t rfl ?_ | refine E_cond_f rfl ?_ | refine E_block ?_ | refine E_skip ?_ | refine E_exit ?_ | refine E_dq mixedOk (by kernel_rfl) rfl ?_) | (refine at_RQ ?_; first | refine yN rfl (fun wq xq => ?_) | refine yV rfl rfl (fun _ _ _ => zA rfl rfl) ?_ | refine yV rfl rfl (fun _ _ _ => zB rfl rfl) ?_ | refine yV rfl rfl (fun _ _ _ => zH rfl rfl) ?_)))
      all_goals (first | (exfalso; omega) | (exact absurd hr ‹_›) | skip)
      refine K_rnd (i + 1) ⟨rfl, rfl, ?_, rfl, trivial⟩ ⟨by omega, hx.trans xq⟩ (by omega)
      rw [hct]; rfl
    · rw [if_neg hr] at hct
      have hrr : isRole t.role = true := by
        have := light_role lo x (List.mem_of_getElem? hxx)
        rw [hro] at this
        exact this.resolve_left hr
      have cH := fun u w (h : Sl w u (findF X t.role x.text)) => has_any _ x.id u w h
      have hh := once_has o.tiers o.notes (List.mem_of_getElem? hxx) (by rw [hro]; exact hrr)
      rw [hro, ← hXX] at hh
      rw [decide_eq_true hh] at cH
      (repeat' ((fail_if_success (refine E_seq (x := (Code.region 10 _ _)) ?_)); first | refine yV rfl rfl (fun wq _ xq => val_load rfl rfl rfl ((rOr.ext xq).cellAt rfl)) ?_ | refine yV rfl rfl (fun wq _ xq => val_indexAddr (m := i) rfl rfl rfl rfl hlt) ?_ | refine yV rfl rfl (fun wq _ xq => val_indexAddr (m := m) rfl rfl rfl rfl hmlt) ?_ | refine yV rfl rfl (fun wq _ xq => val_load rfl rfl rfl ((hatn.ext xq).cellAt (j := 1) rfl)) ?_ | refine yV rfl rfl (fun wq _ xq => val_load rfl rfl rfl ((hatt.ext xq).cellAt (j := 2) rfl)) ?_ | refine eV rfl rfl (val_load rfl rfl rfl (rOr.cellAt rfl)) ?_ | (refine at_EL ?_; first | refine eN ?_ | refine eV rfl rfl (zA rfl rfl) ?_ | refine eV rfl rfl (zB rfl rfl) ?_ | (refine at_bin ?_; first | refine eD rfl rfl (zL rfl rfl rfl) (fun hh => ?_) (fun hh => ?_) | refine eD rfl rfl (zM rfl rfl rfl) (fun hh => ?_) (fun hh => ?_) | refine eV rfl rfl (zU rfl rfl rfl (by omega) (by omega)) ?_) | (refine at_call ?_; first | refine eV rfl rfl (zK rfl rfl) ?_) | refine eV rfl rfl (zH rfl rfl) ?_) | (refine at_K ?_; first | refine K_then ?_ | refine K_then_exit ?_ | refine K_in_exit ?_) | (refine at_E ?_; first | refine E_seq ?_ | refine E_region ?_ | refine E_cond_t rfl ?_ | refine E_cond_f rfl ?_ | refine E_block ?_ | refine E_skip ?_ | refine E_exit ?_ | refine E_dq mixedOk (by kernel_rfl) rfl ?_) | (refine at_RQ ?_; first | refine yN rfl (fun wq xq => ?_) | refine yV rfl rfl (fun _ _ _ => zA rfl rfl) ?_ | refine yV rfl rfl (fun _ _ _ => zB rfl rfl) ?_ | refine yV rfl rfl (fun _ _ _ => zH rfl rfl) ?_)))
      all_goals (first | (exfalso; omega) | (exact absurd ‹t.role = 0› hr) | skip)
      replace hx := hx.trans xq
      replace rOr := rOr.ext xq
      replace rXr := rXr.ext xq
      replace Sxr := Sxr.ext xq
      replace hatn := hatn.ext xq
      (repeat' (first | refine yV rfl rfl (fun wq _ xq => val_load rfl rfl rfl ((rOr.ext xq).cellAt rfl)) ?_ | refine yV rfl rfl (fun wq _ xq => val_loadA (cs := [_]) rfl rfl rfl (rXr.ext xq).at rfl) ?_ | refine yV rfl rfl (fun wq _ xq => val_indexAddr (m := i) rfl rfl rfl rfl hlt) ?_ | refine yV rfl rfl (fun wq _ xq => val_load rfl rfl rfl ((hatn.ext xq).cellAt (j := 6) rfl)) ?_ | refine yV rfl rfl (fun wq _ xq => val_load rfl rfl rfl ((hatn.ext xq).cellAt (j := 0) rfl)) ?_ | refine RQ_callR (fun u w' => Ix w' u X) (fun _ => #[.agg #[.slice ax X.length cx] ]) rfl rfl (fun _ _ _ _ xe h => h.ext xe) (fun _ _ _ => entersF rfl rfl en15) (fun wq _ xq _ => calls_mono (copy_any X _ wq (Sxr.ext xq) (by have := smX.1; omega) (fun p hp => by have := smX.2 p hp; omega)) fun _ _ h => ⟨h.2, h.1⟩) ?_ | refine RQ_callR (fun u w' => Sl w' u (findF X t.role x.text)) (fun δ => #[δ 38, int t.role, str x.text]) rfl rfl (fun _ _ _ _ xe h => h.ext xe) (fun _ _ _ => entersF rfl rfl en25) (fun wq δ xq hs => by obtain ⟨s2, he, h'⟩ := hs 38 rfl _ rfl; rw [he]; exact calls_mono (find_any X s2 t.role x.text wq h') fun _ _ h => ⟨h.2, h.1⟩) ?_ | refine RQ_callV (fun δ => #[δ 46, int x.id]) rfl rfl (fun _ _ _ => entersF rfl rfl en35) (fun wq δ xq hs => cH _ wq (hs 46 rfl _ rfl)) ?_ | refine RQ_end (fun wq δ xq hQ => ?_) | (refine at_EL ?_; first | refine eN ?_ | refine eV rfl rfl (zA rfl rfl) ?_ | refine eV rfl rfl (zB rfl rfl) ?_ | (refine at_bin ?_; first | refine eV rfl rfl (zU rfl rfl rfl (by omega) (by omega)) ?_)) | (refine at_K ?_; first | refine K_then ?_ | refine K_in ?_) | (refine at_E ?_; first | refine E_seq ?_ | refine E_region ?_ | refine E_cond_f rfl ?_ | refine E_skip ?_ | refine E_dq mixedOk (by kernel_rfl) rfl ?_) | (refine at_RQ ?_; first | refine yV rfl rfl (fun _ _ _ => zA rfl rfl) ?_ | refine yV rfl rfl (fun _ _ _ => zE rfl rfl) ?_ | refine yV rfl rfl (fun _ _ _ => zH rfl rfl) ?_)))
      all_goals (first | (exfalso; omega) | skip)
      refine K_rnd (i + 1) ⟨rfl, rfl, ?_, rfl, trivial⟩ ⟨by omega, hx.trans xq⟩ (by omega)
      show some (int _) = some (int _)
      rw [hct]; congr 2
  · -- the sizes of the postings
    have hi' : i = o.notes.length := by omega
    rw [hi', List.take_length]
    (repeat' (first | refine eV rfl rfl (val_load rfl rfl rfl (rOr.cellAt rfl)) ?_ | (refine at_EL ?_; first | refine eN ?_ | refine eV rfl rfl (zA rfl rfl) ?_ | refine eV rfl rfl (zB rfl rfl) ?_ | (refine at_bin ?_; first | refine eD rfl rfl (zL rfl rfl rfl) (fun hh => ?_) (fun hh => ?_)) | (refine at_call ?_; first | refine eV rfl rfl (zK rfl rfl) ?_) | refine eV rfl rfl (zH rfl rfl) ?_) | (refine at_K ?_; first | refine K_then ?_ | refine K_then_exit ?_ | refine K_in_exit ?_) | (refine at_E ?_; first | refine E_seq ?_ | refine E_region ?_ | refine E_cond_t rfl ?_ | refine E_cond_f rfl ?_ | refine E_block ?_ | refine E_skip ?_ | refine E_exit ?_)))
    all_goals (first | (exfalso; omega) | skip)
    refine E_loop (ι := Nat) (fun k => [(1, .pointer (some ⟨bO, 0, none⟩)), (3, .pointer (some ⟨bX, 0, none⟩)), (4, int ((cntF o.tiers o.notes : Nat) - (sumIds (X.take k) : Nat) : Int)), (7, int k)]) (fun k w2 => k ≤ X.length ∧ Ext wr w2) (fun k => X.length - k) 0
      ⟨rfl, rfl, by show some (int _) = some (int _); simp [sumIds], rfl, trivial⟩ ⟨Nat.zero_le _, Ext.refl _⟩ ?_
    rintro k w2 ⟨hk, hx2⟩
    have rX2 := rXr.ext hx2
    have Sx2 := Sxr.ext hx2
    have hsl := sumIds_le X k
    by_cases hklt : k < X.length
    · obtain ⟨bq, offq, rfl⟩ := hpx (by omega)
      obtain ⟨p, hpk⟩ : ∃ p, X[k]? = some p := ⟨_, List.getElem?_eq_getElem hklt⟩
      obtain ⟨iv, hatp, hiv⟩ := post_elem Sx2 hpk
      obtain ⟨ai, ci, rfl, _⟩ := hiv.sl
      have hst := sumIds_take hpk
      have hsl2 := sumIds_le X (k + 1)
      have hpl := smX.2 p (List.mem_of_getElem? hpk)
      have hXl := smX.1
      (repeat' (first | refine eV rfl rfl (val_load rfl rfl rfl (rX2.cellAt rfl)) ?_ | refine eV rfl rfl (val_indexAddr (m := k) rfl rfl rfl rfl hklt) ?_ | refine eV rfl rfl (val_load rfl rfl rfl (hatp.cellAt (j := 2) rfl)) ?_ | (refine at_EL ?_; first | refine eN ?_ | refine eO rfl rfl ?_ | refine eV rfl rfl (zA rfl rfl) ?_ | refine eV rfl rfl (zB rfl rfl) ?_ | (refine at_bin ?_; first | refine eD rfl rfl (zL rfl rfl rfl) (fun hh => ?_) (fun hh => ?_) | refine eD rfl rfl (zM rfl rfl rfl) (fun hh => ?_) (fun hh => ?_) | refine eV rfl rfl (zU rfl rfl rfl (by omega) (by omega)) ?_ | refine eV rfl rfl (zV rfl rfl rfl (by omega) (by omega)) ?_) | (refine at_call ?_; first | refine eV rfl rfl (zK rfl rfl) ?_) | refine eV rfl rfl (zD rfl rfl rfl) ?_ | refine eV rfl rfl (zH rfl rfl) ?_) | (refine at_K ?_; first | refine K_then ?_ | refine K_in ?_ | refine K_then_exit ?_ | refine K_in_exit ?_) | (refine at_E ?_; first | refine E_seq ?_ | refine E_region ?_ | refine E_cond_t rfl ?_ | refine E_cond_f rfl ?_ | refine E_block ?_ | refine E_skip ?_ | refine E_ret ?_ | refine E_exit ?_)))
      all_goals (first | (exfalso; omega) | skip)
      refine K_rnd (k + 1) ⟨rfl, rfl, ?_, rfl, trivial⟩ ⟨by omega, hx2⟩ (by omega)
      show some (int _) = some (int _)
      rw [hst]; congr 2; omega
    · have hk' : k = X.length := by omega
      rw [hk', List.take_length] at hsl ⊢
      have hTT := hT.ext (hx.trans hx2)
      (repeat' (first | refine eV rfl rfl (val_load rfl rfl rfl (rX2.cellAt rfl)) ?_ | (refine EL_call rfl rfl (entersF rfl rfl en17) (awake_any _ hTT) (fun vA wA hA => ?_); obtain ⟨rfl, xA⟩ := hA) | (refine at_EL ?_; first | refine eN ?_ | refine eO rfl rfl ?_ | refine eV rfl rfl (zA rfl rfl) ?_ | refine eV rfl rfl (zB rfl rfl) ?_ | (refine at_bin ?_; first | refine eD rfl rfl (zL rfl rfl rfl) (fun hh => ?_) (fun hh => ?_) | refine eD rfl rfl (zM rfl rfl rfl) (fun hh => ?_) (fun hh => ?_)) | (refine at_call ?_; first | refine eV rfl rfl (zK rfl rfl) ?_) | refine eV rfl rfl (zC rfl rfl rfl) ?_ | refine eV rfl rfl (zD rfl rfl rfl) ?_ | refine eV rfl rfl (zH rfl rfl) ?_) | (refine at_K ?_; first | refine K_then ?_ | refine K_then_exit ?_ | refine K_in_exit ?_) | (refine at_E ?_; first | refine E_seq ?_ | refine E_region ?_ | refine E_cond_t rfl ?_ | refine E_cond_f rfl ?_ | refine E_block ?_ | refine E_skip ?_ | refine E_ret ?_ | refine E_exit ?_)))
      all_goals (first | (exfalso; omega) | skip)
      exact ret_1 rfl rfl ⟨rfl, hX.trans (hx.trans (hx2.trans xA))⟩
end Go.Proofs.YtjpjpgeeeigbkaaDoor
