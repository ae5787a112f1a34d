/-
  Walks of the laws MatchFirst, MatchLogic.
-/
import Derived.Test.YtnifmbbpfdghmaaGreatDoorMG
set_option linter.all false
namespace Go.Proofs.YtnifmbbpfdghmaaGreatDoor
open Go.RowKit Go.En
attribute [local irreducible] E EL K Val Enters Rt Calls bodyPost Code.wp RQ
set_option maxHeartbeats 8000000 in
set_option maxRecDepth 8000 in
theorem mlaw6_any (d : Dc) (a b c : Qy) (v ua ub uc : Value) (w : World) (hv : DcAt w v d) (hn : Names d) (ha0 : QAt w ua a) (hb0 : QAt w ub b) (hc0 : QAt w uc c) (hT : Tabs w) :
    Calls Tryz.prog 6 #[v, ua, ub, uc] w (Rt fun u w' => u = .bool true ∧ Ext w w') := by
  have hd0 := hv
  obtain ⟨sv, tv, nv, rfl, _, _, _⟩ := hv
  have ha1 := ha0
  obtain ⟨wa, rfl, sa⟩ := ha0
  have oa : ([int a.op, int a.role, str a.text, wa] : List Value).all Value.oneCell' = true := by obtain ⟨a, c, e, _⟩ := sa.sl; rw [e]; rfl
  have hb1 := hb0
  obtain ⟨wb, rfl, sb⟩ := hb0
  have ob : ([int b.op, int b.role, str b.text, wb] : List Value).all Value.oneCell' = true := by obtain ⟨a, c, e, _⟩ := sb.sl; rw [e]; rfl
  have hc1 := hc0
  obtain ⟨wc, rfl, sc⟩ := hc0
  have oc : ([int c.op, int c.role, str c.text, wc] : List Value).all Value.oneCell' = true := by obtain ⟨a, c, e, _⟩ := sc.sl; rw [e]; rfl
  refine calls_E (n := 77) (args := [.agg #[int d.rid, str d.rname, int d.len, int d.day, sv, tv, nv], .agg #[int a.op, int a.role, str a.text, wa], .agg #[int b.op, int b.role, str b.text, wb], .agg #[int c.op, int c.role, str c.text, wc]]) Tryz.func6 rfl Tryz.ntmps6 (by simp) ?_
  refine E_seq ?_
  refine E_region ?_
  refine EL_box rfl rfl rfl rfl (fun bD wD xD hbD rD0 => ?_)
  have rD : Row wD bD 28 [int d.rid, str d.rname, int d.len, int d.day, sv, tv, nv] := rD0
  clear rD0
  refine EL_box rfl rfl rfl rfl (fun ba wa' xa hba ra0 => ?_)
  have ra : Row wa' ba 36 [int a.op, int a.role, str a.text, wa] := ra0
  clear ra0
  replace rD := rD.ext xa
  have hXa := xD.trans xa
  refine EL_box rfl rfl rfl rfl (fun bb wb' xb hbb rb0 => ?_)
  have rb : Row wb' bb 36 [int b.op, int b.role, str b.text, wb] := rb0
  clear rb0
  replace rD := rD.ext xb
  replace ra := ra.ext xb
  have hXb := hXa.trans xb
  refine EL_box rfl rfl rfl rfl (fun bc wc' xc hbc rc0 => ?_)
  have rc : Row wc' bc 36 [int c.op, int c.role, str c.text, wc] := rc0
  clear rc0
  replace rD := rD.ext xc
  replace ra := ra.ext xc
  replace rb := rb.ext xc
  have hXc := hXb.trans xc
  have hX := hXc
  (repeat' ((fail_if_success (refine E_seq (x := (Code.region 3 _ _)) ?_)); first | refine eV rfl rfl (val_loadA rfl rfl rfl rD.at rfl) ?_ | refine eV rfl rfl (val_loadA rfl rfl rfl ra.at rfl) ?_ | refine eV rfl rfl (val_loadA rfl rfl rfl rb.at rfl) ?_ | refine eV rfl rfl (val_loadA rfl rfl rfl rc.at rfl) ?_ | (refine EL_call rfl rfl (entersF rfl rfl en27) (light27_any d a _ _ _ (hd0.ext hX) hn (ha1.ext hX)) (fun vC wCa hC => ?_); obtain ⟨⟨ca, rfl, hla⟩, xC⟩ := hC; replace rD := rD.ext xC; replace ra := ra.ext xC; replace rb := rb.ext xC; replace rc := rc.ext xC; replace hX := hX.trans xC; clear xC; cases ca) | (refine EL_call rfl rfl (entersF rfl rfl en27) (light27_any d b _ _ _ (hd0.ext hX) hn (hb1.ext hX)) (fun vC wCb hC => ?_); obtain ⟨⟨cb, rfl, hlb⟩, xC⟩ := hC; replace rD := rD.ext xC; replace ra := ra.ext xC; replace rb := rb.ext xC; replace rc := rc.ext xC; replace hX := hX.trans xC; clear xC; cases cb) | (refine EL_call rfl rfl (entersF rfl rfl en27) (light27_any d c _ _ _ (hd0.ext hX) hn (hc1.ext hX)) (fun vC wCc hC => ?_); obtain ⟨⟨cc, rfl, hlc⟩, xC⟩ := hC; replace rD := rD.ext xC; replace ra := ra.ext xC; replace rb := rb.ext xC; replace rc := rc.ext xC; replace hX := hX.trans xC; clear xC; cases cc) | (refine EL_call rfl rfl (entersF rfl rfl en19) (mawake_any _ (Tabs.ext hT hX)) (fun vA wA hA => ?_); obtain ⟨rfl, xA⟩ := hA) | (refine at_EL ?_; first | refine eN ?_ | refine eO rfl rfl ?_ | refine eV rfl rfl (zA rfl rfl) ?_ | refine eV rfl rfl (zB rfl rfl) ?_ | refine eV rfl rfl (zC rfl rfl rfl) ?_ | refine eV rfl rfl (zD rfl rfl rfl) ?_ | refine eV rfl rfl (zE rfl rfl) ?_) | (refine at_K ?_; first | refine K_then ?_ | refine K_then_ret ?_) | (refine at_E ?_; first | refine E_seq ?_ | refine E_region ?_ | refine E_cond_t rfl ?_ | refine E_cond_f rfl ?_ | refine E_skip ?_ | refine E_ret ?_)))
  all_goals (first | (exfalso; omega) | skip)
  iterate 3
    · exact ret_1 rfl rfl ⟨rfl, hX.trans xA⟩
  obtain ⟨h, oka⟩ := hla rfl
  have okb := (hlb rfl).2
  have okc := (hlc rfl).2
  refine E_seq ?_
  have ce := eval_any h a oka _ _ _ (hd0.ext hX) (ha1.ext hX) (Tabs.ext hT hX)
  (repeat' (first | refine eV rfl rfl (val_loadA rfl rfl rfl rD.at rfl) ?_ | refine eV rfl rfl (val_loadA rfl rfl rfl ra.at rfl) ?_ | (refine EL_call rfl rfl (entersF rfl rfl en28) ce (fun vX wX hC => ?_); obtain ⟨xC, sX⟩ := hC; replace rD := rD.ext xC; replace ra := ra.ext xC; replace rb := rb.ext xC; replace rc := rc.ext xC; replace hX := hX.trans xC; replace sX := sX.any; obtain ⟨xa, xc, rfl, _, _, _⟩ := sX.sl) | (refine at_EL ?_; first | refine eN ?_ | refine eV rfl rfl (zB rfl rfl) ?_) | (refine at_K ?_; first | refine K_then ?_) | (refine at_E ?_; first | refine E_seq ?_ | refine E_region ?_ | refine E_block ?_)))
  refine E_loop (ι := Int) (fun op => [(4, .pointer (some ⟨bD, 0, none⟩)), (5, .pointer (some ⟨ba, 0, none⟩)), (6, .pointer (some ⟨bb, 0, none⟩)), (7, .pointer (some ⟨bc, 0, none⟩)), (9, .slice xa (evF matchF d a).length xc), (10, int op)])
    (fun op wr => 4 ≤ op ∧ op ≤ 7 ∧ Ext wX wr) (fun op => (7 - op).toNat) 4
    ⟨rfl, rfl, rfl, rfl, rfl, rfl, trivial⟩ ⟨by omega, by omega, Ext.refl _⟩ ?_
  rintro op wr ⟨ho1, ho2, hxr⟩
  replace rD := rD.ext hxr
  replace ra := ra.ext hxr
  replace rb := rb.ext hxr
  replace rc := rc.ext hxr
  replace hX := hX.trans hxr
  replace sX := sX.ext hxr
  by_cases hlt : op ≤ 6
  · (repeat' ((fail_if_success (refine E_seq (x := (Code.region 8 _ _)) ?_)); first | refine yV rfl rfl (fun wq _ xq => val_loadA rfl rfl rfl (rD.ext xq).at rfl) ?_ | refine yV rfl rfl (fun wq _ xq => val_loadA rfl rfl rfl (ra.ext xq).at rfl) ?_ | refine yV rfl rfl (fun wq _ xq => val_loadA rfl rfl rfl (rb.ext xq).at rfl) ?_ | (refine RQ_callR (f := 32) (fun u w' => QAt w' u (twoQ op a b)) (fun δ => #[int op, .agg #[int a.op, int a.role, str a.text, wa], .agg #[int b.op, int b.role, str b.text, wb] ]) rfl rfl (fun _ _ _ _ xe h => QAt.ext h xe) (fun _ _ _ => entersF rfl rfl en32) (fun wq δ xq hd => ?_) ?_; exact calls_mono (two32_any op a b _ _ wq (ha1.ext (hX.trans xq)) (hb1.ext (hX.trans xq))) (fun _ _ hh => ⟨hh.2, hh.1⟩)) | (refine RQ_callR (f := 28) (fun u w' => Sl w' u (evF matchF d (twoQ op a b))) (fun δ => #[.agg #[int d.rid, str d.rname, int d.len, int d.day, sv, tv, nv], δ 42]) rfl rfl (fun _ _ _ _ xe h => SlG.ext h xe) (fun _ _ _ => entersF rfl rfl en28) (fun wq δ xq hd => ?_) ?_; exact calls_mono (eval_any h (twoQ op a b) (ok_two (by omega) (by omega) (by omega) (by omega) oka okb) _ _ wq (hd0.ext (hX.trans xq)) (hd 42 rfl _ rfl) (Tabs.ext hT (hX.trans xq))) (fun _ _ hh => ⟨hh.2.any, hh.1⟩)) | refine RQ_asgS rfl rfl rfl rfl (fun _ => rfl) ?_ | refine RQ_end (fun wq δ xq hR => ?_) | (refine at_EL ?_; first | refine eN ?_ | refine eV rfl rfl (zA rfl rfl) ?_ | (refine at_bin ?_; first | refine eD rfl rfl (zN rfl rfl rfl) (fun hh => ?_) (fun hh => ?_))) | (refine at_K ?_; first | refine K_then ?_ | refine K_then_exit ?_ | refine K_in_exit ?_) | (refine at_E ?_; first | refine E_seq ?_ | refine E_region ?_ | refine E_cond_t rfl ?_ | refine E_cond_f rfl ?_ | refine E_block ?_ | refine E_skip ?_ | refine E_exit ?_ | refine E_dq mixedOk (by kernel_rfl) rfl ?_) | (refine at_RQ ?_; first | refine yV rfl rfl (fun _ _ _ => zA rfl rfl) ?_)))
    all_goals (first | (exfalso; omega) | skip)
    obtain ⟨vL, hvL⟩ : ∃ vL, vL = δ 11 := ⟨_, rfl⟩
    have sL : Sl wq vL (evF matchF d (twoQ op a b)) := by rw [hvL]; exact hR 11 _ rfl
    refine E.sub (M := [(4, .pointer (some ⟨bD, 0, none⟩)), (5, .pointer (some ⟨ba, 0, none⟩)), (6, .pointer (some ⟨bb, 0, none⟩)), (7, .pointer (some ⟨bc, 0, none⟩)), (9, .slice xa (evF matchF d a).length xc), (10, int op), (11, vL)]) ⟨rfl, rfl, rfl, rfl, rfl, rfl, by rw [hvL]; rfl, trivial⟩ ?_
    clear hvL hR
    have hxq := hxr.trans xq
    replace rD := rD.ext xq
    replace ra := ra.ext xq
    replace rb := rb.ext xq
    replace rc := rc.ext xq
    replace hX := hX.trans xq
    replace sX := sX.ext xq
    clear xq
    (repeat' ((fail_if_success (refine E_seq (x := (Code.region 9 _ _)) ?_)); first | refine yV rfl rfl (fun wq _ xq => val_loadA rfl rfl rfl (rD.ext xq).at rfl) ?_ | refine yV rfl rfl (fun wq _ xq => val_loadA rfl rfl rfl (ra.ext xq).at rfl) ?_ | refine yV rfl rfl (fun wq _ xq => val_loadA rfl rfl rfl (rb.ext xq).at rfl) ?_ | refine yV rfl rfl (fun wq _ xq => val_loadA rfl rfl rfl (rc.ext xq).at rfl) ?_ | (refine RQ_callR (f := 32) (fun u w' => QAt w' u (twoQ 2 c a)) (fun δ => #[int 2, .agg #[int c.op, int c.role, str c.text, wc], .agg #[int a.op, int a.role, str a.text, wa] ]) rfl rfl (fun _ _ _ _ xe h => QAt.ext h xe) (fun _ _ _ => entersF rfl rfl en32) (fun wq δ xq hd => ?_) ?_; exact calls_mono (two32_any 2 c a _ _ wq (hc1.ext (hX.trans xq)) (ha1.ext (hX.trans xq))) (fun _ _ hh => ⟨hh.2, hh.1⟩)) | (refine RQ_callR (f := 32) (fun u w' => QAt w' u (twoQ 2 b c)) (fun δ => #[int 2, .agg #[int b.op, int b.role, str b.text, wb], .agg #[int c.op, int c.role, str c.text, wc] ]) rfl rfl (fun _ _ _ _ xe h => QAt.ext h xe) (fun _ _ _ => entersF rfl rfl en32) (fun wq δ xq hd => ?_) ?_; exact calls_mono (two32_any 2 b c _ _ wq (hb1.ext (hX.trans xq)) (hc1.ext (hX.trans xq))) (fun _ _ hh => ⟨hh.2, hh.1⟩)) | (refine RQ_callR (f := 32) (fun u w' => QAt w' u (twoQ op (twoQ 2 c a) (twoQ 2 b c))) (fun δ => #[int op, δ 48, δ 51]) rfl rfl (fun _ _ _ _ xe h => QAt.ext h xe) (fun _ _ _ => entersF rfl rfl en32) (fun wq δ xq hd => ?_) ?_; exact calls_mono (two32_any op (twoQ 2 c a) (twoQ 2 b c) _ _ wq (hd 48 rfl _ rfl) (hd 51 rfl _ rfl)) (fun _ _ hh => ⟨hh.2, hh.1⟩)) | (refine RQ_callR (f := 28) (fun u w' => Sl w' u (evF matchF d (twoQ op (twoQ 2 c a) (twoQ 2 b c)))) (fun δ => #[.agg #[int d.rid, str d.rname, int d.len, int d.day, sv, tv, nv], δ 52]) rfl rfl (fun _ _ _ _ xe h => SlG.ext h xe) (fun _ _ _ => entersF rfl rfl en28) (fun wq δ xq hd => ?_) ?_; exact calls_mono (eval_any h (twoQ op (twoQ 2 c a) (twoQ 2 b c)) (ok_two (by omega) (by omega) (by omega) (by omega) (ok_two (by omega) (by omega) (by omega) (by omega) okc oka) (ok_two (by omega) (by omega) (by omega) (by omega) okb okc)) _ _ wq (hd0.ext (hX.trans xq)) (hd 52 rfl _ rfl) (Tabs.ext hT (hX.trans xq))) (fun _ _ hh => ⟨hh.2.any, hh.1⟩)) | refine RQ_asgS rfl rfl rfl rfl (fun _ => rfl) ?_ | refine RQ_end (fun wq δ xq hR => ?_) | (refine at_EL ?_; first | refine eN ?_) | (refine at_K ?_; first | refine K_then ?_) | (refine at_E ?_; first | refine E_seq ?_ | refine E_dq mixedOk (by kernel_rfl) rfl ?_) | (refine at_RQ ?_; first | refine yV rfl rfl (fun _ _ _ => zA rfl rfl) ?_)))
    all_goals (first | (exfalso; omega) | skip)
    obtain ⟨vM, hvM⟩ : ∃ vM, vM = δ 12 := ⟨_, rfl⟩
    have sM : Sl wq vM (evF matchF d (twoQ op (twoQ 2 c a) (twoQ 2 b c))) := by rw [hvM]; exact hR 12 _ rfl
    refine E.sub (M := [(4, .pointer (some ⟨bD, 0, none⟩)), (5, .pointer (some ⟨ba, 0, none⟩)), (6, .pointer (some ⟨bb, 0, none⟩)), (7, .pointer (some ⟨bc, 0, none⟩)), (9, .slice xa (evF matchF d a).length xc), (10, int op), (11, vL), (12, vM)]) ⟨rfl, rfl, rfl, rfl, rfl, rfl, rfl, by rw [hvM]; rfl, trivial⟩ ?_
    clear hvM hR
    replace hxq := hxq.trans xq
    replace hX := hX.trans xq
    replace sX := sX.ext xq
    replace sL := sL.ext xq
    clear xq
    have sL0 := sL
    obtain ⟨la, lc, rfl, hlc2, _, hlp⟩ := sL.sl
    have hLl := evF_len h matchF (twoQ op a b)
    (repeat' (first | (refine at_EL ?_; first | refine eN ?_ | refine eV rfl rfl (zB rfl rfl) ?_) | (refine at_K ?_; first | refine K_then ?_) | (refine at_E ?_; first | refine E_seq ?_ | refine E_region ?_ | refine E_block ?_)))
    all_goals (first | (exfalso; omega) | skip)
    refine E_loop (ι := Nat) (fun i => [(4, .pointer (some ⟨bD, 0, none⟩)), (5, .pointer (some ⟨ba, 0, none⟩)), (6, .pointer (some ⟨bb, 0, none⟩)), (7, .pointer (some ⟨bc, 0, none⟩)), (9, .slice xa (evF matchF d a).length xc), (10, int op), (11, .slice la (evF matchF d (twoQ op a b)).length lc), (12, vM), (13, int i)])
      (fun i w2 => i ≤ (evF matchF d (twoQ op a b)).length ∧ Ext wq w2) (fun i => (evF matchF d (twoQ op a b)).length - i) 0
      ⟨rfl, rfl, rfl, rfl, rfl, rfl, rfl, rfl, rfl, trivial⟩ ⟨Nat.zero_le _, Ext.refl _⟩ ?_
    rintro i w2 ⟨hi, hx2⟩
    by_cases hlti : i < (evF matchF d (twoQ op a b)).length
    · obtain ⟨b0, off, rfl⟩ := hlp (by omega)
      obtain ⟨x, hx1⟩ : ∃ x, (evF matchF d (twoQ op a b))[i]? = some x := ⟨_, List.getElem?_eq_getElem hlti⟩
      obtain ⟨hm1, hm2⟩ := first_op h a b c (by omega) (List.mem_of_getElem? hx1)
      have hcx := int_elem (sL0.ext hx2) hx1
      have c1 := r1has_any (evF matchF d a) x _ w2 (sX.ext hx2)
      rw [decide_eq_true hm1] at c1
      have c2 : ∀ wz, Ext w2 wz → Calls Tryz.prog 33 #[vM, int x] wz (Rt fun u w' => u = .bool true ∧ Ext wz w') := fun wz xz => by
        have := r1has_any (evF matchF d (twoQ op (twoQ 2 c a) (twoQ 2 b c))) x vM wz ((sM.ext hx2).ext xz)
        rw [decide_eq_true hm2] at this
        exact this
      (repeat' (first | refine eV rfl rfl (val_indexAddr (m := i) rfl rfl rfl rfl hlti) ?_ | refine eV rfl rfl (val_load rfl rfl rfl hcx) ?_ | (refine EL_call rfl rfl (entersF rfl rfl en33) c1 (fun vC wC hC => ?_); obtain ⟨rfl, xC⟩ := hC; replace hcx := xC.cell hcx) | (refine EL_call rfl rfl (entersF rfl rfl en33) (c2 _ xC) (fun vE wE hE => ?_); obtain ⟨rfl, xE⟩ := hE) | (refine at_EL ?_; first | refine eN ?_ | refine eV rfl rfl (zA rfl rfl) ?_ | refine eV rfl rfl (zB rfl rfl) ?_ | (refine at_bin ?_; first | refine eD rfl rfl (zL rfl rfl rfl) (fun hh => ?_) (fun hh => ?_) | refine eV rfl rfl (zU rfl rfl rfl (by omega) (by omega)) ?_) | (refine at_call ?_; first | refine eV rfl rfl (zK rfl rfl) ?_) | refine eV rfl rfl (zD rfl rfl rfl) ?_ | refine eV rfl rfl (zE rfl rfl) ?_) | (refine at_K ?_; first | refine K_then ?_ | refine K_in ?_ | refine K_then_exit ?_ | refine K_in_exit ?_) | (refine at_E ?_; first | refine E_seq ?_ | refine E_region ?_ | refine E_cond_t rfl ?_ | refine E_cond_f rfl ?_ | refine E_block ?_ | refine E_skip ?_ | refine E_exit ?_)))
      all_goals (first | (exfalso; omega) | skip)
      exact K_rnd (i + 1) ⟨rfl, rfl, rfl, rfl, rfl, rfl, rfl, rfl, rfl, trivial⟩ ⟨by omega, hx2.trans (xC.trans xE)⟩ (by omega)
    · obtain rfl : i = (evF matchF d (twoQ op a b)).length := by omega
      (repeat' (first | (refine at_EL ?_; first | refine eN ?_ | refine eV rfl rfl (zA rfl rfl) ?_ | refine eV rfl rfl (zB rfl rfl) ?_ | (refine at_bin ?_; first | refine eD rfl rfl (zL rfl rfl rfl) (fun hh => ?_) (fun hh => ?_) | refine eV rfl rfl (zU rfl rfl rfl (by omega) (by omega)) ?_) | (refine at_call ?_; first | refine eV rfl rfl (zK rfl rfl) ?_)) | (refine at_K ?_; first | refine K_then ?_ | refine K_in ?_ | refine K_then_exit ?_ | refine K_in_exit ?_) | (refine at_E ?_; first | refine E_seq ?_ | refine E_region ?_ | refine E_cond_t rfl ?_ | refine E_cond_f rfl ?_ | refine E_block ?_ | refine E_skip ?_ | refine E_exit ?_)))
      all_goals (first | (exfalso; omega) | skip)
      exact K_rnd (op + 1) ⟨rfl, rfl, rfl, rfl, rfl, rfl, trivial⟩ ⟨by omega, by omega, hxq.trans hx2⟩ (by omega)
  · (repeat' (first | (refine EL_call rfl rfl (entersF rfl rfl en19) (mawake_any _ (Tabs.ext hT hX)) (fun vA wA hA => ?_); obtain ⟨rfl, xA⟩ := hA) | (refine at_EL ?_; first | refine eN ?_ | refine eV rfl rfl (zA rfl rfl) ?_ | refine eV rfl rfl (zB rfl rfl) ?_ | (refine at_bin ?_; first | refine eD rfl rfl (zN rfl rfl rfl) (fun hh => ?_) (fun hh => ?_))) | (refine at_K ?_; first | refine K_then ?_ | refine K_then_exit ?_ | refine K_in_exit ?_) | (refine at_E ?_; first | refine E_seq ?_ | refine E_region ?_ | refine E_cond_t rfl ?_ | refine E_cond_f rfl ?_ | refine E_block ?_ | refine E_skip ?_ | refine E_ret ?_ | refine E_exit ?_)))
    all_goals (first | (exfalso; omega) | skip)
    exact ret_1 rfl rfl ⟨rfl, hX.trans xA⟩
end Go.Proofs.YtnifmbbpfdghmaaGreatDoor
