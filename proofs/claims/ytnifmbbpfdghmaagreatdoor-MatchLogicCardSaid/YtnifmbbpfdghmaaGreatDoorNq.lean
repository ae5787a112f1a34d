/-
  Walk of the law MatchLogic.
-/
import Derived.Test.YtnifmbbpfdghmaaGreatDoorMG
set_option linter.all false
namespace Go.Proofs.YtnifmbbpfdghmaaGreatDoor
open Go.RowKit Go.En
attribute [local irreducible] E EL K Val Enters Rt Calls bodyPost Code.wp RQ
set_option maxHeartbeats 8000000 in
set_option maxRecDepth 8000 in
theorem mlaw7_any (d : Dc) (a b : Qy) (role : Int) (v ua ub : Value) (w : World) (hv : DcAt w v d) (hn : Names d) (ha0 : QAt w ua a) (hb0 : QAt w ub b) (hT : Tabs w) :
    Calls Tryz.prog 7 #[v, ua, ub, int role] w (Rt fun u w' => u = .bool true ∧ Ext w w') := by
  have hd0 := hv
  obtain ⟨sv, tv, nv, rfl, _, _, _⟩ := hv
  have ha1 := ha0
  obtain ⟨wa, rfl, sa⟩ := ha0
  have oa : ([int a.op, int a.role, str a.text, wa] : List Value).all Value.oneCell' = true := by obtain ⟨a, c, e, _⟩ := sa.sl; rw [e]; rfl
  have hb1 := hb0
  obtain ⟨wb, rfl, sb⟩ := hb0
  have ob : ([int b.op, int b.role, str b.text, wb] : List Value).all Value.oneCell' = true := by obtain ⟨a, c, e, _⟩ := sb.sl; rw [e]; rfl
  refine calls_E (n := 101) (args := [.agg #[int d.rid, str d.rname, int d.len, int d.day, sv, tv, nv], .agg #[int a.op, int a.role, str a.text, wa], .agg #[int b.op, int b.role, str b.text, wb], int role]) Tryz.func7 rfl Tryz.ntmps7 (by simp) ?_
  refine E_seq ?_
  refine E_region ?_
  refine EL_box rfl rfl rfl rfl (fun bD wD xD hbD rD0 => ?_)
  have rD : Row wD bD 28 [int d.rid, str d.rname, int d.len, int d.day, sv, tv, nv] := rD0
  clear rD0
  refine EL_box rfl rfl rfl rfl (fun ba wa' xa hba ra0 => ?_)
  have ra : Row wa' ba 36 [int a.op, int a.role, str a.text, wa] := ra0
  clear ra0
  replace rD := rD.ext xa
  have hXa := xD.trans xa
  refine EL_box rfl rfl rfl rfl (fun bb wb' xb hbb rb0 => ?_)
  have rb : Row wb' bb 36 [int b.op, int b.role, str b.text, wb] := rb0
  clear rb0
  replace rD := rD.ext xb
  replace ra := ra.ext xb
  have hXb := hXa.trans xb
  have hX := hXb
  (repeat' ((fail_if_success (refine E_seq (x := (Code.region 3 _ _)) ?_)); first | refine eV rfl rfl (val_loadA rfl rfl rfl rD.at rfl) ?_ | refine eV rfl rfl (val_loadA rfl rfl rfl ra.at rfl) ?_ | refine eV rfl rfl (val_loadA rfl rfl rfl rb.at rfl) ?_ | (refine EL_call rfl rfl (entersF rfl rfl en27) (light27_any d a _ _ _ (hd0.ext hX) hn (ha1.ext hX)) (fun vC wCa hC => ?_); obtain ⟨⟨ca, rfl, hla⟩, xC⟩ := hC; replace rD := rD.ext xC; replace ra := ra.ext xC; replace rb := rb.ext xC; replace hX := hX.trans xC; clear xC; cases ca) | (refine EL_call rfl rfl (entersF rfl rfl en27) (light27_any d b _ _ _ (hd0.ext hX) hn (hb1.ext hX)) (fun vC wCb hC => ?_); obtain ⟨⟨cb, rfl, hlb⟩, xC⟩ := hC; replace rD := rD.ext xC; replace ra := ra.ext xC; replace rb := rb.ext xC; replace hX := hX.trans xC; clear xC; cases cb) | (refine EL_call rfl rfl (entersF rfl rfl en19) (mawake_any _ (Tabs.ext hT hX)) (fun vA wA hA => ?_); obtain ⟨rfl, xA⟩ := hA) | (refine at_EL ?_; first | refine eN ?_ | refine eO rfl rfl ?_ | refine eV rfl rfl (zA rfl rfl) ?_ | refine eV rfl rfl (zB rfl rfl) ?_ | (refine at_bin ?_; first | refine eD rfl rfl (zL rfl rfl rfl) (fun hh => ?_) (fun hh => ?_) | refine eD rfl rfl (zO rfl rfl rfl) (fun hh => ?_) (fun hh => ?_)) | refine eV rfl rfl (zC rfl rfl rfl) ?_ | refine eV rfl rfl (zD rfl rfl rfl) ?_ | refine eV rfl rfl (zE rfl rfl) ?_) | (refine at_K ?_; first | refine K_then ?_ | refine K_then_ret ?_) | (refine at_E ?_; first | refine E_seq ?_ | refine E_region ?_ | refine E_cond_t rfl ?_ | refine E_cond_f rfl ?_ | refine E_skip ?_ | refine E_ret ?_)))
  all_goals (first | (exfalso; omega) | skip)
  all_goals first
    | exact ret_1 rfl rfl ⟨rfl, hX.trans xA⟩
    | skip
  obtain ⟨h, oka⟩ := hla rfl
  have okb := (hlb rfl).2
  refine E_seq ?_
  have ce := eval_any h a oka _ _ _ (hd0.ext hX) (ha1.ext hX) (Tabs.ext hT hX)
  (repeat' (first | refine eV rfl rfl (val_loadA rfl rfl rfl rD.at rfl) ?_ | refine eV rfl rfl (val_loadA rfl rfl rfl ra.at rfl) ?_ | (refine EL_call rfl rfl (entersF rfl rfl en28) ce (fun vX wX hC => ?_); obtain ⟨xC, sX⟩ := hC; replace rD := rD.ext xC; replace ra := ra.ext xC; replace rb := rb.ext xC; replace hX := hX.trans xC; replace sX := sX.any; obtain ⟨xa, xc, rfl, _, _, _⟩ := sX.sl) | (refine at_EL ?_; first | refine eN ?_ | refine eV rfl rfl (zB rfl rfl) ?_) | (refine at_K ?_; first | refine K_then ?_) | (refine at_E ?_; first | refine E_seq ?_ | refine E_region ?_)))
  refine E.sub (M := [(3, int role), (4, .pointer (some ⟨bD, 0, none⟩)), (5, .pointer (some ⟨ba, 0, none⟩)), (6, .pointer (some ⟨bb, 0, none⟩)), (9, .slice xa (evF matchF d a).length xc)]) ⟨rfl, rfl, rfl, rfl, rfl, trivial⟩ ?_
  (repeat' ((fail_if_success (refine E_seq (x := (Code.region 5 _ _)) ?_)); first | refine yV rfl rfl (fun wq _ xq => val_loadA rfl rfl rfl (rD.ext xq).at rfl) ?_ | refine RQ_call rfl rfl (fun _ _ _ => entersF rfl rfl en34) (fun wq xq => text34_any role starT wq) ?_ | (refine RQ_callR (f := 28) (fun u w' => Sl w' u (evF matchF d (textQ role starT))) (fun δ => #[.agg #[int d.rid, str d.rname, int d.len, int d.day, sv, tv, nv], textV role starT]) rfl rfl (fun _ _ _ _ xe h => SlG.ext h xe) (fun _ _ _ => entersF rfl rfl en28) (fun wq δ xq hd => ?_) ?_; exact calls_mono (eval_any h (textQ role starT) (ok_text _ _) _ _ wq (hd0.ext (hX.trans xq)) (textV_at wq role starT) (Tabs.ext hT (hX.trans xq))) (fun _ _ hh => ⟨hh.2.any, hh.1⟩)) | refine RQ_asgS rfl rfl rfl rfl (fun _ => rfl) ?_ | refine RQ_end (fun wq δ xq hR => ?_) | (refine at_EL ?_; first | refine eN ?_) | (refine at_K ?_; first | refine K_then ?_) | (refine at_E ?_; first | refine E_dq mixedOk (by kernel_rfl) rfl ?_) | (refine at_RQ ?_; first | refine yV rfl rfl (fun _ _ _ => zA rfl rfl) ?_)))
  all_goals (first | (exfalso; omega) | skip)
  obtain ⟨vN, hvN⟩ : ∃ vN, vN = δ 10 := ⟨_, rfl⟩
  have sN : Sl wq vN (evF matchF d (textQ role starT)) := by rw [hvN]; exact hR 10 _ rfl
  refine E.sub (M := [(3, int role), (4, .pointer (some ⟨bD, 0, none⟩)), (5, .pointer (some ⟨ba, 0, none⟩)), (6, .pointer (some ⟨bb, 0, none⟩)), (9, .slice xa (evF matchF d a).length xc), (10, vN)]) ⟨rfl, rfl, rfl, rfl, rfl, by rw [hvN]; rfl, trivial⟩ ?_
  clear hvN hR
  have hxq := xq
  replace rD := rD.ext xq
  replace ra := ra.ext xq
  replace rb := rb.ext xq
  replace hX := hX.trans xq
  replace sX := sX.ext xq
  clear xq hxq
  (repeat' ((fail_if_success (refine E_seq (x := (Code.region 6 _ _)) ?_)); first | refine yV rfl rfl (fun wq _ xq => val_loadA rfl rfl rfl (rD.ext xq).at rfl) ?_ | refine yV rfl rfl (fun wq _ xq => val_loadA rfl rfl rfl (ra.ext xq).at rfl) ?_ | (refine RQ_callR (f := 35) (fun u w' => QAt w' u (notQ role a)) (fun δ => #[int role, .agg #[int a.op, int a.role, str a.text, wa] ]) rfl rfl (fun _ _ _ _ xe h => QAt.ext h xe) (fun _ _ _ => entersF rfl rfl en35) (fun wq δ xq hd => ?_) ?_; exact calls_mono (not35_any role (a) _ wq (ha1.ext (hX.trans xq))) (fun _ _ hh => ⟨hh.2, hh.1⟩)) | (refine RQ_callR (f := 28) (fun u w' => Sl w' u (evF matchF d (notQ role a))) (fun δ => #[.agg #[int d.rid, str d.rname, int d.len, int d.day, sv, tv, nv], δ 41]) rfl rfl (fun _ _ _ _ xe h => SlG.ext h xe) (fun _ _ _ => entersF rfl rfl en28) (fun wq δ xq hd => ?_) ?_; exact calls_mono (eval_any h (notQ role a) (ok_not oka) _ _ wq (hd0.ext (hX.trans xq)) (hd 41 rfl _ rfl) (Tabs.ext hT (hX.trans xq))) (fun _ _ hh => ⟨hh.2.any, hh.1⟩)) | refine RQ_asgS rfl rfl rfl rfl (fun _ => rfl) ?_ | refine RQ_end (fun wq δ xq hR => ?_) | (refine at_EL ?_; first | refine eN ?_) | (refine at_K ?_; first | refine K_then ?_) | (refine at_E ?_; first | refine E_seq ?_ | refine E_dq mixedOk (by kernel_rfl) rfl ?_) | (refine at_RQ ?_; first | refine yV rfl rfl (fun _ _ _ => zA rfl rfl) ?_)))
  all_goals (first | (exfalso; omega) | skip)
  obtain ⟨vR, hvR⟩ : ∃ vR, vR = δ 11 := ⟨_, rfl⟩
  have sR : Sl wq vR (evF matchF d (notQ role a)) := by rw [hvR]; exact hR 11 _ rfl
  refine E.sub (M := [(3, int role), (4, .pointer (some ⟨bD, 0, none⟩)), (5, .pointer (some ⟨ba, 0, none⟩)), (6, .pointer (some ⟨bb, 0, none⟩)), (9, .slice xa (evF matchF d a).length xc), (10, vN), (11, vR)]) ⟨rfl, rfl, rfl, rfl, rfl, rfl, by rw [hvR]; rfl, trivial⟩ ?_
  clear hvR hR
  have hxq := xq
  replace rD := rD.ext xq
  replace ra := ra.ext xq
  replace rb := rb.ext xq
  replace hX := hX.trans xq
  replace sX := sX.ext xq
  replace sN := sN.ext xq
  clear xq hxq
  have hnl := evF_len h matchF (textQ role starT)
  have hal := evF_len h matchF a
  (repeat' ((fail_if_success (refine E_seq (x := (Code.region 8 _ _)) ?_)); first | refine yV rfl rfl (fun wq _ xq => val_loadA rfl rfl rfl (rD.ext xq).at rfl) ?_ | refine yV rfl rfl (fun wq _ xq => val_loadA rfl rfl rfl (ra.ext xq).at rfl) ?_ | (refine RQ_callR (f := 32) (fun u w' => QAt w' u (twoQ 1 a a)) (fun δ => #[int 1, .agg #[int a.op, int a.role, str a.text, wa], .agg #[int a.op, int a.role, str a.text, wa] ]) rfl rfl (fun _ _ _ _ xe h => QAt.ext h xe) (fun _ _ _ => entersF rfl rfl en32) (fun wq δ xq hd => ?_) ?_; exact calls_mono (two32_any 1 (a) (a) _ _ wq (ha1.ext (hX.trans xq)) (ha1.ext (hX.trans xq))) (fun _ _ hh => ⟨hh.2, hh.1⟩)) | (refine RQ_callR (f := 28) (fun u w' => Sl w' u (evF matchF d (twoQ 1 a a))) (fun δ => #[.agg #[int d.rid, str d.rname, int d.len, int d.day, sv, tv, nv], δ 46]) rfl rfl (fun _ _ _ _ xe h => SlG.ext h xe) (fun _ _ _ => entersF rfl rfl en28) (fun wq δ xq hd => ?_) ?_; exact calls_mono (eval_any h (twoQ 1 a a) (ok_two (by omega) (by omega) (by omega) (by omega) oka oka) _ _ wq (hd0.ext (hX.trans xq)) (hd 46 rfl _ rfl) (Tabs.ext hT (hX.trans xq))) (fun _ _ hh => ⟨hh.2.any, hh.1⟩)) | (refine RQ_callV (f := 20) (v := .bool true) (fun δ => #[δ 47, .slice xa (evF matchF d a).length xc]) rfl rfl (fun _ _ _ => entersF rfl rfl en20) (fun wq δ xq hd => ?_) ?_; (have := r1same_any (evF matchF d (twoQ 1 a a)) (evF matchF d a) _ _ wq (hd 47 rfl _ rfl) (sX.ext xq); rw [decide_eq_true (and_self a)] at this; exact this)) | (refine RQ_callR (f := 32) (fun u w' => QAt w' u (twoQ 2 a a)) (fun δ => #[int 2, .agg #[int a.op, int a.role, str a.text, wa], .agg #[int a.op, int a.role, str a.text, wa] ]) rfl rfl (fun _ _ _ _ xe h => QAt.ext h xe) (fun _ _ _ => entersF rfl rfl en32) (fun wq δ xq hd => ?_) ?_; exact calls_mono (two32_any 2 (a) (a) _ _ wq (ha1.ext (hX.trans xq)) (ha1.ext (hX.trans xq))) (fun _ _ hh => ⟨hh.2, hh.1⟩)) | (refine RQ_callR (f := 28) (fun u w' => Sl w' u (evF matchF d (twoQ 2 a a))) (fun δ => #[.agg #[int d.rid, str d.rname, int d.len, int d.day, sv, tv, nv], δ 55]) rfl rfl (fun _ _ _ _ xe h => SlG.ext h xe) (fun _ _ _ => entersF rfl rfl en28) (fun wq δ xq hd => ?_) ?_; exact calls_mono (eval_any h (twoQ 2 a a) (ok_two (by omega) (by omega) (by omega) (by omega) oka oka) _ _ wq (hd0.ext (hX.trans xq)) (hd 55 rfl _ rfl) (Tabs.ext hT (hX.trans xq))) (fun _ _ hh => ⟨hh.2.any, hh.1⟩)) | (refine RQ_callV (f := 20) (v := .bool true) (fun δ => #[δ 56, .slice xa (evF matchF d a).length xc]) rfl rfl (fun _ _ _ => entersF rfl rfl en20) (fun wq δ xq hd => ?_) ?_; (have := r1same_any (evF matchF d (twoQ 2 a a)) (evF matchF d a) _ _ wq (hd 56 rfl _ rfl) (sX.ext xq); rw [decide_eq_true (or_self a)] at this; exact this)) | (refine RQ_callR (f := 36) (fun u w' => Sl w' u (minusS (evF matchF d (textQ role starT)) (evF matchF d a))) (fun δ => #[vN, .slice xa (evF matchF d a).length xc]) rfl rfl (fun _ _ _ _ xe h => SlG.ext h xe) (fun _ _ _ => entersF rfl rfl en36) (fun wq δ xq hd => ?_) ?_; exact calls_mono (rminus_any _ _ _ _ wq (sN.ext xq) (sX.ext xq) (by omega)) (fun _ _ hh => ⟨hh.2, hh.1⟩)) | (refine RQ_callV (f := 20) (v := .bool true) (fun δ => #[vR, δ 65]) rfl rfl (fun _ _ _ => entersF rfl rfl en20) (fun wq δ xq hd => ?_) ?_; (have := r1same_any (evF matchF d (notQ role a)) (minusS (evF matchF d (textQ role starT)) (evF matchF d a)) _ _ wq (sR.ext xq) (hd 65 rfl _ rfl); rw [decide_eq_true (not_all h role a)] at this; exact this)) | refine RQ_end (fun wq δ xq hR => ?_) | (refine at_EL ?_; first | refine eN ?_) | (refine at_K ?_; first | refine K_then ?_) | (refine at_E ?_; first | refine E_seq ?_ | refine E_cond_f rfl ?_ | refine E_skip ?_ | refine E_dq mixedOk (by kernel_rfl) rfl ?_) | (refine at_RQ ?_; first | refine yV rfl rfl (fun _ _ _ => zA rfl rfl) ?_ | refine yV rfl rfl (fun _ _ _ => zD rfl rfl rfl) ?_ | refine yV rfl rfl (fun _ _ _ => zE rfl rfl) ?_)))
  all_goals (first | (exfalso; omega) | skip)
  refine E.sub (M := [(3, int role), (4, .pointer (some ⟨bD, 0, none⟩)), (5, .pointer (some ⟨ba, 0, none⟩)), (6, .pointer (some ⟨bb, 0, none⟩)), (9, .slice xa (evF matchF d a).length xc), (10, vN), (11, vR)]) ⟨rfl, rfl, rfl, rfl, rfl, rfl, rfl, trivial⟩ ?_
  clear hR
  have hxq := xq
  replace rD := rD.ext xq
  replace ra := ra.ext xq
  replace rb := rb.ext xq
  replace hX := hX.trans xq
  replace sX := sX.ext xq
  replace sN := sN.ext xq
  replace sR := sR.ext xq
  clear xq hxq
  (repeat' ((fail_if_success (refine E_seq (x := (Code.region 10 _ _)) ?_)); first | refine yV rfl rfl (fun wq _ xq => val_loadA rfl rfl rfl (rD.ext xq).at rfl) ?_ | refine yV rfl rfl (fun wq _ xq => val_loadA rfl rfl rfl (ra.ext xq).at rfl) ?_ | (refine RQ_callR (f := 35) (fun u w' => QAt w' u (notQ role a)) (fun δ => #[int role, .agg #[int a.op, int a.role, str a.text, wa] ]) rfl rfl (fun _ _ _ _ xe h => QAt.ext h xe) (fun _ _ _ => entersF rfl rfl en35) (fun wq δ xq hd => ?_) ?_; exact calls_mono (not35_any role (a) _ wq (ha1.ext (hX.trans xq))) (fun _ _ hh => ⟨hh.2, hh.1⟩)) | (refine RQ_callR (f := 35) (fun u w' => QAt w' u (notQ role (notQ role a))) (fun δ => #[int role, δ 73 ]) rfl rfl (fun _ _ _ _ xe h => QAt.ext h xe) (fun _ _ _ => entersF rfl rfl en35) (fun wq δ xq hd => ?_) ?_; exact calls_mono (not35_any role (notQ role a) _ wq (hd 73 rfl _ rfl)) (fun _ _ hh => ⟨hh.2, hh.1⟩)) | (refine RQ_callR (f := 28) (fun u w' => Sl w' u (evF matchF d (notQ role (notQ role a)))) (fun δ => #[.agg #[int d.rid, str d.rname, int d.len, int d.day, sv, tv, nv], δ 74]) rfl rfl (fun _ _ _ _ xe h => SlG.ext h xe) (fun _ _ _ => entersF rfl rfl en28) (fun wq δ xq hd => ?_) ?_; exact calls_mono (eval_any h (notQ role (notQ role a)) (ok_not (ok_not oka)) _ _ wq (hd0.ext (hX.trans xq)) (hd 74 rfl _ rfl) (Tabs.ext hT (hX.trans xq))) (fun _ _ hh => ⟨hh.2.any, hh.1⟩)) | (refine RQ_callR (f := 37) (fun u w' => Sl w' u (bothF (evF matchF d (textQ role starT)) (evF matchF d a))) (fun δ => #[vN, .slice xa (evF matchF d a).length xc]) rfl rfl (fun _ _ _ _ xe h => SlG.ext h xe) (fun _ _ _ => entersF rfl rfl en37) (fun wq δ xq hd => ?_) ?_; exact calls_mono (rboth_any _ _ _ _ wq (sN.ext xq) (sX.ext xq) (by omega)) (fun _ _ hh => ⟨hh.2, hh.1⟩)) | (refine RQ_callV (f := 20) (v := .bool true) (fun δ => #[δ 75, δ 78]) rfl rfl (fun _ _ _ => entersF rfl rfl en20) (fun wq δ xq hd => ?_) ?_; (have := r1same_any (evF matchF d (notQ role (notQ role a))) (bothF (evF matchF d (textQ role starT)) (evF matchF d a)) _ _ wq (hd 75 rfl _ rfl) (hd 78 rfl _ rfl); rw [decide_eq_true (not_not h role a)] at this; exact this)) | refine RQ_end (fun wq δ xq hR => ?_) | (refine at_EL ?_; first | refine eN ?_) | (refine at_K ?_; first | refine K_then ?_) | (refine at_E ?_; first | refine E_seq ?_ | refine E_cond_f rfl ?_ | refine E_skip ?_ | refine E_dq mixedOk (by kernel_rfl) rfl ?_) | (refine at_RQ ?_; first | refine yV rfl rfl (fun _ _ _ => zA rfl rfl) ?_ | refine yV rfl rfl (fun _ _ _ => zE rfl rfl) ?_)))
  all_goals (first | (exfalso; omega) | skip)
  refine E.sub (M := [(3, int role), (4, .pointer (some ⟨bD, 0, none⟩)), (5, .pointer (some ⟨ba, 0, none⟩)), (6, .pointer (some ⟨bb, 0, none⟩)), (9, .slice xa (evF matchF d a).length xc), (10, vN), (11, vR)]) ⟨rfl, rfl, rfl, rfl, rfl, rfl, rfl, trivial⟩ ?_
  clear hR
  have hxq := xq
  replace rD := rD.ext xq
  replace ra := ra.ext xq
  replace rb := rb.ext xq
  replace hX := hX.trans xq
  replace sX := sX.ext xq
  clear xq hxq
  (repeat' (first | refine yV rfl rfl (fun wq _ xq => val_loadA rfl rfl rfl (rD.ext xq).at rfl) ?_ | refine yV rfl rfl (fun wq _ xq => val_loadA rfl rfl rfl (ra.ext xq).at rfl) ?_ | refine yV rfl rfl (fun wq _ xq => val_loadA rfl rfl rfl (rb.ext xq).at rfl) ?_ | (refine RQ_callR (f := 32) (fun u w' => QAt w' u (twoQ 2 a b)) (fun δ => #[int 2, .agg #[int a.op, int a.role, str a.text, wa], .agg #[int b.op, int b.role, str b.text, wb] ]) rfl rfl (fun _ _ _ _ xe h => QAt.ext h xe) (fun _ _ _ => entersF rfl rfl en32) (fun wq δ xq hd => ?_) ?_; exact calls_mono (two32_any 2 (a) (b) _ _ wq (ha1.ext (hX.trans xq)) (hb1.ext (hX.trans xq))) (fun _ _ hh => ⟨hh.2, hh.1⟩)) | (refine RQ_callR (f := 35) (fun u w' => QAt w' u (notQ role (twoQ 2 a b))) (fun δ => #[int role, δ 85 ]) rfl rfl (fun _ _ _ _ xe h => QAt.ext h xe) (fun _ _ _ => entersF rfl rfl en35) (fun wq δ xq hd => ?_) ?_; exact calls_mono (not35_any role (twoQ 2 a b) _ wq (hd 85 rfl _ rfl)) (fun _ _ hh => ⟨hh.2, hh.1⟩)) | (refine RQ_callR (f := 28) (fun u w' => Sl w' u (evF matchF d (notQ role (twoQ 2 a b)))) (fun δ => #[.agg #[int d.rid, str d.rname, int d.len, int d.day, sv, tv, nv], δ 86]) rfl rfl (fun _ _ _ _ xe h => SlG.ext h xe) (fun _ _ _ => entersF rfl rfl en28) (fun wq δ xq hd => ?_) ?_; exact calls_mono (eval_any h (notQ role (twoQ 2 a b)) (ok_not (ok_two (by omega) (by omega) (by omega) (by omega) oka okb)) _ _ wq (hd0.ext (hX.trans xq)) (hd 86 rfl _ rfl) (Tabs.ext hT (hX.trans xq))) (fun _ _ hh => ⟨hh.2.any, hh.1⟩)) | (refine RQ_callR (f := 35) (fun u w' => QAt w' u (notQ role a)) (fun δ => #[int role, .agg #[int a.op, int a.role, str a.text, wa] ]) rfl rfl (fun _ _ _ _ xe h => QAt.ext h xe) (fun _ _ _ => entersF rfl rfl en35) (fun wq δ xq hd => ?_) ?_; exact calls_mono (not35_any role (a) _ wq (ha1.ext (hX.trans xq))) (fun _ _ hh => ⟨hh.2, hh.1⟩)) | (refine RQ_callR (f := 35) (fun u w' => QAt w' u (notQ role b)) (fun δ => #[int role, .agg #[int b.op, int b.role, str b.text, wb] ]) rfl rfl (fun _ _ _ _ xe h => QAt.ext h xe) (fun _ _ _ => entersF rfl rfl en35) (fun wq δ xq hd => ?_) ?_; exact calls_mono (not35_any role (b) _ wq (hb1.ext (hX.trans xq))) (fun _ _ hh => ⟨hh.2, hh.1⟩)) | (refine RQ_callR (f := 32) (fun u w' => QAt w' u (twoQ 1 (notQ role a) (notQ role b))) (fun δ => #[int 1, δ 91, δ 94]) rfl rfl (fun _ _ _ _ xe h => QAt.ext h xe) (fun _ _ _ => entersF rfl rfl en32) (fun wq δ xq hd => ?_) ?_; exact calls_mono (two32_any 1 (notQ role a) (notQ role b) _ _ wq (hd 91 rfl _ rfl) (hd 94 rfl _ rfl)) (fun _ _ hh => ⟨hh.2, hh.1⟩)) | (refine RQ_callR (f := 28) (fun u w' => Sl w' u (evF matchF d (twoQ 1 (notQ role a) (notQ role b)))) (fun δ => #[.agg #[int d.rid, str d.rname, int d.len, int d.day, sv, tv, nv], δ 95]) rfl rfl (fun _ _ _ _ xe h => SlG.ext h xe) (fun _ _ _ => entersF rfl rfl en28) (fun wq δ xq hd => ?_) ?_; exact calls_mono (eval_any h (twoQ 1 (notQ role a) (notQ role b)) (ok_two (by omega) (by omega) (by omega) (by omega) (ok_not oka) (ok_not okb)) _ _ wq (hd0.ext (hX.trans xq)) (hd 95 rfl _ rfl) (Tabs.ext hT (hX.trans xq))) (fun _ _ hh => ⟨hh.2.any, hh.1⟩)) | (refine RQ_callV (f := 20) (v := .bool true) (fun δ => #[δ 87, δ 96]) rfl rfl (fun _ _ _ => entersF rfl rfl en20) (fun wq δ xq hd => ?_) ?_; (have := r1same_any (evF matchF d (notQ role (twoQ 2 a b))) (evF matchF d (twoQ 1 (notQ role a) (notQ role b))) _ _ wq (hd 87 rfl _ rfl) (hd 96 rfl _ rfl); rw [decide_eq_true (not_or role a b)] at this; exact this)) | refine RQ_call (v := .bool true) rfl rfl (fun _ _ _ => entersF rfl rfl en19) (fun wq xq => mawake_any wq (Tabs.ext hT (hX.trans xq))) ?_ | refine RQ_end (fun wq δ xq hR => ?_) | (refine at_EL ?_; first | refine eN ?_) | (refine at_K ?_; first | refine K_then ?_) | (refine at_E ?_; first | refine E_seq ?_ | refine E_ret ?_ | refine E_dq mixedOk (by kernel_rfl) rfl ?_) | (refine at_RQ ?_; first | refine yV rfl rfl (fun _ _ _ => zA rfl rfl) ?_ | refine yV rfl rfl (fun _ _ _ => zB rfl rfl) ?_ | refine yV rfl rfl (fun _ _ _ => zC rfl rfl rfl) ?_)))
  all_goals (first | (exfalso; omega) | skip)
  exact ret_1 rfl rfl ⟨rfl, hX.trans xq⟩
end Go.Proofs.YtnifmbbpfdghmaaGreatDoor
