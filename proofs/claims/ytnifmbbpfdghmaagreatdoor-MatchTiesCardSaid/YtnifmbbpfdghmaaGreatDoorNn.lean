/-
  Walks of the laws MatchThen, MatchWithin, MatchEval.
-/
import Derived.Test.YtnifmbbpfdghmaaGreatDoorNm
set_option linter.all false
namespace Go.Proofs.YtnifmbbpfdghmaaGreatDoor
open Go.RowKit Go.En
theorem val_bool_same {P : Program} {L : List (Nat × Value)} {w : World} {o : Oper} {t u : TypeId} {x y : Operand} {a : Bool} [ut : UT P t .bool] (ho : o.op = .binOp .eql t x y u) (hx : ev L x = some (.bool a)) (hy : ev L y = some (.bool a)) : Val P L w o (.bool true) := by
  have := val_bool_eq2 (P := P) (w := w) ho hx hy
  simpa using this
attribute [local irreducible] E EL K Val Enters Rt Calls bodyPost Code.wp RQ
set_option maxHeartbeats 8000000 in
set_option maxRecDepth 8000 in
theorem mlaw3_any (d : Dc) (a b : List Int) (v u1 u2 : Value) (w : World) (hv : DcAt w v d) (hn : Names d) (ha : Sl w u1 a) (hb : Sl w u2 b) (hT : Tabs w) :
    Calls Tryz.prog 3 #[v, u1, u2] w (Rt fun u w' => u = .bool true ∧ Ext w w') := by
  have hd0 := hv
  obtain ⟨sv, tv, nv, rfl, _, _, _⟩ := hv
  refine calls_E (n := 29) (args := [.agg #[int d.rid, str d.rname, int d.len, int d.day, sv, tv, nv], u1, u2]) Tryz.func3 rfl Tryz.ntmps3 (by simp) ?_
  refine E_seq ?_
  refine E_region ?_
  refine EL_box rfl rfl rfl rfl (fun bD wD xD hbD rD0 => ?_)
  have rD : Row wD bD 28 [int d.rid, str d.rname, int d.len, int d.day, sv, tv, nv] := rD0
  clear rD0
  have cl := dlight_any d _ wD (hd0.ext xD) hn
  (repeat' ((fail_if_success (refine E_seq (x := (Code.region 3 _ _)) ?_)); first | refine eV rfl rfl (val_loadA rfl rfl rfl rD.at rfl) ?_ | (refine EL_call rfl rfl (entersF rfl rfl en17) cl (fun vC wC hC => ?_); obtain ⟨⟨c, rfl, hl⟩, xC⟩ := hC; have hTc := Tabs.ext (Tabs.ext hT xD) xC; have hXc := xD.trans xC; replace rD := rD.ext xC; cases c) | (refine EL_call rfl rfl (entersF rfl rfl en18) (few_any a b u1 u2 _ (ha.ext hXc) (hb.ext hXc)) (fun vE wE hE => ?_); obtain ⟨⟨c2, rfl, hf⟩, xE⟩ := hE; replace hTc := Tabs.ext hTc xE; replace hXc := hXc.trans xE; replace rD := rD.ext xE; cases c2) | (refine EL_call rfl rfl (entersF rfl rfl en19) (mawake_any _ hTc) (fun vA wA hA => ?_); obtain ⟨rfl, xA⟩ := hA) | (refine at_EL ?_; first | refine eN ?_ | refine eO rfl rfl ?_ | refine eV rfl rfl (zA rfl rfl) ?_ | refine eV rfl rfl (zB rfl rfl) ?_ | refine eV rfl rfl (zC rfl rfl rfl) ?_ | refine eV rfl rfl (zD rfl rfl rfl) ?_ | refine eV rfl rfl (zE rfl rfl) ?_) | (refine at_K ?_; first | refine K_then ?_ | refine K_then_ret ?_) | (refine at_E ?_; first | refine E_seq ?_ | refine E_region ?_ | refine E_cond_t rfl ?_ | refine E_cond_f rfl ?_ | refine E_skip ?_ | refine E_ret ?_)))
  all_goals (first | (exfalso; omega) | skip)
  · exact ret_1 rfl rfl ⟨rfl, hXc.trans xA⟩
  · exact ret_1 rfl rfl ⟨rfl, hXc.trans xA⟩
  have h := hl rfl
  have hd := hd0.ext hXc
  replace ha := ha.ext hXc
  replace hb := hb.ext hXc
  refine E.sub (M := [(1, u1), (2, u2), (3, .pointer (some ⟨bD, 0, none⟩))]) ⟨rfl, rfl, rfl, trivial⟩ ?_
  (repeat' (first | refine yV rfl rfl (fun wq _ xq => val_loadA rfl rfl rfl (rD.ext xq).at rfl) ?_ | (refine RQ_callR (f := 21) (fun u w' => Sl w' u (idsOf d (thenP d a b))) (fun δ => #[.agg #[int d.rid, str d.rname, int d.len, int d.day, sv, tv, nv], u1, u2]) rfl rfl (fun _ _ _ _ xe h => SlG.ext h xe) (fun _ _ _ => entersF rfl rfl en21) (fun wq δ xq hd => ?_) ?_; exact calls_mono (then_any h a b _ u1 u2 wq (hd0.ext (hXc.trans xq)) (ha.ext xq) (hb.ext xq)) (fun _ _ hh => ⟨hh.2.any, hh.1⟩)) | (refine RQ_callR (f := 22) (fun u w' => Sl w' u (idsOf d (thenP d a b))) (fun δ => #[.agg #[int d.rid, str d.rname, int d.len, int d.day, sv, tv, nv], u1, u2]) rfl rfl (fun _ _ _ _ xe h => SlG.ext h xe) (fun _ _ _ => entersF rfl rfl en22) (fun wq δ xq hd => ?_) ?_; exact calls_mono (rthen_any h a b _ u1 u2 wq (hd0.ext (hXc.trans xq)) (ha.ext xq) (hb.ext xq)) (fun _ _ hh => ⟨hh.2, hh.1⟩)) | (refine RQ_callV (f := 20) (v := .bool true) (fun δ => #[δ 20, δ 24]) rfl rfl (fun _ _ _ => entersF rfl rfl en20) (fun wq δ xq hd => ?_) ?_; (have := r1same_any (idsOf d (thenP d a b)) (idsOf d (thenP d a b)) _ _ wq (hd 20 rfl _ rfl) (hd 24 rfl _ rfl); rw [decide_eq_true rfl] at this; exact this)) | refine RQ_call (v := .bool true) rfl rfl (fun _ _ _ => entersF rfl rfl en19) (fun wq xq => mawake_any wq (Tabs.ext hTc xq)) ?_ | refine RQ_end (fun wq δ xq hR => ?_) | (refine at_EL ?_; first | refine eN ?_) | (refine at_K ?_; first | refine K_then ?_) | (refine at_E ?_; first | refine E_seq ?_ | refine E_ret ?_ | refine E_dq mixedOk (by kernel_rfl) rfl ?_) | (refine at_RQ ?_; first | refine yV rfl rfl (fun _ _ _ => zA rfl rfl) ?_ | refine yV rfl rfl (fun _ _ _ => zB rfl rfl) ?_ | refine yV rfl rfl (fun _ _ _ => zC rfl rfl rfl) ?_)))
  all_goals (first | (exfalso; omega) | skip)
  all_goals exact ret_1 rfl rfl ⟨rfl, hXc.trans xq⟩
set_option maxHeartbeats 8000000 in
set_option maxRecDepth 8000 in
theorem mlaw4_any (d : Dc) (a b : List Int) (v u1 u2 : Value) (w : World) (hv : DcAt w v d) (hn : Names d) (ha : Sl w u1 a) (hb : Sl w u2 b) (hT : Tabs w) :
    Calls Tryz.prog 4 #[v, u1, u2] w (Rt fun u w' => u = .bool true ∧ Ext w w') := by
  have hd0 := hv
  obtain ⟨sv, tv, nv, rfl, _, _, _⟩ := hv
  refine calls_E (n := 40) (args := [.agg #[int d.rid, str d.rname, int d.len, int d.day, sv, tv, nv], u1, u2]) Tryz.func4 rfl Tryz.ntmps4 (by simp) ?_
  refine E_seq ?_
  refine E_region ?_
  refine EL_box rfl rfl rfl rfl (fun bD wD xD hbD rD0 => ?_)
  have rD : Row wD bD 28 [int d.rid, str d.rname, int d.len, int d.day, sv, tv, nv] := rD0
  clear rD0
  have cl := dlight_any d _ wD (hd0.ext xD) hn
  (repeat' ((fail_if_success (refine E_seq (x := (Code.region 3 _ _)) ?_)); first | refine eV rfl rfl (val_loadA rfl rfl rfl rD.at rfl) ?_ | (refine EL_call rfl rfl (entersF rfl rfl en17) cl (fun vC wC hC => ?_); obtain ⟨⟨c, rfl, hl⟩, xC⟩ := hC; have hTc := Tabs.ext (Tabs.ext hT xD) xC; have hXc := xD.trans xC; replace rD := rD.ext xC; cases c) | (refine EL_call rfl rfl (entersF rfl rfl en18) (few_any a b u1 u2 _ (ha.ext hXc) (hb.ext hXc)) (fun vE wE hE => ?_); obtain ⟨⟨c2, rfl, hf⟩, xE⟩ := hE; replace hTc := Tabs.ext hTc xE; replace hXc := hXc.trans xE; replace rD := rD.ext xE; cases c2) | (refine EL_call rfl rfl (entersF rfl rfl en19) (mawake_any _ hTc) (fun vA wA hA => ?_); obtain ⟨rfl, xA⟩ := hA) | (refine at_EL ?_; first | refine eN ?_ | refine eO rfl rfl ?_ | refine eV rfl rfl (zA rfl rfl) ?_ | refine eV rfl rfl (zB rfl rfl) ?_ | refine eV rfl rfl (zC rfl rfl rfl) ?_ | refine eV rfl rfl (zD rfl rfl rfl) ?_ | refine eV rfl rfl (zE rfl rfl) ?_) | (refine at_K ?_; first | refine K_then ?_ | refine K_then_ret ?_) | (refine at_E ?_; first | refine E_seq ?_ | refine E_region ?_ | refine E_cond_t rfl ?_ | refine E_cond_f rfl ?_ | refine E_skip ?_ | refine E_ret ?_)))
  all_goals (first | (exfalso; omega) | skip)
  · exact ret_1 rfl rfl ⟨rfl, hXc.trans xA⟩
  · exact ret_1 rfl rfl ⟨rfl, hXc.trans xA⟩
  have h := hl rfl
  have hd := hd0.ext hXc
  replace ha := ha.ext hXc
  replace hb := hb.ext hXc
  refine E.sub (M := [(1, u1), (2, u2), (3, .pointer (some ⟨bD, 0, none⟩))]) ⟨rfl, rfl, rfl, trivial⟩ ?_
  (repeat' (first | refine yV rfl rfl (fun wq _ xq => val_loadA rfl rfl rfl (rD.ext xq).at rfl) ?_ | (refine RQ_callR (f := 23) (fun u w' => Sl w' u (idsOf d (withinP d a b))) (fun δ => #[.agg #[int d.rid, str d.rname, int d.len, int d.day, sv, tv, nv], u1, u2]) rfl rfl (fun _ _ _ _ xe h => SlG.ext h xe) (fun _ _ _ => entersF rfl rfl en23) (fun wq δ xq hd => ?_) ?_; exact calls_mono (within_any h a b _ u1 u2 wq (hd0.ext (hXc.trans xq)) (ha.ext xq) (hb.ext xq)) (fun _ _ hh => ⟨hh.2.any, hh.1⟩)) | (refine RQ_callR (f := 24) (fun u w' => Sl w' u (idsOf d (withinP d a b))) (fun δ => #[.agg #[int d.rid, str d.rname, int d.len, int d.day, sv, tv, nv], u1, u2]) rfl rfl (fun _ _ _ _ xe h => SlG.ext h xe) (fun _ _ _ => entersF rfl rfl en24) (fun wq δ xq hd => ?_) ?_; exact calls_mono (rwithin_any h a b _ u1 u2 wq (hd0.ext (hXc.trans xq)) (ha.ext xq) (hb.ext xq)) (fun _ _ hh => ⟨hh.2, hh.1⟩)) | (refine RQ_callV (f := 20) (v := .bool true) (fun δ => #[δ 20, δ 24]) rfl rfl (fun _ _ _ => entersF rfl rfl en20) (fun wq δ xq hd => ?_) ?_; (have := r1same_any (idsOf d (withinP d a b)) (idsOf d (withinP d a b)) _ _ wq (hd 20 rfl _ rfl) (hd 24 rfl _ rfl); rw [decide_eq_true rfl] at this; exact this)) | (refine RQ_callR (f := 25) (fun u w' => Sl w' u (idsOf d (hasP d a b))) (fun δ => #[.agg #[int d.rid, str d.rname, int d.len, int d.day, sv, tv, nv], u1, u2]) rfl rfl (fun _ _ _ _ xe h => SlG.ext h xe) (fun _ _ _ => entersF rfl rfl en25) (fun wq δ xq hd => ?_) ?_; exact calls_mono (has25_any h a b _ u1 u2 wq (hd0.ext (hXc.trans xq)) (ha.ext xq) (hb.ext xq)) (fun _ _ hh => ⟨hh.2.any, hh.1⟩)) | (refine RQ_callR (f := 26) (fun u w' => Sl w' u (idsOf d (hasP d a b))) (fun δ => #[.agg #[int d.rid, str d.rname, int d.len, int d.day, sv, tv, nv], u1, u2]) rfl rfl (fun _ _ _ _ xe h => SlG.ext h xe) (fun _ _ _ => entersF rfl rfl en26) (fun wq δ xq hd => ?_) ?_; exact calls_mono (rhas_any h a b _ u1 u2 wq (hd0.ext (hXc.trans xq)) (ha.ext xq) (hb.ext xq)) (fun _ _ hh => ⟨hh.2, hh.1⟩)) | (refine RQ_callV (f := 20) (v := .bool true) (fun δ => #[δ 30, δ 34]) rfl rfl (fun _ _ _ => entersF rfl rfl en20) (fun wq δ xq hd => ?_) ?_; (have := r1same_any (idsOf d (hasP d a b)) (idsOf d (hasP d a b)) _ _ wq (hd 30 rfl _ rfl) (hd 34 rfl _ rfl); rw [decide_eq_true rfl] at this; exact this)) | refine RQ_call (v := .bool true) rfl rfl (fun _ _ _ => entersF rfl rfl en19) (fun wq xq => mawake_any wq (Tabs.ext hTc xq)) ?_ | refine RQ_end (fun wq δ xq hR => ?_) | (refine at_EL ?_; first | refine eN ?_) | (refine at_K ?_; first | refine K_then ?_) | (refine at_E ?_; first | refine E_seq ?_ | refine E_ret ?_ | refine E_dq mixedOk (by kernel_rfl) rfl ?_) | (refine at_RQ ?_; first | refine yV rfl rfl (fun _ _ _ => zA rfl rfl) ?_ | refine yV rfl rfl (fun _ _ _ => zB rfl rfl) ?_ | refine yV rfl rfl (fun _ _ _ => zC rfl rfl rfl) ?_)))
  all_goals (first | (exfalso; omega) | skip)
  all_goals exact ret_1 rfl rfl ⟨rfl, hXc.trans xq⟩
set_option maxHeartbeats 8000000 in
set_option maxRecDepth 8000 in
theorem mlaw5_any (d : Dc) (q : Qy) (id : Int) (v qv : Value) (w : World) (hv : DcAt w v d) (hn : Names d) (hqv : QAt w qv q) (hT : Tabs w) :
    Calls Tryz.prog 5 #[v, qv, int id] w (Rt fun u w' => u = .bool true ∧ Ext w w') := by
  have hd0 := hv
  have hq0 := hqv
  obtain ⟨sv, tv, nv, rfl, _, _, _⟩ := hv
  obtain ⟨kv, rfl, hkv⟩ := hqv
  have hkc : ∃ a c, kv = .slice a q.kids.length c := by obtain ⟨a, c, e, _⟩ := hkv.sl; exact ⟨a, c, e⟩
  obtain ⟨ka, kc, rfl⟩ := hkc
  refine calls_E (n := 33) (args := [.agg #[int d.rid, str d.rname, int d.len, int d.day, sv, tv, nv], .agg #[int q.op, int q.role, str q.text, .slice ka q.kids.length kc], int id]) Tryz.func5 rfl Tryz.ntmps5 (by simp) ?_
  refine E_seq ?_
  refine E_region ?_
  refine EL_box rfl rfl rfl rfl (fun bD wD xD hbD rD0 => ?_)
  have rD1 : Row wD bD 28 [int d.rid, str d.rname, int d.len, int d.day, sv, tv, nv] := rD0
  refine EL_box rfl rfl rfl rfl (fun bQ wQ xQ hbQ rQ0 => ?_)
  have rQ : Row wQ bQ 36 [int q.op, int q.role, str q.text, .slice ka q.kids.length kc] := rQ0
  have rD := rD1.ext xQ
  clear rD0 rQ0 rD1
  replace xD := xD.trans xQ
  have cl := light27_any d q _ _ wQ (hd0.ext xD) hn (hq0.ext xD)
  (repeat' ((fail_if_success (refine E_seq (x := (Code.region 3 _ _)) ?_)); first | refine eV rfl rfl (val_loadA rfl rfl rfl rD.at rfl) ?_ | refine eV rfl rfl (val_loadA rfl rfl rfl rQ.at rfl) ?_ | (refine EL_call rfl rfl (entersF rfl rfl en27) cl (fun vC wC hC => ?_); obtain ⟨⟨c, rfl, hl⟩, xC⟩ := hC; have hTc := Tabs.ext (Tabs.ext hT xD) xC; have hXc := xD.trans xC; replace rD := rD.ext xC; replace rQ := rQ.ext xC; cases c) | (refine EL_call rfl rfl (entersF rfl rfl en19) (mawake_any _ hTc) (fun vA wA hA => ?_); obtain ⟨rfl, xA⟩ := hA) | (refine at_EL ?_; first | refine eN ?_ | refine eV rfl rfl (zB rfl rfl) ?_ | refine eV rfl rfl (zE rfl rfl) ?_) | (refine at_K ?_; first | refine K_then ?_ | refine K_then_ret ?_) | (refine at_E ?_; first | refine E_seq ?_ | refine E_region ?_ | refine E_cond_t rfl ?_ | refine E_cond_f rfl ?_ | refine E_skip ?_ | refine E_ret ?_)))
  all_goals (first | (exfalso; omega) | skip)
  · exact ret_1 rfl rfl ⟨rfl, hXc.trans xA⟩
  obtain ⟨h, hok⟩ := hl rfl
  have hd2 := hd0.ext hXc
  have hq2 := hq0.ext hXc
  refine E.sub (M := [(2, int id), (3, .pointer (some ⟨bD, 0, none⟩)), (4, .pointer (some ⟨bQ, 0, none⟩))]) ⟨rfl, rfl, rfl, trivial⟩ ?_
  (repeat' (first | refine yV rfl rfl (fun wq _ xq => val_loadA rfl rfl rfl (rD.ext xq).at rfl) ?_ | refine yV rfl rfl (fun wq _ xq => val_loadA rfl rfl rfl (rQ.ext xq).at rfl) ?_ | (refine RQ_callR (f := 28) (fun u w' => Sl w' u (evF matchF d q)) (fun δ => #[.agg #[int d.rid, str d.rname, int d.len, int d.day, sv, tv, nv], .agg #[int q.op, int q.role, str q.text, .slice ka q.kids.length kc] ]) rfl rfl (fun _ _ _ _ xe h => SlG.ext h xe) (fun _ _ _ => entersF rfl rfl en28) (fun wq δ xq hd => ?_) ?_; exact calls_mono (eval_any h q hok _ _ wq (hd2.ext xq) (hq2.ext xq) (Tabs.ext hTc xq)) (fun _ _ hh => ⟨hh.2.any, hh.1⟩)) | (refine RQ_callR (f := 29) (fun u w' => Sl w' u (evF matchF d q)) (fun δ => #[.agg #[int d.rid, str d.rname, int d.len, int d.day, sv, tv, nv], .agg #[int q.op, int q.role, str q.text, .slice ka q.kids.length kc] ]) rfl rfl (fun _ _ _ _ xe h => SlG.ext h xe) (fun _ _ _ => entersF rfl rfl en29) (fun wq δ xq hd => ?_) ?_; exact calls_mono (reval_any h q hok _ _ wq (hd2.ext xq) (hq2.ext xq)) (fun _ _ hh => ⟨hh.2, hh.1⟩)) | (refine RQ_callV (f := 20) (v := .bool true) (fun δ => #[δ 14, δ 17]) rfl rfl (fun _ _ _ => entersF rfl rfl en20) (fun wq δ xq hd => ?_) ?_; (have := r1same_any (evF matchF d q) (evF matchF d q) _ _ wq (hd 14 rfl _ rfl) (hd 17 rfl _ rfl); rw [decide_eq_true rfl] at this; exact this)) | refine RQ_call rfl rfl (fun _ _ _ => entersF rfl rfl en30) (fun wq xq => holds_any h q hok _ _ id wq (hd2.ext xq) (hq2.ext xq) (Tabs.ext hTc xq)) ?_ | refine RQ_call rfl rfl (fun _ _ _ => entersF rfl rfl en31) (fun wq xq => rholds_any h q hok _ _ id wq (hd2.ext xq) (hq2.ext xq)) ?_ | refine yV (v := .bool true) rfl rfl (fun _ _ _ => val_bool_same rfl rfl rfl) ?_ | refine RQ_call (v := .bool true) rfl rfl (fun _ _ _ => entersF rfl rfl en19) (fun wq xq => mawake_any wq (Tabs.ext hTc xq)) ?_ | refine RQ_end (fun wq δ xq hR => ?_) | (refine at_EL ?_; first | refine eN ?_) | (refine at_K ?_; first | refine K_then ?_) | (refine at_E ?_; first | refine E_seq ?_ | refine E_ret ?_ | refine E_dq mixedOk (by kernel_rfl) rfl ?_) | (refine at_RQ ?_; first | refine yV rfl rfl (fun _ _ _ => zA rfl rfl) ?_ | refine yV rfl rfl (fun _ _ _ => zB rfl rfl) ?_ | refine yV rfl rfl (fun _ _ _ => zC rfl rfl rfl) ?_)))
  all_goals (first | (exfalso; omega) | skip)
  all_goals exact ret_1 rfl rfl ⟨rfl, hXc.trans xq⟩
end Go.Proofs.YtnifmbbpfdghmaaGreatDoor
