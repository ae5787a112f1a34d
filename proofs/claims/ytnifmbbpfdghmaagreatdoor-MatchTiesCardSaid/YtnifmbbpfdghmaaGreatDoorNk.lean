/-
  Walks of match: Holds; of the reference's Eval and Holds.
-/
import Derived.Test.YtnifmbbpfdghmaaGreatDoorNj
set_option linter.all false
namespace Go.Proofs.YtnifmbbpfdghmaaGreatDoor
open Go.RowKit Go.En
attribute [local irreducible] E EL K Val Enters Rt Calls bodyPost Code.wp RQ
/-- a Kid of a query that lies in memory -/
theorem kid_at {w : World} {b off n cap i : Nat} {kids : List Qy} {k : Qy} (h : Sl w (.slice (some ⟨b, off, none⟩) n cap) kids) (hk : kids[i]? = some k) : ∃ kv, At w b (off + i * 4) [int k.op, int k.role, str k.text, kv] ∧ Sl w kv k.kids := by
  obtain ⟨kcs, hkr, hkat⟩ := h.elem hk
  obtain ⟨kkv, rfl, hkk⟩ := qy_cells hkr
  exact ⟨kkv, hkat, hkk⟩
set_option maxHeartbeats 8000000 in
set_option maxRecDepth 8000 in
theorem reval_sz {d : Dc} (h : LightD d) : ∀ (z : Nat) (q : Qy), SizeOf.sizeOf q < z → okQ q → ∀ (v qv : Value) (w : World), DcAt w v d → QAt w qv q →
    Calls Tryz.prog 29 #[v, qv] w (Rt fun u w' => Ext w w' ∧ Sl w' u (evF matchF d q)) := by
  intro z
  induction z with
  | zero => intro q hq; omega
  | succ z ih =>
  intro q hqz hok v qv w hv hqv
  obtain ⟨op, role, txt, kids⟩ := q
  obtain ⟨kv, rfl, hkv⟩ := hqv
  change Sl w kv kids at hkv
  show Calls Tryz.prog 29 #[v, .agg #[int op, int role, str txt, kv]] w _
  unfold okQ at hok
  obtain ⟨ho0, ho6, hkl, hka⟩ := hok
  have hd0 := hv
  obtain ⟨sv, tv, nv, rfl, _, _, _⟩ := hv
  have hkv0 := hkv
  obtain ⟨a, cap, rfl, hc, hm, hp⟩ := hkv.sl
  refine calls_E (n := 104) (args := [.agg #[int d.rid, str d.rname, int d.len, int d.day, sv, tv, nv], .agg #[int op, int role, str txt, .slice a kids.length cap]]) Tryz.func29 rfl Tryz.ntmps29 (by simp) ?_
  refine E_seq ?_
  refine E_region ?_
  refine EL_box rfl rfl rfl rfl (fun bD wD xD hbD rD0 => ?_)
  have rD1 : Row wD bD 28 [int d.rid, str d.rname, int d.len, int d.day, sv, tv, nv] := rD0
  refine EL_box rfl rfl rfl rfl (fun bQ wQ xQ hbQ rQ0 => ?_)
  have rQ : Row wQ bQ 36 [int op, int role, str txt, .slice a kids.length cap] := rQ0
  have rD := rD1.ext xQ
  clear rD0 rQ0 rD1
  have X0 := xD.trans xQ
  have hd2 := hd0.ext X0
  have hk2 := hkv0.ext X0
  have hop : op = 0 ∨ op = 1 ∨ op = 2 ∨ op = 3 ∨ op = 4 ∨ op = 5 ∨ op = 6 := by omega
  rcases hop with rfl | rfl | rfl | rfl | rfl | rfl | rfl
  · have ct := rtext_any h _ role txt wQ hd2
    (repeat' (first | refine eV rfl rfl (val_load rfl rfl rfl (rQ.cellAt (j := 0) rfl)) ?_ | refine eV (v := .bool true) rfl rfl (eql_is rfl rfl rfl rfl) ?_ | refine eV rfl rfl (val_loadA rfl rfl rfl rD.at rfl) ?_ | refine eV rfl rfl (val_load rfl rfl rfl (rQ.cellAt (j := 1) rfl)) ?_ | refine eV rfl rfl (val_load rfl rfl rfl (rQ.cellAt (j := 2) rfl)) ?_ | (refine EL_call rfl rfl (entersF rfl rfl en87) ct (fun vC wC hC => ?_); obtain ⟨xC, sC⟩ := hC) | (refine at_EL ?_; first | refine eN ?_ | refine eV rfl rfl (zB rfl rfl) ?_ | refine eV rfl rfl (zH rfl rfl) ?_) | (refine at_K ?_; first | refine K_then ?_ | refine K_then_ret ?_ | refine K_in_ret ?_) | (refine at_E ?_; first | refine E_seq ?_ | refine E_region ?_ | refine E_cond_t rfl ?_ | refine E_block ?_ | refine E_ret ?_)))
    all_goals (first | (exfalso; omega) | skip)
    exact ret_1 rfl rfl ⟨X0.trans xC, by rw [ev_0]; exact sC⟩
  · obtain ⟨ka, kb, rfl⟩ := len_two (show kids.length = 2 from hkl)
    obtain ⟨g, go, rfl⟩ := hp (by simp)
    obtain ⟨wa, hk0, hwa⟩ := kid_at (i := 0) hk2 rfl
    obtain ⟨wb, hk1, hwb⟩ := kid_at (i := 1) hk2 rfl
    have oka := okAll_get hka (i := 0) rfl
    have okb := okAll_get hka (i := 1) rfl
    have sza := kid_small (op := 1) (role := role) (t := txt) (ks := [ka, kb]) (i := 0) rfl
    have szb := kid_small (op := 1) (role := role) (t := txt) (ks := [ka, kb]) (i := 1) rfl
    have l0 := evF_len h matchF ka
    have l1 := evF_len h matchF kb
    (repeat' (first | refine eV rfl rfl (val_load rfl rfl rfl (rQ.cellAt (j := 0) rfl)) ?_ | refine eV (v := .bool true) rfl rfl (eql_is rfl rfl rfl rfl) ?_ | refine eV (v := .bool false) rfl rfl (eql_is rfl rfl rfl rfl) ?_ | refine yV rfl rfl (fun wq _ xq => val_loadA rfl rfl rfl (rD.ext xq).at rfl) ?_ | refine yV rfl rfl (fun wq _ xq => val_load rfl rfl rfl ((rQ.ext xq).cellAt (j := 3) rfl)) ?_ | refine yV rfl rfl (fun _ _ _ => val_indexAddr (m := 0) rfl rfl rfl rfl (by show 0 < _; simp)) ?_ | refine yV rfl rfl (fun wq _ xq => val_loadA rfl rfl rfl (hk0.ext xq) rfl) ?_ | refine yV rfl rfl (fun _ _ _ => val_indexAddr (m := 1) rfl rfl rfl rfl (by show 1 < _; simp)) ?_ | refine yV rfl rfl (fun wq _ xq => val_loadA rfl rfl rfl (hk1.ext xq) rfl) ?_ | (refine RQ_callR (f := 29) (fun u w' => Sl w' u (evF matchF d ka)) (fun δ => #[.agg #[int d.rid, str d.rname, int d.len, int d.day, sv, tv, nv], .agg #[int ka.op, int ka.role, str ka.text, wa] ]) rfl rfl (fun _ _ _ _ xe h => SlG.ext h xe) (fun _ _ _ => entersF rfl rfl en29) (fun wq δ xq hd => ?_) ?_; exact calls_mono (ih ka (by omega) oka _ (.agg #[int ka.op, int ka.role, str ka.text, wa]) wq (hd2.ext xq) ⟨wa, rfl, hwa.ext xq⟩) (fun _ _ hh => ⟨hh.2, hh.1⟩)) | (refine RQ_callR (f := 29) (fun u w' => Sl w' u (evF matchF d kb)) (fun δ => #[.agg #[int d.rid, str d.rname, int d.len, int d.day, sv, tv, nv], .agg #[int kb.op, int kb.role, str kb.text, wb] ]) rfl rfl (fun _ _ _ _ xe h => SlG.ext h xe) (fun _ _ _ => entersF rfl rfl en29) (fun wq δ xq hd => ?_) ?_; exact calls_mono (ih kb (by omega) okb _ (.agg #[int kb.op, int kb.role, str kb.text, wb]) wq (hd2.ext xq) ⟨wb, rfl, hwb.ext xq⟩) (fun _ _ hh => ⟨hh.2, hh.1⟩)) | (refine RQ_callR (f := 37) (fun u w' => Sl w' u (bothF (evF matchF d ka) (evF matchF d kb))) (fun δ => #[δ 22, δ 28]) rfl rfl (fun _ _ _ _ xe h => SlG.ext h xe) (fun _ _ _ => entersF rfl rfl en37) (fun wq δ xq hd => ?_) ?_; exact calls_mono (rboth_any _ _ _ _ wq (hd 22 rfl _ rfl) (hd 28 rfl _ rfl) (by omega)) (fun _ _ hh => ⟨hh.2, hh.1⟩)) | refine RQ_asgS rfl rfl rfl rfl (fun _ => rfl) ?_ | refine RQ_end (fun wq δ xq hR => ?_) | (refine at_EL ?_; first | refine eN ?_ | refine eV rfl rfl (zB rfl rfl) ?_ | refine eV rfl rfl (zH rfl rfl) ?_) | (refine at_K ?_; first | refine K_then ?_ | refine K_then_ret ?_ | refine K_in_ret ?_) | (refine at_E ?_; first | refine E_seq ?_ | refine E_region ?_ | refine E_cond_t rfl ?_ | refine E_cond_f rfl ?_ | refine E_block ?_ | refine E_ret ?_ | refine E_dq mixedOk (by kernel_rfl) rfl ?_) | (refine at_RQ ?_; first | refine yV rfl rfl (fun _ _ _ => zH rfl rfl) ?_)))
    all_goals (first | (exfalso; omega) | skip)
    refine ret_1 rfl rfl ⟨X0.trans xq, ?_⟩
    rw [ev_1 h]
    exact hR 4 _ rfl
  · obtain ⟨ka, kb, rfl⟩ := len_two (show kids.length = 2 from hkl)
    obtain ⟨g, go, rfl⟩ := hp (by simp)
    obtain ⟨wa, hk0, hwa⟩ := kid_at (i := 0) hk2 rfl
    obtain ⟨wb, hk1, hwb⟩ := kid_at (i := 1) hk2 rfl
    have oka := okAll_get hka (i := 0) rfl
    have okb := okAll_get hka (i := 1) rfl
    have sza := kid_small (op := 2) (role := role) (t := txt) (ks := [ka, kb]) (i := 0) rfl
    have szb := kid_small (op := 2) (role := role) (t := txt) (ks := [ka, kb]) (i := 1) rfl
    have l0 := evF_len h matchF ka
    have l1 := evF_len h matchF kb
    (repeat' (first | refine eV rfl rfl (val_load rfl rfl rfl (rQ.cellAt (j := 0) rfl)) ?_ | refine eV (v := .bool true) rfl rfl (eql_is rfl rfl rfl rfl) ?_ | refine eV (v := .bool false) rfl rfl (eql_is rfl rfl rfl rfl) ?_ | refine yV rfl rfl (fun wq _ xq => val_loadA rfl rfl rfl (rD.ext xq).at rfl) ?_ | refine yV rfl rfl (fun wq _ xq => val_load rfl rfl rfl ((rQ.ext xq).cellAt (j := 3) rfl)) ?_ | refine yV rfl rfl (fun _ _ _ => val_indexAddr (m := 0) rfl rfl rfl rfl (by show 0 < _; simp)) ?_ | refine yV rfl rfl (fun wq _ xq => val_loadA rfl rfl rfl (hk0.ext xq) rfl) ?_ | refine yV rfl rfl (fun _ _ _ => val_indexAddr (m := 1) rfl rfl rfl rfl (by show 1 < _; simp)) ?_ | refine yV rfl rfl (fun wq _ xq => val_loadA rfl rfl rfl (hk1.ext xq) rfl) ?_ | (refine RQ_callR (f := 29) (fun u w' => Sl w' u (evF matchF d ka)) (fun δ => #[.agg #[int d.rid, str d.rname, int d.len, int d.day, sv, tv, nv], .agg #[int ka.op, int ka.role, str ka.text, wa] ]) rfl rfl (fun _ _ _ _ xe h => SlG.ext h xe) (fun _ _ _ => entersF rfl rfl en29) (fun wq δ xq hd => ?_) ?_; exact calls_mono (ih ka (by omega) oka _ (.agg #[int ka.op, int ka.role, str ka.text, wa]) wq (hd2.ext xq) ⟨wa, rfl, hwa.ext xq⟩) (fun _ _ hh => ⟨hh.2, hh.1⟩)) | (refine RQ_callR (f := 29) (fun u w' => Sl w' u (evF matchF d kb)) (fun δ => #[.agg #[int d.rid, str d.rname, int d.len, int d.day, sv, tv, nv], .agg #[int kb.op, int kb.role, str kb.text, wb] ]) rfl rfl (fun _ _ _ _ xe h => SlG.ext h xe) (fun _ _ _ => entersF rfl rfl en29) (fun wq δ xq hd => ?_) ?_; exact calls_mono (ih kb (by omega) okb _ (.agg #[int kb.op, int kb.role, str kb.text, wb]) wq (hd2.ext xq) ⟨wb, rfl, hwb.ext xq⟩) (fun _ _ hh => ⟨hh.2, hh.1⟩)) | (refine RQ_callR (f := 58) (fun u w' => Sl w' u (unionS (evF matchF d ka) (evF matchF d kb))) (fun δ => #[δ 37, δ 43]) rfl rfl (fun _ _ _ _ xe h => SlG.ext h xe) (fun _ _ _ => entersF rfl rfl en58) (fun wq δ xq hd => ?_) ?_; exact calls_mono (runion_any _ _ _ _ wq (hd 37 rfl _ rfl) (hd 43 rfl _ rfl) (by omega) (by omega)) (fun _ _ hh => ⟨hh.2, hh.1⟩)) | refine RQ_asgS rfl rfl rfl rfl (fun _ => rfl) ?_ | refine RQ_end (fun wq δ xq hR => ?_) | (refine at_EL ?_; first | refine eN ?_ | refine eV rfl rfl (zB rfl rfl) ?_ | refine eV rfl rfl (zH rfl rfl) ?_) | (refine at_K ?_; first | refine K_then ?_ | refine K_then_ret ?_ | refine K_in_ret ?_) | (refine at_E ?_; first | refine E_seq ?_ | refine E_region ?_ | refine E_cond_t rfl ?_ | refine E_cond_f rfl ?_ | refine E_block ?_ | refine E_ret ?_ | refine E_dq mixedOk (by kernel_rfl) rfl ?_) | (refine at_RQ ?_; first | refine yV rfl rfl (fun _ _ _ => zH rfl rfl) ?_)))
    all_goals (first | (exfalso; omega) | skip)
    refine ret_1 rfl rfl ⟨X0.trans xq, ?_⟩
    rw [ev_2 h]
    exact hR 4 _ rfl
  · obtain ⟨ka, rfl⟩ := List.length_eq_one_iff.1 (show kids.length = 1 from hkl)
    obtain ⟨g, go, rfl⟩ := hp (by simp)
    obtain ⟨wa, hk0, hwa⟩ := kid_at (i := 0) hk2 rfl
    have oka := okAll_get hka (i := 0) rfl
    have sza := kid_small (op := 3) (role := role) (t := txt) (ks := [ka]) (i := 0) rfl
    have l0 := evF_len h matchF ka
    have lr : (idsOf d (ofRoleP d role)).length ≤ 14 := Nat.le_trans (idsOf_len _) h.nnotes
    (repeat' (first | refine eV rfl rfl (val_load rfl rfl rfl (rQ.cellAt (j := 0) rfl)) ?_ | refine eV (v := .bool true) rfl rfl (eql_is rfl rfl rfl rfl) ?_ | refine eV (v := .bool false) rfl rfl (eql_is rfl rfl rfl rfl) ?_ | refine yV rfl rfl (fun wq _ xq => val_loadA rfl rfl rfl (rD.ext xq).at rfl) ?_ | refine yV rfl rfl (fun wq _ xq => val_load rfl rfl rfl ((rQ.ext xq).cellAt (j := 1) rfl)) ?_ | refine yV rfl rfl (fun wq _ xq => val_load rfl rfl rfl ((rQ.ext xq).cellAt (j := 3) rfl)) ?_ | refine yV rfl rfl (fun _ _ _ => val_indexAddr (m := 0) rfl rfl rfl rfl (by show 0 < _; simp)) ?_ | refine yV rfl rfl (fun wq _ xq => val_loadA rfl rfl rfl (hk0.ext xq) rfl) ?_ | (refine RQ_callR (f := 88) (fun u w' => Sl w' u (idsOf d (ofRoleP d role))) (fun δ => #[.agg #[int d.rid, str d.rname, int d.len, int d.day, sv, tv, nv], int role]) rfl rfl (fun _ _ _ _ xe h => SlG.ext h xe) (fun _ _ _ => entersF rfl rfl en88) (fun wq δ xq hd => ?_) ?_; exact calls_mono (rrole_any h _ role wq (hd2.ext xq)) (fun _ _ hh => ⟨hh.2, hh.1⟩)) | (refine RQ_callR (f := 29) (fun u w' => Sl w' u (evF matchF d ka)) (fun δ => #[.agg #[int d.rid, str d.rname, int d.len, int d.day, sv, tv, nv], .agg #[int ka.op, int ka.role, str ka.text, wa] ]) rfl rfl (fun _ _ _ _ xe h => SlG.ext h xe) (fun _ _ _ => entersF rfl rfl en29) (fun wq δ xq hd => ?_) ?_; exact calls_mono (ih ka (by omega) oka _ (.agg #[int ka.op, int ka.role, str ka.text, wa]) wq (hd2.ext xq) ⟨wa, rfl, hwa.ext xq⟩) (fun _ _ hh => ⟨hh.2, hh.1⟩)) | (refine RQ_callR (f := 36) (fun u w' => Sl w' u (minusS (idsOf d (ofRoleP d role)) (evF matchF d ka))) (fun δ => #[δ 50, δ 56]) rfl rfl (fun _ _ _ _ xe h => SlG.ext h xe) (fun _ _ _ => entersF rfl rfl en36) (fun wq δ xq hd => ?_) ?_; exact calls_mono (rminus_any _ _ _ _ wq (hd 50 rfl _ rfl) (hd 56 rfl _ rfl) (by omega)) (fun _ _ hh => ⟨hh.2, hh.1⟩)) | refine RQ_asgS rfl rfl rfl rfl (fun _ => rfl) ?_ | refine RQ_end (fun wq δ xq hR => ?_) | (refine at_EL ?_; first | refine eN ?_ | refine eV rfl rfl (zB rfl rfl) ?_ | refine eV rfl rfl (zH rfl rfl) ?_) | (refine at_K ?_; first | refine K_then ?_ | refine K_then_ret ?_ | refine K_in_ret ?_) | (refine at_E ?_; first | refine E_seq ?_ | refine E_region ?_ | refine E_cond_t rfl ?_ | refine E_cond_f rfl ?_ | refine E_block ?_ | refine E_ret ?_ | refine E_dq mixedOk (by kernel_rfl) rfl ?_) | (refine at_RQ ?_; first | refine yV rfl rfl (fun _ _ _ => zH rfl rfl) ?_)))
    all_goals (first | (exfalso; omega) | skip)
    refine ret_1 rfl rfl ⟨X0.trans xq, ?_⟩
    rw [ev_role3 h]
    exact hR 4 _ rfl
  · obtain ⟨ka, kb, rfl⟩ := len_two (show kids.length = 2 from hkl)
    obtain ⟨g, go, rfl⟩ := hp (by simp)
    obtain ⟨wa, hk0, hwa⟩ := kid_at (i := 0) hk2 rfl
    obtain ⟨wb, hk1, hwb⟩ := kid_at (i := 1) hk2 rfl
    have oka := okAll_get hka (i := 0) rfl
    have okb := okAll_get hka (i := 1) rfl
    have sza := kid_small (op := 4) (role := role) (t := txt) (ks := [ka, kb]) (i := 0) rfl
    have szb := kid_small (op := 4) (role := role) (t := txt) (ks := [ka, kb]) (i := 1) rfl
    have l0 := evF_len h matchF ka
    have l1 := evF_len h matchF kb
    (repeat' (first | refine eV rfl rfl (val_load rfl rfl rfl (rQ.cellAt (j := 0) rfl)) ?_ | refine eV (v := .bool true) rfl rfl (eql_is rfl rfl rfl rfl) ?_ | refine eV (v := .bool false) rfl rfl (eql_is rfl rfl rfl rfl) ?_ | refine yV rfl rfl (fun wq _ xq => val_loadA rfl rfl rfl (rD.ext xq).at rfl) ?_ | refine yV rfl rfl (fun wq _ xq => val_load rfl rfl rfl ((rQ.ext xq).cellAt (j := 3) rfl)) ?_ | refine yV rfl rfl (fun _ _ _ => val_indexAddr (m := 0) rfl rfl rfl rfl (by show 0 < _; simp)) ?_ | refine yV rfl rfl (fun wq _ xq => val_loadA rfl rfl rfl (hk0.ext xq) rfl) ?_ | refine yV rfl rfl (fun _ _ _ => val_indexAddr (m := 1) rfl rfl rfl rfl (by show 1 < _; simp)) ?_ | refine yV rfl rfl (fun wq _ xq => val_loadA rfl rfl rfl (hk1.ext xq) rfl) ?_ | (refine RQ_callR (f := 29) (fun u w' => Sl w' u (evF matchF d ka)) (fun δ => #[.agg #[int d.rid, str d.rname, int d.len, int d.day, sv, tv, nv], .agg #[int ka.op, int ka.role, str ka.text, wa] ]) rfl rfl (fun _ _ _ _ xe h => SlG.ext h xe) (fun _ _ _ => entersF rfl rfl en29) (fun wq δ xq hd => ?_) ?_; exact calls_mono (ih ka (by omega) oka _ (.agg #[int ka.op, int ka.role, str ka.text, wa]) wq (hd2.ext xq) ⟨wa, rfl, hwa.ext xq⟩) (fun _ _ hh => ⟨hh.2, hh.1⟩)) | (refine RQ_callR (f := 29) (fun u w' => Sl w' u (evF matchF d kb)) (fun δ => #[.agg #[int d.rid, str d.rname, int d.len, int d.day, sv, tv, nv], .agg #[int kb.op, int kb.role, str kb.text, wb] ]) rfl rfl (fun _ _ _ _ xe h => SlG.ext h xe) (fun _ _ _ => entersF rfl rfl en29) (fun wq δ xq hd => ?_) ?_; exact calls_mono (ih kb (by omega) okb _ (.agg #[int kb.op, int kb.role, str kb.text, wb]) wq (hd2.ext xq) ⟨wb, rfl, hwb.ext xq⟩) (fun _ _ hh => ⟨hh.2, hh.1⟩)) | (refine RQ_callR (f := 22) (fun u w' => Sl w' u (idsOf d (thenP d (evF matchF d ka) (evF matchF d kb)))) (fun δ => #[.agg #[int d.rid, str d.rname, int d.len, int d.day, sv, tv, nv], δ 66, δ 72]) rfl rfl (fun _ _ _ _ xe h => SlG.ext h xe) (fun _ _ _ => entersF rfl rfl en22) (fun wq δ xq hd => ?_) ?_; exact calls_mono (rthen_any h _ _ _ _ _ wq (hd2.ext xq) (hd 66 rfl _ rfl) (hd 72 rfl _ rfl)) (fun _ _ hh => ⟨hh.2, hh.1⟩)) | refine RQ_asgS rfl rfl rfl rfl (fun _ => rfl) ?_ | refine RQ_end (fun wq δ xq hR => ?_) | (refine at_EL ?_; first | refine eN ?_ | refine eV rfl rfl (zB rfl rfl) ?_ | refine eV rfl rfl (zH rfl rfl) ?_) | (refine at_K ?_; first | refine K_then ?_ | refine K_then_ret ?_ | refine K_in_ret ?_) | (refine at_E ?_; first | refine E_seq ?_ | refine E_region ?_ | refine E_cond_t rfl ?_ | refine E_cond_f rfl ?_ | refine E_block ?_ | refine E_ret ?_ | refine E_dq mixedOk (by kernel_rfl) rfl ?_) | (refine at_RQ ?_; first | refine yV rfl rfl (fun _ _ _ => zH rfl rfl) ?_)))
    all_goals (first | (exfalso; omega) | skip)
    refine ret_1 rfl rfl ⟨X0.trans xq, ?_⟩
    rw [ev_4]
    exact hR 4 _ rfl
  · obtain ⟨ka, kb, rfl⟩ := len_two (show kids.length = 2 from hkl)
    obtain ⟨g, go, rfl⟩ := hp (by simp)
    obtain ⟨wa, hk0, hwa⟩ := kid_at (i := 0) hk2 rfl
    obtain ⟨wb, hk1, hwb⟩ := kid_at (i := 1) hk2 rfl
    have oka := okAll_get hka (i := 0) rfl
    have okb := okAll_get hka (i := 1) rfl
    have sza := kid_small (op := 5) (role := role) (t := txt) (ks := [ka, kb]) (i := 0) rfl
    have szb := kid_small (op := 5) (role := role) (t := txt) (ks := [ka, kb]) (i := 1) rfl
    have l0 := evF_len h matchF ka
    have l1 := evF_len h matchF kb
    (repeat' (first | refine eV rfl rfl (val_load rfl rfl rfl (rQ.cellAt (j := 0) rfl)) ?_ | refine eV (v := .bool true) rfl rfl (eql_is rfl rfl rfl rfl) ?_ | refine eV (v := .bool false) rfl rfl (eql_is rfl rfl rfl rfl) ?_ | refine yV rfl rfl (fun wq _ xq => val_loadA rfl rfl rfl (rD.ext xq).at rfl) ?_ | refine yV rfl rfl (fun wq _ xq => val_load rfl rfl rfl ((rQ.ext xq).cellAt (j := 3) rfl)) ?_ | refine yV rfl rfl (fun _ _ _ => val_indexAddr (m := 0) rfl rfl rfl rfl (by show 0 < _; simp)) ?_ | refine yV rfl rfl (fun wq _ xq => val_loadA rfl rfl rfl (hk0.ext xq) rfl) ?_ | refine yV rfl rfl (fun _ _ _ => val_indexAddr (m := 1) rfl rfl rfl rfl (by show 1 < _; simp)) ?_ | refine yV rfl rfl (fun wq _ xq => val_loadA rfl rfl rfl (hk1.ext xq) rfl) ?_ | (refine RQ_callR (f := 29) (fun u w' => Sl w' u (evF matchF d ka)) (fun δ => #[.agg #[int d.rid, str d.rname, int d.len, int d.day, sv, tv, nv], .agg #[int ka.op, int ka.role, str ka.text, wa] ]) rfl rfl (fun _ _ _ _ xe h => SlG.ext h xe) (fun _ _ _ => entersF rfl rfl en29) (fun wq δ xq hd => ?_) ?_; exact calls_mono (ih ka (by omega) oka _ (.agg #[int ka.op, int ka.role, str ka.text, wa]) wq (hd2.ext xq) ⟨wa, rfl, hwa.ext xq⟩) (fun _ _ hh => ⟨hh.2, hh.1⟩)) | (refine RQ_callR (f := 29) (fun u w' => Sl w' u (evF matchF d kb)) (fun δ => #[.agg #[int d.rid, str d.rname, int d.len, int d.day, sv, tv, nv], .agg #[int kb.op, int kb.role, str kb.text, wb] ]) rfl rfl (fun _ _ _ _ xe h => SlG.ext h xe) (fun _ _ _ => entersF rfl rfl en29) (fun wq δ xq hd => ?_) ?_; exact calls_mono (ih kb (by omega) okb _ (.agg #[int kb.op, int kb.role, str kb.text, wb]) wq (hd2.ext xq) ⟨wb, rfl, hwb.ext xq⟩) (fun _ _ hh => ⟨hh.2, hh.1⟩)) | (refine RQ_callR (f := 24) (fun u w' => Sl w' u (idsOf d (withinP d (evF matchF d ka) (evF matchF d kb)))) (fun δ => #[.agg #[int d.rid, str d.rname, int d.len, int d.day, sv, tv, nv], δ 82, δ 88]) rfl rfl (fun _ _ _ _ xe h => SlG.ext h xe) (fun _ _ _ => entersF rfl rfl en24) (fun wq δ xq hd => ?_) ?_; exact calls_mono (rwithin_any h _ _ _ _ _ wq (hd2.ext xq) (hd 82 rfl _ rfl) (hd 88 rfl _ rfl)) (fun _ _ hh => ⟨hh.2, hh.1⟩)) | refine RQ_asgS rfl rfl rfl rfl (fun _ => rfl) ?_ | refine RQ_end (fun wq δ xq hR => ?_) | (refine at_EL ?_; first | refine eN ?_ | refine eV rfl rfl (zB rfl rfl) ?_ | refine eV rfl rfl (zH rfl rfl) ?_) | (refine at_K ?_; first | refine K_then ?_ | refine K_then_ret ?_ | refine K_in_ret ?_) | (refine at_E ?_; first | refine E_seq ?_ | refine E_region ?_ | refine E_cond_t rfl ?_ | refine E_cond_f rfl ?_ | refine E_block ?_ | refine E_ret ?_ | refine E_dq mixedOk (by kernel_rfl) rfl ?_) | (refine at_RQ ?_; first | refine yV rfl rfl (fun _ _ _ => zH rfl rfl) ?_)))
    all_goals (first | (exfalso; omega) | skip)
    refine ret_1 rfl rfl ⟨X0.trans xq, ?_⟩
    rw [ev_5]
    exact hR 4 _ rfl
  · obtain ⟨ka, kb, rfl⟩ := len_two (show kids.length = 2 from hkl)
    obtain ⟨g, go, rfl⟩ := hp (by simp)
    obtain ⟨wa, hk0, hwa⟩ := kid_at (i := 0) hk2 rfl
    obtain ⟨wb, hk1, hwb⟩ := kid_at (i := 1) hk2 rfl
    have oka := okAll_get hka (i := 0) rfl
    have okb := okAll_get hka (i := 1) rfl
    have sza := kid_small (op := 6) (role := role) (t := txt) (ks := [ka, kb]) (i := 0) rfl
    have szb := kid_small (op := 6) (role := role) (t := txt) (ks := [ka, kb]) (i := 1) rfl
    have l0 := evF_len h matchF ka
    have l1 := evF_len h matchF kb
    (repeat' (first | refine eV rfl rfl (val_load rfl rfl rfl (rQ.cellAt (j := 0) rfl)) ?_ | refine eV (v := .bool false) rfl rfl (eql_is rfl rfl rfl rfl) ?_ | refine yV rfl rfl (fun wq _ xq => val_loadA rfl rfl rfl (rD.ext xq).at rfl) ?_ | refine yV rfl rfl (fun wq _ xq => val_load rfl rfl rfl ((rQ.ext xq).cellAt (j := 3) rfl)) ?_ | refine yV rfl rfl (fun _ _ _ => val_indexAddr (m := 0) rfl rfl rfl rfl (by show 0 < _; simp)) ?_ | refine yV rfl rfl (fun wq _ xq => val_loadA rfl rfl rfl (hk0.ext xq) rfl) ?_ | refine yV rfl rfl (fun _ _ _ => val_indexAddr (m := 1) rfl rfl rfl rfl (by show 1 < _; simp)) ?_ | refine yV rfl rfl (fun wq _ xq => val_loadA rfl rfl rfl (hk1.ext xq) rfl) ?_ | (refine RQ_callR (f := 29) (fun u w' => Sl w' u (evF matchF d ka)) (fun δ => #[.agg #[int d.rid, str d.rname, int d.len, int d.day, sv, tv, nv], .agg #[int ka.op, int ka.role, str ka.text, wa] ]) rfl rfl (fun _ _ _ _ xe h => SlG.ext h xe) (fun _ _ _ => entersF rfl rfl en29) (fun wq δ xq hd => ?_) ?_; exact calls_mono (ih ka (by omega) oka _ (.agg #[int ka.op, int ka.role, str ka.text, wa]) wq (hd2.ext xq) ⟨wa, rfl, hwa.ext xq⟩) (fun _ _ hh => ⟨hh.2, hh.1⟩)) | (refine RQ_callR (f := 29) (fun u w' => Sl w' u (evF matchF d kb)) (fun δ => #[.agg #[int d.rid, str d.rname, int d.len, int d.day, sv, tv, nv], .agg #[int kb.op, int kb.role, str kb.text, wb] ]) rfl rfl (fun _ _ _ _ xe h => SlG.ext h xe) (fun _ _ _ => entersF rfl rfl en29) (fun wq δ xq hd => ?_) ?_; exact calls_mono (ih kb (by omega) okb _ (.agg #[int kb.op, int kb.role, str kb.text, wb]) wq (hd2.ext xq) ⟨wb, rfl, hwb.ext xq⟩) (fun _ _ hh => ⟨hh.2, hh.1⟩)) | (refine RQ_callR (f := 26) (fun u w' => Sl w' u (idsOf d (hasP d (evF matchF d ka) (evF matchF d kb)))) (fun δ => #[.agg #[int d.rid, str d.rname, int d.len, int d.day, sv, tv, nv], δ 96, δ 102]) rfl rfl (fun _ _ _ _ xe h => SlG.ext h xe) (fun _ _ _ => entersF rfl rfl en26) (fun wq δ xq hd => ?_) ?_; exact calls_mono (rhas_any h _ _ _ _ _ wq (hd2.ext xq) (hd 96 rfl _ rfl) (hd 102 rfl _ rfl)) (fun _ _ hh => ⟨hh.2, hh.1⟩)) | refine RQ_asgS rfl rfl rfl rfl (fun _ => rfl) ?_ | refine RQ_end (fun wq δ xq hR => ?_) | (refine at_EL ?_; first | refine eN ?_ | refine eV rfl rfl (zB rfl rfl) ?_ | refine eV rfl rfl (zH rfl rfl) ?_) | (refine at_K ?_; first | refine K_then ?_ | refine K_in ?_) | (refine at_E ?_; first | refine E_seq ?_ | refine E_region ?_ | refine E_cond_f rfl ?_ | refine E_block ?_ | refine E_skip ?_ | refine E_ret ?_ | refine E_dq mixedOk (by kernel_rfl) rfl ?_) | (refine at_RQ ?_; first | refine yV rfl rfl (fun _ _ _ => zH rfl rfl) ?_)))
    all_goals (first | (exfalso; omega) | skip)
    refine ret_1 rfl rfl ⟨X0.trans xq, ?_⟩
    rw [ev_6]
    exact hR 4 _ rfl
theorem reval_any {d : Dc} (h : LightD d) (q : Qy) (hok : okQ q) (v qv : Value) (w : World) (hv : DcAt w v d) (hqv : QAt w qv q) :
    Calls Tryz.prog 29 #[v, qv] w (Rt fun u w' => Ext w w' ∧ Sl w' u (evF matchF d q)) := reval_sz h _ q (Nat.lt_succ_self _) hok v qv w hv hqv
set_option maxHeartbeats 4000000 in
set_option maxRecDepth 8000 in
theorem holds_any {d : Dc} (h : LightD d) (q : Qy) (hok : okQ q) (v qv : Value) (id : Int) (w : World) (hv : DcAt w v d) (hqv : QAt w qv q) (hT : Tabs w) :
    Calls Tryz.prog 30 #[v, qv, int id] w (Rt fun u w' => u = .bool (decide (id ∈ evF matchF d q)) ∧ Ext w w') := by
  have hd0 := hv
  have hq0 := hqv
  obtain ⟨sv, tv, nv, rfl, _, _, _⟩ := hv
  obtain ⟨kv, rfl, hkv⟩ := hqv
  obtain ⟨a, cap, rfl, hc, hm, hp⟩ := hkv.sl
  refine calls_E (n := 12) (args := [.agg #[int d.rid, str d.rname, int d.len, int d.day, sv, tv, nv], .agg #[int q.op, int q.role, str q.text, .slice a q.kids.length cap], int id]) Tryz.func30 rfl Tryz.ntmps30 (by simp) ?_
  refine E_seq ?_
  refine E_region ?_
  refine EL_box rfl rfl rfl rfl (fun bD wD xD hbD rD0 => ?_)
  have rD1 : Row wD bD 28 [int d.rid, str d.rname, int d.len, int d.day, sv, tv, nv] := rD0
  refine EL_box rfl rfl rfl rfl (fun bQ wQ xQ hbQ rQ0 => ?_)
  have rQ : Row wQ bQ 36 [int q.op, int q.role, str q.text, .slice a q.kids.length cap] := rQ0
  have rD := rD1.ext xQ
  clear rD0 rQ0 rD1
  have X0 := xD.trans xQ
  have ce := eval_any h q hok _ _ wQ (hd0.ext X0) (hq0.ext X0) (Tabs.ext hT X0)
  (repeat' (first | refine eV rfl rfl (val_loadA rfl rfl rfl rD.at rfl) ?_ | refine eV rfl rfl (val_loadA rfl rfl rfl rQ.at rfl) ?_ | (refine EL_call rfl rfl (entersF rfl rfl en28) ce (fun vC wC hC => ?_); obtain ⟨xC, sC⟩ := hC) | (refine at_EL ?_; first | refine eN ?_ | refine eV rfl rfl (zA rfl rfl) ?_ | refine eV rfl rfl (zB rfl rfl) ?_) | (refine at_K ?_; first | refine K_then ?_) | (refine at_E ?_; first | refine E_seq ?_ | refine E_region ?_)))
  have ch := has_any (evF matchF d q) id vC wC sC.any
  (repeat' (first | (refine EL_call rfl rfl (entersF rfl rfl en89) ch (fun vE wE hE => ?_); obtain ⟨rfl, xE⟩ := hE) | (refine at_EL ?_; first | refine eN ?_ | refine eV rfl rfl (zB rfl rfl) ?_) | (refine at_K ?_; first | refine K_then ?_) | (refine at_E ?_; first | refine E_ret ?_)))
  exact ret_1 rfl rfl ⟨rfl, X0.trans (xC.trans xE)⟩
set_option maxHeartbeats 4000000 in
set_option maxRecDepth 8000 in
theorem rholds_any {d : Dc} (h : LightD d) (q : Qy) (hok : okQ q) (v qv : Value) (id : Int) (w : World) (hv : DcAt w v d) (hqv : QAt w qv q) :
    Calls Tryz.prog 31 #[v, qv, int id] w (Rt fun u w' => u = .bool (decide (id ∈ evF matchF d q)) ∧ Ext w w') := by
  have hd0 := hv
  have hq0 := hqv
  obtain ⟨sv, tv, nv, rfl, _, _, _⟩ := hv
  obtain ⟨kv, rfl, hkv⟩ := hqv
  obtain ⟨a, cap, rfl, hc, hm, hp⟩ := hkv.sl
  refine calls_E (n := 12) (args := [.agg #[int d.rid, str d.rname, int d.len, int d.day, sv, tv, nv], .agg #[int q.op, int q.role, str q.text, .slice a q.kids.length cap], int id]) Tryz.func31 rfl Tryz.ntmps31 (by simp) ?_
  refine E_seq ?_
  refine E_region ?_
  refine EL_box rfl rfl rfl rfl (fun bD wD xD hbD rD0 => ?_)
  have rD1 : Row wD bD 28 [int d.rid, str d.rname, int d.len, int d.day, sv, tv, nv] := rD0
  refine EL_box rfl rfl rfl rfl (fun bQ wQ xQ hbQ rQ0 => ?_)
  have rQ : Row wQ bQ 36 [int q.op, int q.role, str q.text, .slice a q.kids.length cap] := rQ0
  have rD := rD1.ext xQ
  clear rD0 rQ0 rD1
  have X0 := xD.trans xQ
  have ce := reval_any h q hok _ _ wQ (hd0.ext X0) (hq0.ext X0)
  (repeat' (first | refine eV rfl rfl (val_loadA rfl rfl rfl rD.at rfl) ?_ | refine eV rfl rfl (val_loadA rfl rfl rfl rQ.at rfl) ?_ | (refine EL_call rfl rfl (entersF rfl rfl en29) ce (fun vC wC hC => ?_); obtain ⟨xC, sC⟩ := hC) | (refine at_EL ?_; first | refine eN ?_ | refine eV rfl rfl (zA rfl rfl) ?_ | refine eV rfl rfl (zB rfl rfl) ?_) | (refine at_K ?_; first | refine K_then ?_) | (refine at_E ?_; first | refine E_seq ?_ | refine E_region ?_)))
  have ch := r1has_any (evF matchF d q) id vC wC sC
  (repeat' (first | (refine EL_call rfl rfl (entersF rfl rfl en33) ch (fun vE wE hE => ?_); obtain ⟨rfl, xE⟩ := hE) | (refine at_EL ?_; first | refine eN ?_ | refine eV rfl rfl (zB rfl rfl) ?_) | (refine at_K ?_; first | refine K_then ?_) | (refine at_E ?_; first | refine E_ret ?_)))
  exact ret_1 rfl rfl ⟨rfl, X0.trans (xC.trans xE)⟩
end Go.Proofs.YtnifmbbpfdghmaaGreatDoor
