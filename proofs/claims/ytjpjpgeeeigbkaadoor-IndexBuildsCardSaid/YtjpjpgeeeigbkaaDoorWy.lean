/-
  Walk: IndexBuilds.
-/
import Derived.Test.YtjpjpgeeeigbkaaDoorWv
import Derived.Test.YtjpjpgeeeigbkaaDoorY1
set_option linter.all false
namespace Go.Proofs.YtjpjpgeeeigbkaaDoor
open Go.RowKit Go.En
attribute [local irreducible] E EL K Val Enters Rt Calls bodyPost Code.wp RQ
set_option maxHeartbeats 4000000 in
theorem law4_any (o : Dc) (vo : Value) (w : World) (ho : DcAt w vo o) (hno : Names o) (hT : Tabs w) :
    Calls Tryd.prog 4 #[vo] w (Rt fun u w' => u = .bool true ∧ Ext w w') := by
  have ho0 := ho
  obtain ⟨so, tvo, nvo, rfl, hso, htv, hnv⟩ := ho
  refine calls_E (n := 17) (args := [.agg #[int o.rid, str o.rname, int o.len, int o.day, so, tvo, nvo]]) Tryd.func4 rfl Tryd.ntmps4 (by simp) ?_
  refine E_seq ?_
  refine E_region ?_
  refine EL_box rfl rfl rfl rfl (fun bO wO xO hbO rO0 => ?_)
  have rO : Row wO bO 36 [int o.rid, str o.rname, int o.len, int o.day, so, tvo, nvo] := rO0
  have hX := xO
  clear rO0
  have hO := ho0.ext hX
  replace hT := hT.ext hX
  (repeat' ((fail_if_success (refine E_seq (x := (Code.region 1 _ _)) ?_)); first | (refine at_EL ?_; first | refine eN ?_ | refine eV rfl rfl (zB rfl rfl) ?_) | (refine at_K ?_; first | refine K_then ?_)))
  refine E_seq ?_
  refine E.sub (M := [(1, .pointer (some ⟨bO, 0, none⟩)), (2, .bool false)]) ⟨rfl, rfl, trivial⟩ ?_
  refine E_pre (id := 1) 4 mixedOk (by kernel_rfl) (by kernel_rfl) rfl (fun w1 x1 => ?_)
  replace hX := hX.trans x1
  replace hT := hT.ext x1
  replace rO := rO.ext x1
  replace hO := hO.ext x1
  (repeat' (first | refine eV rfl rfl (val_loadA rfl rfl rfl rO.at rfl) ?_ | (refine EL_call rfl rfl (entersF rfl rfl en18) (dlight_any o _ _ hO hno) (fun vC wC hC => ?_); obtain ⟨⟨b1, rfl, hb1⟩, xC⟩ := hC; cases b1 <;> (replace hX := hX.trans xC; replace hT := hT.ext xC; replace rO := rO.ext xC; replace hO := hO.ext xC)) | (refine at_EL ?_; first | refine eN ?_ | refine eV rfl rfl (zA rfl rfl) ?_ | refine eV rfl rfl (zE rfl rfl) ?_)))
  · refine K_pre 4 15 (by kernel_rfl) rfl rfl rfl rfl ?_
    (repeat' (first | (refine RQ_call rfl rfl (fun _ _ _ => entersF rfl rfl en17) (fun wq xq => awake_any wq (hT.ext xq)) ?_) | refine RQ_end (fun wq δ xq hQ => ?_) | (refine at_EL ?_; first | refine eN ?_) | (refine at_K ?_; first | refine K_then ?_) | (refine at_E ?_; first | refine E_ret ?_) | (refine at_RQ ?_; first | refine yO rfl rfl ?_ | refine yV rfl rfl (fun _ _ _ => zA rfl rfl) ?_ | refine yV rfl rfl (fun _ _ _ => zB rfl rfl) ?_ | refine yV rfl rfl (fun _ _ _ => zC rfl rfl rfl) ?_)))
    all_goals exact ret_1 rfl rfl ⟨rfl, hX.trans xq⟩
  · have lo := hb1 rfl
    have tno := light_tier lo
    have l1 := lo.nnotes
    have l2 := lo.ntiers
    have l3 := lo.nsp
    obtain ⟨X, hXX⟩ : ∃ X, X = buildF o.tiers o.notes := ⟨_, rfl⟩
    have sX := fun u v w (h1 : Sl w u X) (h2 : Sl w v X) => rsame_any X X u v w h1 h2
    rw [decide_eq_true rfl] at sX
    refine K_pre 4 15 (by kernel_rfl) rfl rfl rfl rfl ?_
    (repeat' (first | refine yV rfl rfl (fun wq _ xq => val_loadA rfl rfl rfl (rO.ext xq).at rfl) ?_ | refine RQ_callR (fun u w' => DcAt w' u o) (fun _ => #[.agg #[int o.rid, str o.rname, int o.len, int o.day, so, tvo, nvo] ]) rfl rfl (fun _ _ _ _ xe h => h.ext xe) (fun _ _ _ => entersF rfl rfl en21) (fun wq _ xq _ => calls_mono (dcopy_any o _ wq (hO.ext xq) (by omega) (by omega) (by omega)) fun _ _ h => ⟨h.2, h.1⟩) ?_ | refine RQ_callR (fun u w' => Ix w' u X) (fun δ => #[δ 8]) rfl rfl (fun _ _ _ _ xe h => h.ext xe) (fun _ _ _ => entersF rfl rfl en20) (fun wq δ xq hs => by obtain ⟨s1, t1, n1, e, _, h1, h2⟩ := hs 8 rfl _ rfl; rw [e, hXX]; exact calls_mono (build_any o.tiers o.notes _ _ _ _ _ _ _ wq h1 h2 (by omega) tno) fun _ _ h => ⟨h.2, h.1⟩) ?_ | refine RQ_callR (fun u w' => Ix w' u X) (fun _ => #[.agg #[int o.rid, str o.rname, int o.len, int o.day, so, tvo, nvo] ]) rfl rfl (fun _ _ _ _ xe h => h.ext xe) (fun _ _ _ => entersF rfl rfl en22) (fun wq δ xq _ => by rw [hXX]; exact calls_mono (rbuild_any o _ wq (hO.ext xq) tno (by omega)) fun _ _ h => ⟨h.2, h.1⟩) ?_ | refine RQ_callV (fun δ => #[δ 9, δ 11]) rfl rfl (fun _ _ _ => entersF rfl rfl en19) (fun wq δ xq hs => by obtain ⟨s1, e1, h1⟩ := hs 9 rfl _ rfl; obtain ⟨s2, e2, h2⟩ := hs 11 rfl _ rfl; rw [e1, e2]; exact sX s1 s2 wq h1 h2) ?_ | (refine RQ_call rfl rfl (fun _ _ _ => entersF rfl rfl en17) (fun wq xq => awake_any wq (hT.ext xq)) ?_) | refine RQ_end (fun wq δ xq hQ => ?_) | (refine at_EL ?_; first | refine eN ?_) | (refine at_K ?_; first | refine K_then ?_) | (refine at_E ?_; first | refine E_ret ?_) | (refine at_RQ ?_; first | refine yV rfl rfl (fun _ _ _ => zA rfl rfl) ?_ | refine yV rfl rfl (fun _ _ _ => zB rfl rfl) ?_ | refine yV rfl rfl (fun _ _ _ => zC rfl rfl rfl) ?_ | refine yV rfl rfl (fun _ _ _ => zD rfl rfl rfl) ?_)))
    all_goals exact ret_1 rfl rfl ⟨rfl, hX.trans xq⟩
end Go.Proofs.YtjpjpgeeeigbkaaDoor
