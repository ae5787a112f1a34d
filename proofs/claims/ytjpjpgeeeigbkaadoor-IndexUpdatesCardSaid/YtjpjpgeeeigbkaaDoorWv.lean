/-
  Walk: IndexUpdates.
-/
import Derived.Test.YtjpjpgeeeigbkaaDoorWj
import Derived.Test.YtjpjpgeeeigbkaaDoorWl
import Derived.Test.YtjpjpgeeeigbkaaDoorWu
import Derived.Test.YtjpjpgeeeigbkaaDoorDj
set_option linter.all false
namespace Go.Proofs.YtjpjpgeeeigbkaaDoor
open Go.RowKit Go.En
theorem sum_mem4 : ∀ {xs : List Post} {p : Post}, p ∈ xs → p.ids.length ≤ (xs.map fun p => p.ids.length).sum
  | [], _, h => by simp at h
  | x :: r, p, h => by
    rcases List.mem_cons.1 h with rfl | h
    · simp
    · have := sum_mem4 h; simp; omega
theorem small_of2 {xs : List Post} {k : Nat} (h : sizeP xs ≤ k) : Small k xs := by
  unfold sizeP at h
  exact ⟨by omega, fun p hp => by have := sum_mem4 hp; omega⟩
theorem light_tier {d : Dc} (h : LightD d) : TierIn d := fun n hn => by
  obtain ⟨i, hi⟩ := List.getElem?_of_mem hn
  obtain ⟨t, k, h1, h2, _⟩ := (h.notes i n hi).placed
  have := (List.getElem?_eq_some_iff.1 h2).1
  omega
attribute [local irreducible] E EL K Val Enters Rt Calls bodyPost Code.wp RQ
set_option maxHeartbeats 4000000 in
theorem law11_any (xs : List Post) (o e : Dc) (s vo ve : Value) (w : World) (hv : Sl w s xs) (ho : DcAt w vo o) (he : DcAt w ve e) (hno : Names o) (hne : Names e) (hT : Tabs w) :
    Calls Tryd.prog 11 #[.agg #[s], vo, ve] w (Rt fun u w' => u = .bool true ∧ Ext w w') := by
  have ho0 := ho
  have he0 := he
  obtain ⟨so, tvo, nvo, rfl, _⟩ := ho
  obtain ⟨se, tve, nve, rfl, _⟩ := he
  refine calls_E (n := 36) (args := [.agg #[s], .agg #[int o.rid, str o.rname, int o.len, int o.day, so, tvo, nvo], .agg #[int e.rid, str e.rname, int e.len, int e.day, se, tve, nve]]) Tryd.func11 rfl Tryd.ntmps11 (by simp) ?_
  have hv0 := hv
  obtain ⟨as_, cs_, rfl, _⟩ := hv0.sl
  have c23 := light_any xs _ _ (hv.ext (Ext.refl w))
  refine E_seq ?_
  refine E_region ?_
  refine EL_box rfl rfl rfl rfl (fun bX wX xX hbX rX0 => ?_)
  refine EL_box rfl rfl rfl rfl (fun bO wO xO hbO rO0 => ?_)
  refine EL_box rfl rfl rfl rfl (fun bE wE xE hbE rE0 => ?_)
  have rX : Row wE bX 24 [.slice as_ xs.length cs_] := rX0.ext (xO.trans xE)
  have rO : Row wE bO 36 [int o.rid, str o.rname, int o.len, int o.day, so, tvo, nvo] := rO0.ext xE
  have rE : Row wE bE 36 [int e.rid, str e.rname, int e.len, int e.day, se, tve, nve] := rE0
  have hX := xX.trans (xO.trans xE)
  clear rX0 rO0 rE0 c23
  have S := hv.ext hX
  have hO := ho0.ext hX
  have hE := he0.ext hX
  replace hT := hT.ext hX
  have c23 := light_any xs _ wE S
  obtain ⟨bl, hbl⟩ : ∃ bl, bl = lightF xs := ⟨_, rfl⟩
  rw [← hbl] at c23
  cases bl
  all_goals
    (repeat' ((fail_if_success (refine E_seq (x := (Code.region 3 _ _)) ?_)); first | refine eV rfl rfl (val_loadA rfl rfl rfl rX.at rfl) ?_ | refine eV rfl rfl (val_loadA rfl rfl rfl rO.at rfl) ?_ | refine eV rfl rfl (val_loadA rfl rfl rfl rE.at rfl) ?_ | (refine EL_call rfl rfl (entersF rfl rfl en23) c23 (fun vC wC hC => ?_); obtain ⟨rfl, xC⟩ := hC; replace hX := hX.trans xC; replace hT := hT.ext xC; replace S := S.ext xC; replace rX := rX.ext xC; replace rO := rO.ext xC; replace rE := rE.ext xC; replace hO := hO.ext xC; replace hE := hE.ext xC) | (refine EL_call rfl rfl (entersF rfl rfl en18) (dlight_any o _ _ hO hno) (fun vC wC hC => ?_); obtain ⟨⟨b1, rfl, hb1⟩, xC⟩ := hC; cases b1 <;> (replace hX := hX.trans xC; replace hT := hT.ext xC; replace S := S.ext xC; replace rX := rX.ext xC; replace rO := rO.ext xC; replace rE := rE.ext xC; replace hO := hO.ext xC; replace hE := hE.ext xC)) | (refine EL_call rfl rfl (entersF rfl rfl en18) (dlight_any e _ _ hE hne) (fun vC wC hC => ?_); obtain ⟨⟨b2, rfl, hb2⟩, xC⟩ := hC; cases b2 <;> (replace hX := hX.trans xC; replace hT := hT.ext xC; replace S := S.ext xC; replace rX := rX.ext xC; replace rO := rO.ext xC; replace rE := rE.ext xC; replace hO := hO.ext xC; replace hE := hE.ext xC)) | (refine EL_call rfl rfl (entersF rfl rfl en17) (awake_any _ hT) (fun vA wA hA => ?_); obtain ⟨rfl, xA⟩ := hA) | (refine at_EL ?_; first | refine eN ?_ | refine eO rfl rfl ?_ | refine eV rfl rfl (zA rfl rfl) ?_ | refine eV rfl rfl (zB rfl rfl) ?_ | refine eV rfl rfl (zC rfl rfl rfl) ?_ | refine eV rfl rfl (zD rfl rfl rfl) ?_ | refine eV rfl rfl (zE rfl rfl) ?_) | (refine at_K ?_; first | refine K_then ?_ | refine K_then_ret ?_) | (refine at_E ?_; first | refine E_seq ?_ | refine E_region ?_ | refine E_cond_t rfl ?_ | refine E_cond_f rfl ?_ | refine E_skip ?_ | refine E_ret ?_)))
    all_goals (first | exact ret_1 rfl rfl ⟨rfl, hX.trans xA⟩ | skip)
  have lo := hb1 rfl
  have le := hb2 rfl
  have hlf := hbl.symm
  simp only [lightF, Bool.and_eq_true, decide_eq_true_eq] at hlf
  have hsx := small_of2 hlf.1
  have hR := right_iff.1 hlf.2
  have tno := light_tier lo
  have tne := light_tier le
  have l1 := lo.nnotes
  have l2 := lo.ntiers
  have l3 := lo.nsp
  have l4 := le.nnotes
  have l5 := le.ntiers
  have l6 := le.nsp
  obtain ⟨Y, hY⟩ : ∃ Y, Y = updF xs o e := ⟨_, rfl⟩
  have sY := fun u v w (h1 : Sl w u Y) (h2 : Sl w v Y) => rsame_any Y Y u v w h1 h2
  rw [decide_eq_true rfl] at sY
  (repeat' (first | refine yV rfl rfl (fun wq _ xq => val_loadA rfl rfl rfl (rX.ext xq).at rfl) ?_ | refine yV rfl rfl (fun wq _ xq => val_loadA rfl rfl rfl (rO.ext xq).at rfl) ?_ | refine yV rfl rfl (fun wq _ xq => val_loadA rfl rfl rfl (rE.ext xq).at rfl) ?_ | refine RQ_callR (fun u w' => Ix w' u xs) (fun _ => #[.agg #[.slice as_ xs.length cs_] ]) rfl rfl (fun _ _ _ _ xe h => h.ext xe) (fun _ _ _ => entersF rfl rfl en15) (fun wq _ xq _ => calls_mono (copy_any xs _ wq (S.ext xq) (by have := hsx.1; omega) (fun p hp => by have := hsx.2 p hp; omega)) fun _ _ h => ⟨h.2, h.1⟩) ?_ | refine RQ_callR (fun u w' => DcAt w' u o) (fun _ => #[.agg #[int o.rid, str o.rname, int o.len, int o.day, so, tvo, nvo] ]) rfl rfl (fun _ _ _ _ xe h => h.ext xe) (fun _ _ _ => entersF rfl rfl en21) (fun wq _ xq _ => calls_mono (dcopy_any o _ wq (hO.ext xq) (by omega) (by omega) (by omega)) fun _ _ h => ⟨h.2, h.1⟩) ?_ | refine RQ_callR (fun u w' => DcAt w' u e) (fun _ => #[.agg #[int e.rid, str e.rname, int e.len, int e.day, se, tve, nve] ]) rfl rfl (fun _ _ _ _ xe h => h.ext xe) (fun _ _ _ => entersF rfl rfl en21) (fun wq _ xq _ => calls_mono (dcopy_any e _ wq (hE.ext xq) (by omega) (by omega) (by omega)) fun _ _ h => ⟨h.2, h.1⟩) ?_ | refine RQ_callR (fun u w' => Ix w' u Y) (fun δ => #[δ 22, δ 24, δ 26]) rfl rfl (fun _ _ _ _ xe h => h.ext xe) (fun _ _ _ => entersF rfl rfl en36) (fun wq δ xq hs => by obtain ⟨s2, he, h'⟩ := hs 22 rfl _ rfl; rw [he, hY]; exact calls_mono (update_any xs o e s2 _ _ wq h' (hs 24 rfl _ rfl) (hs 26 rfl _ rfl) (hsx.wk (by omega)) tno tne (by omega) (by omega)) fun _ _ h => ⟨h.2, h.1⟩) ?_ | refine RQ_callR (fun u w' => Ix w' u Y) (fun _ => #[.agg #[.slice as_ xs.length cs_], .agg #[int o.rid, str o.rname, int o.len, int o.day, so, tvo, nvo], .agg #[int e.rid, str e.rname, int e.len, int e.day, se, tve, nve] ]) rfl rfl (fun _ _ _ _ xe h => h.ext xe) (fun _ _ _ => entersF rfl rfl en37) (fun wq δ xq _ => by rw [hY]; exact calls_mono (rupdate_any xs o e _ _ _ wq (S.ext xq) (hO.ext xq) (hE.ext xq) hR (hsx.wk (by omega)) tno tne (by omega) (by omega)) fun _ _ h => ⟨h.2, h.1⟩) ?_ | refine RQ_callV (fun δ => #[δ 27, δ 31]) rfl rfl (fun _ _ _ => entersF rfl rfl en19) (fun wq δ xq hs => by obtain ⟨s1, e1, h1⟩ := hs 27 rfl _ rfl; obtain ⟨s2, e2, h2⟩ := hs 31 rfl _ rfl; rw [e1, e2]; exact sY s1 s2 wq h1 h2) ?_ | (refine RQ_call rfl rfl (fun _ _ _ => entersF rfl rfl en17) (fun wq xq => awake_any wq (hT.ext xq)) ?_) | refine RQ_end (fun wq δ xq hQ => ?_) | (refine at_EL ?_; first | refine eN ?_) | (refine at_K ?_; first | refine K_then ?_) | (refine at_E ?_; first | refine E_seq ?_ | refine E_ret ?_ | refine E_dq mixedOk (by kernel_rfl) rfl ?_) | (refine at_RQ ?_; first | refine yV rfl rfl (fun _ _ _ => zA rfl rfl) ?_ | refine yV rfl rfl (fun _ _ _ => zB rfl rfl) ?_ | refine yV rfl rfl (fun _ _ _ => zC rfl rfl rfl) ?_)))
  all_goals exact ret_1 rfl rfl ⟨rfl, hX.trans xq⟩
end Go.Proofs.YtjpjpgeeeigbkaaDoor
