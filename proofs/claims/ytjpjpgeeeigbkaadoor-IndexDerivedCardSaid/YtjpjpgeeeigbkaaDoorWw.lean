/-
  Walk: IndexDerived.
-/
import Derived.Test.YtjpjpgeeeigbkaaDoorWv
set_option linter.all false
namespace Go.Proofs.YtjpjpgeeeigbkaaDoor
open Go.RowKit Go.En
attribute [local irreducible] E EL K Val Enters Rt Calls bodyPost Code.wp RQ
set_option maxHeartbeats 4000000 in
theorem law12_any (o e : Dc) (vo ve : Value) (w : World) (ho : DcAt w vo o) (he : DcAt w ve e) (hno : Names o) (hne : Names e) (hT : Tabs w) :
    Calls Tryd.prog 12 #[vo, ve] w (Rt fun u w' => u = .bool true ∧ Ext w w') := by
  have ho0 := ho
  have he0 := he
  obtain ⟨so, tvo, nvo, rfl, _⟩ := ho
  obtain ⟨se, tve, nve, rfl, _⟩ := he
  refine calls_E (n := 51) (args := [.agg #[int o.rid, str o.rname, int o.len, int o.day, so, tvo, nvo], .agg #[int e.rid, str e.rname, int e.len, int e.day, se, tve, nve]]) Tryd.func12 rfl Tryd.ntmps12 (by simp) ?_
  refine E_seq ?_
  refine E_region ?_
  refine EL_box rfl rfl rfl rfl (fun bO wO xO hbO rO0 => ?_)
  refine EL_box rfl rfl rfl rfl (fun bE wE xE hbE rE0 => ?_)
  have rO : Row wE bO 36 [int o.rid, str o.rname, int o.len, int o.day, so, tvo, nvo] := rO0.ext xE
  have rE : Row wE bE 36 [int e.rid, str e.rname, int e.len, int e.day, se, tve, nve] := rE0
  have hX := xO.trans xE
  clear rO0 rE0
  have hO := ho0.ext hX
  have hE := he0.ext hX
  replace hT := hT.ext hX
  (repeat' ((fail_if_success (refine E_seq (x := (Code.region 3 _ _)) ?_)); first | refine eV rfl rfl (val_loadA rfl rfl rfl rO.at rfl) ?_ | refine eV rfl rfl (val_loadA rfl rfl rfl rE.at rfl) ?_ | (refine EL_call rfl rfl (entersF rfl rfl en18) (dlight_any o _ _ hO hno) (fun vC wC hC => ?_); obtain ⟨⟨b1, rfl, hb1⟩, xC⟩ := hC; cases b1 <;> (replace hX := hX.trans xC; replace hT := hT.ext xC; replace rO := rO.ext xC; replace rE := rE.ext xC; replace hO := hO.ext xC; replace hE := hE.ext xC)) | (refine EL_call rfl rfl (entersF rfl rfl en18) (dlight_any e _ _ hE hne) (fun vC wC hC => ?_); obtain ⟨⟨b2, rfl, hb2⟩, xC⟩ := hC; cases b2 <;> (replace hX := hX.trans xC; replace hT := hT.ext xC; replace rO := rO.ext xC; replace rE := rE.ext xC; replace hO := hO.ext xC; replace hE := hE.ext xC)) | (refine EL_call rfl rfl (entersF rfl rfl en17) (awake_any _ hT) (fun vA wA hA => ?_); obtain ⟨rfl, xA⟩ := hA) | (refine at_EL ?_; first | refine eN ?_ | refine eO rfl rfl ?_ | refine eV rfl rfl (zA rfl rfl) ?_ | refine eV rfl rfl (zB rfl rfl) ?_ | refine eV rfl rfl (zC rfl rfl rfl) ?_ | refine eV rfl rfl (zD rfl rfl rfl) ?_ | refine eV rfl rfl (zE rfl rfl) ?_) | (refine at_K ?_; first | refine K_then ?_ | refine K_then_ret ?_) | (refine at_E ?_; first | refine E_seq ?_ | refine E_region ?_ | refine E_cond_t rfl ?_ | refine E_cond_f rfl ?_ | refine E_skip ?_ | refine E_ret ?_)))
  all_goals (first | exact ret_1 rfl rfl ⟨rfl, hX.trans xA⟩ | skip)
  have lo := hb1 rfl
  have le := hb2 rfl
  have tno := light_tier lo
  have tne := light_tier le
  have l1 := lo.nnotes
  have l2 := lo.ntiers
  have l3 := lo.nsp
  have l4 := le.nnotes
  have l5 := le.ntiers
  have l6 := le.nsp
  obtain ⟨X, hXX⟩ : ∃ X, X = buildF o.tiers o.notes := ⟨_, rfl⟩
  obtain ⟨Y, hYY⟩ : ∃ Y, Y = buildF e.tiers e.notes := ⟨_, rfl⟩
  have smX : Small 14 X := by
    rw [hXX]
    have := Small.build o.tiers o.notes o.notes.length
    rw [List.take_length] at this
    exact this.wk l1
  have smY : Small 14 Y := by
    rw [hYY]
    have := Small.build e.tiers e.notes e.notes.length
    rw [List.take_length] at this
    exact this.wk l4
  -- the two indexes
  (repeat' (first | refine eV rfl rfl (val_loadA rfl rfl rfl rO.at rfl) ?_ | (refine at_E ?_; first | refine E_seq ?_ | refine E_region ?_)))
  refine EL_call rfl rfl (entersF rfl rfl en21) (dcopy_any o _ _ hO (by omega) (by omega) (by omega)) (fun vC wC hC => ?_)
  obtain ⟨xC, s1, t1, n1, rfl, _, ht1, hn1⟩ := hC
  refine EL_call rfl rfl (entersF rfl rfl en20) (build_any o.tiers o.notes _ _ _ _ _ _ _ _ ht1 hn1 (by omega) tno) (fun vB wB hB => ?_)
  obtain ⟨xB, sx, rfl, Sx⟩ := hB
  refine EL_alloc rfl rfl rfl (fun bX wX xX hbX rX0 => ?_)
  have Sx0 := (Sx.ext xX).old
  obtain ⟨ax, cx, rfl, _⟩ := Sx.sl
  have hbX2 : wB.heap.size ≤ bX := by omega
  refine EL_storeP (cs := [_]) rX0 xX hbX2 rfl rfl rfl rfl rfl rfl rfl rfl (Nat.le_refl _) (fun w1 rX x1 k1 => ?_)
  replace Sx := Sx.ext x1
  replace rX : Row w1 bX 24 [.slice ax X.length cx] := by rw [hXX]; exact rX
  rw [← hXX] at Sx
  have xx := xC.trans (xB.trans x1)
  replace hX := hX.trans xx
  replace hT := hT.ext xx
  replace rO := rO.ext xx
  replace rE := rE.ext xx
  replace hO := hO.ext xx
  replace hE := hE.ext xx
  clear Sx0 rX0 k1 xx
  (repeat' (first | refine eV rfl rfl (val_loadA rfl rfl rfl rE.at rfl) ?_ | (refine at_EL ?_; first | refine eN ?_) | (refine at_K ?_; first | refine K_then ?_) | (refine at_E ?_; first | refine E_seq ?_ | refine E_region ?_)))
  refine EL_call rfl rfl (entersF rfl rfl en21) (dcopy_any e _ _ hE (by omega) (by omega) (by omega)) (fun vC wC hC => ?_)
  obtain ⟨xC, s1, t1, n1, rfl, _, ht1, hn1⟩ := hC
  refine EL_call rfl rfl (entersF rfl rfl en20) (build_any e.tiers e.notes _ _ _ _ _ _ _ _ ht1 hn1 (by omega) tne) (fun vB wB hB => ?_)
  obtain ⟨xB, sy, rfl, Sy⟩ := hB
  refine EL_alloc rfl rfl rfl (fun bY wY xY hbY rY0 => ?_)
  obtain ⟨ay, cy, rfl, _⟩ := Sy.sl
  have hbY2 : wB.heap.size ≤ bY := by omega
  refine EL_storeP (cs := [_]) rY0 xY hbY2 rfl rfl rfl rfl rfl rfl rfl rfl (Nat.le_refl _) (fun w2 rY x2 k2 => ?_)
  replace Sy := Sy.ext x2
  replace rY : Row w2 bY 24 [.slice ay Y.length cy] := by rw [hYY]; exact rY
  rw [← hYY] at Sy
  have xx := xC.trans (xB.trans x2)
  replace hX := hX.trans xx
  replace hT := hT.ext xx
  replace rO := rO.ext xx
  replace rE := rE.ext xx
  replace hO := hO.ext xx
  replace hE := hE.ext xx
  replace rX := rX.ext xx
  replace Sx := Sx.ext xx
  clear rY0 k2 xx
  refine EL_nil ?_
  refine K_then ?_
  have d1 : updF X o e = Y := by rw [hXX, hYY]; exact derived o e
  have d2 : updF Y e o = X := by rw [hXX, hYY]; exact derived e o
  have kY : checkP Y = 0 := by rw [hYY]; exact right_iff.2 (build_right _ _)
  have cC := fun u w (h : Sl w u Y) => pcheck_any Y u w h
  rw [kY] at cC
  have sX := fun u v w (h1 : Sl w u X) (h2 : Sl w v X) => psame_any X X u v w h1 h2
  have sY := fun u v w (h1 : Sl w u Y) (h2 : Sl w v Y) => psame_any Y Y u v w h1 h2
  rw [decide_eq_true rfl] at sX sY
  refine E.sub (M := [(2, .pointer (some ⟨bO, 0, none⟩)), (3, .pointer (some ⟨bE, 0, none⟩)), (5, .pointer (some ⟨bX, 0, none⟩)), (6, .pointer (some ⟨bY, 0, none⟩))]) ⟨rfl, rfl, rfl, rfl, trivial⟩ ?_
  clear hXX hYY kY
  (repeat' (first | refine yV rfl rfl (fun wq _ xq => val_loadA rfl rfl rfl (rX.ext xq).at rfl) ?_ | refine yV rfl rfl (fun wq _ xq => val_loadA rfl rfl rfl (rY.ext xq).at rfl) ?_ | refine yV rfl rfl (fun wq _ xq => val_loadA rfl rfl rfl (rO.ext xq).at rfl) ?_ | refine yV rfl rfl (fun wq _ xq => val_loadA rfl rfl rfl (rE.ext xq).at rfl) ?_ | refine RQ_callR (fun u w' => Ix w' u X) (fun _ => #[.agg #[.slice ax X.length cx] ]) rfl rfl (fun _ _ _ _ xe h => h.ext xe) (fun _ _ _ => entersF rfl rfl en15) (fun wq _ xq _ => calls_mono (copy_any X _ wq (Sx.ext xq) (by have := smX.1; omega) (fun p hp => by have := smX.2 p hp; omega)) fun _ _ h => ⟨h.2, h.1⟩) ?_ | refine RQ_callR (fun u w' => Ix w' u Y) (fun _ => #[.agg #[.slice ay Y.length cy] ]) rfl rfl (fun _ _ _ _ xe h => h.ext xe) (fun _ _ _ => entersF rfl rfl en15) (fun wq _ xq _ => calls_mono (copy_any Y _ wq (Sy.ext xq) (by have := smY.1; omega) (fun p hp => by have := smY.2 p hp; omega)) fun _ _ h => ⟨h.2, h.1⟩) ?_ | refine RQ_callR (fun u w' => DcAt w' u o) (fun _ => #[.agg #[int o.rid, str o.rname, int o.len, int o.day, so, tvo, nvo] ]) rfl rfl (fun _ _ _ _ xe h => h.ext xe) (fun _ _ _ => entersF rfl rfl en21) (fun wq _ xq _ => calls_mono (dcopy_any o _ wq (hO.ext xq) (by omega) (by omega) (by omega)) fun _ _ h => ⟨h.2, h.1⟩) ?_ | refine RQ_callR (fun u w' => DcAt w' u e) (fun _ => #[.agg #[int e.rid, str e.rname, int e.len, int e.day, se, tve, nve] ]) rfl rfl (fun _ _ _ _ xe h => h.ext xe) (fun _ _ _ => entersF rfl rfl en21) (fun wq _ xq _ => calls_mono (dcopy_any e _ wq (hE.ext xq) (by omega) (by omega) (by omega)) fun _ _ h => ⟨h.2, h.1⟩) ?_ | refine RQ_callV (fun δ => #[δ 23]) rfl rfl (fun _ _ _ => entersF rfl rfl en14) (fun wq δ xq hs => by obtain ⟨s1, e1, h1⟩ := hs 23 rfl _ rfl; rw [e1]; exact cC s1 wq h1) ?_ | refine RQ_callR (fun u w' => Ix w' u Y) (fun δ => #[δ 28, δ 30, δ 32]) rfl rfl (fun _ _ _ _ xe h => h.ext xe) (fun _ _ _ => entersF rfl rfl en36) (fun wq δ xq hs => by obtain ⟨s2, he, h'⟩ := hs 28 rfl _ rfl; rw [he, ← d1]; exact calls_mono (update_any X o e s2 _ _ wq h' (hs 30 rfl _ rfl) (hs 32 rfl _ rfl) (smX.wk (by omega)) tno tne (by omega) (by omega)) fun _ _ h => ⟨h.2, h.1⟩) ?_ | refine RQ_callR (fun u w' => Ix w' u X) (fun δ => #[δ 39, δ 41, δ 43]) rfl rfl (fun _ _ _ _ xe h => h.ext xe) (fun _ _ _ => entersF rfl rfl en36) (fun wq δ xq hs => by obtain ⟨s2, he, h'⟩ := hs 39 rfl _ rfl; rw [he, ← d2]; exact calls_mono (update_any Y e o s2 _ _ wq h' (hs 41 rfl _ rfl) (hs 43 rfl _ rfl) (smY.wk (by omega)) tne tno (by omega) (by omega)) fun _ _ h => ⟨h.2, h.1⟩) ?_ | refine RQ_callV (fun δ => #[δ 33, .agg #[.slice ay Y.length cy] ]) rfl rfl (fun _ _ _ => entersF rfl rfl en34) (fun wq δ xq hs => by obtain ⟨s1, e1, h1⟩ := hs 33 rfl _ rfl; rw [e1]; exact sY s1 _ wq h1 (Sy.ext xq)) ?_ | refine RQ_callV (fun δ => #[δ 44, .agg #[.slice ax X.length cx] ]) rfl rfl (fun _ _ _ => entersF rfl rfl en34) (fun wq δ xq hs => by obtain ⟨s1, e1, h1⟩ := hs 44 rfl _ rfl; rw [e1]; exact sX s1 _ wq h1 (Sx.ext xq)) ?_ | (refine RQ_call rfl rfl (fun _ _ _ => entersF rfl rfl en17) (fun wq xq => awake_any wq (hT.ext xq)) ?_) | refine RQ_end (fun wq δ xq hQ => ?_) | (refine at_EL ?_; first | refine eN ?_) | (refine at_K ?_; first | refine K_then ?_) | (refine at_E ?_; first | refine E_seq ?_ | refine E_ret ?_ | refine E_dq mixedOk (by kernel_rfl) rfl ?_) | (refine at_RQ ?_; first | refine yO rfl rfl ?_ | refine yV rfl rfl (fun _ _ _ => zA rfl rfl) ?_ | refine yV rfl rfl (fun _ _ _ => zB rfl rfl) ?_ | (refine at_binR ?_; first | refine yD rfl rfl (fun _ _ _ => zM rfl rfl rfl) (fun hh => ?_) (fun hh => ?_)) | refine yV rfl rfl (fun _ _ _ => zC rfl rfl rfl) ?_ | refine yV rfl rfl (fun _ _ _ => zD rfl rfl rfl) ?_)))
  all_goals (first | (exact absurd rfl ‹_›) | exact ret_1 rfl rfl ⟨rfl, hX.trans xq⟩)
end Go.Proofs.YtjpjpgeeeigbkaaDoor
