/-
  Walks of the laws of search: SearchTexts, SearchBounds, SearchRuns.
-/
import Derived.Test.YtnifmbbpfdghmaaGreatDoorTj
import Derived.Test.YtnifmbbpfdghmaaGreatDoorTi
set_option linter.all false
namespace Go.Proofs.YtnifmbbpfdghmaaGreatDoor
open Go.RowKit Go.En
theorem eq_self {P : Program} {L : List (Nat × Value)} {w : World} {o : Oper} {t u : TypeId} {x y : Operand} {a b : Int} (ho : o.op = .binOp .eql t x y u) (hx : ev L x = some (int a)) (hy : ev L y = some (int b)) (h : a = b) : Val P L w o (.bool true) := eql_is ho hx hy (decide_eq_true h)
attribute [local irreducible] E EL K Val Enters Rt Calls bodyPost Code.wp RQ
set_option maxHeartbeats 8000000 in
set_option maxRecDepth 8000 in
theorem slaw8_any (xs : List Ix.Post) (s : Value) (r : Int) (p : List UInt8) (w : World) (hs : Sl w s xs) (hT : Tabs w) : Calls Tryz.prog 8 #[.agg #[s], int r, str p] w (Rt fun u w' => u = .bool true ∧ Ext w w') := by
  have hs0 := hs
  obtain ⟨sa, sc, rfl, _, _, _⟩ := hs.sl
  refine calls_E (n := 37) (args := [.agg #[.slice sa xs.length sc], int r, str p]) Tryz.func8 rfl Tryz.ntmps8 (by simp) ?_
  refine E_seq ?_
  refine E_region ?_
  refine EL_box rfl rfl rfl rfl (fun bX wX xX hbX rX0 => ?_)
  have rX : Row wX bX 49 [.slice sa xs.length sc] := rX0
  clear rX0
  have hX := xX
  (repeat' ((fail_if_success (refine E_seq (x := (Code.region 3 _ _)) ?_)); first | refine eV rfl rfl (val_loadA (cs := [.slice sa xs.length sc]) rfl rfl rfl rX.at rfl) ?_ | (refine EL_call rfl rfl (entersF rfl rfl en38) (small38_any xs _ _ (hs0.ext hX)) (fun vC wC hC => ?_); obtain ⟨⟨c, rfl, hf⟩, xC⟩ := hC; replace rX := rX.ext xC; replace hX := hX.trans xC; clear xC; cases c) | (refine EL_call rfl rfl (entersF rfl rfl en39) (sawake_any _ (Tabs.ext hT hX)) (fun vA wA hA => ?_); obtain ⟨rfl, xA⟩ := hA) | (refine at_EL ?_; first | refine eN ?_ | refine eO rfl rfl ?_ | refine eV rfl rfl (zA rfl rfl) ?_ | refine eV rfl rfl (zB rfl rfl) ?_ | (refine at_bin ?_; first | refine eD rfl rfl (zO rfl rfl rfl) (fun hh => ?_) (fun hh => ?_)) | (refine at_call ?_; first | refine eV rfl rfl (zJ rfl rfl) ?_) | refine eV rfl rfl (zC rfl rfl rfl) ?_ | refine eV rfl rfl (zD rfl rfl rfl) ?_ | refine eV rfl rfl (zE rfl rfl) ?_) | (refine at_K ?_; first | refine K_then ?_ | refine K_then_ret ?_) | (refine at_E ?_; first | refine E_seq ?_ | refine E_region ?_ | refine E_cond_t rfl ?_ | refine E_cond_f rfl ?_ | refine E_skip ?_ | refine E_ret ?_)))
  all_goals (first | (exfalso; omega) | skip)
  all_goals first
    | exact ret_1 rfl rfl ⟨rfl, hX.trans xA⟩
    | skip
  replace hf := hf rfl
  refine E.sub (M := [(1, int r), (2, str p), (3, .pointer (some ⟨bX, 0, none⟩))]) ⟨rfl, rfl, rfl, trivial⟩ ?_
  (repeat' (first | refine yV rfl rfl (fun wq _ xq => val_loadA (cs := [.slice sa xs.length sc]) rfl rfl rfl (rX.ext xq).at rfl) ?_ | (refine RQ_callR (f := 40) (fun u w' => Sl w' u (textX xs r (matchF p))) (fun δ => #[.agg #[.slice sa xs.length sc], int r, str p]) rfl rfl (fun _ _ _ _ xe h => SlG.ext h xe) (fun _ _ _ => entersF rfl rfl en40) (fun wq δ xq hd => ?_) ?_; (exact calls_mono (text40_any xs _ r p wq hf (hs0.ext (hX.trans xq)) (Tabs.ext hT (hX.trans xq))) (fun _ _ hh => ⟨hh.2.any, hh.1⟩))) | (refine RQ_callR (f := 41) (fun u w' => Sl w' u (textX xs r (matchF p))) (fun δ => #[.agg #[.slice sa xs.length sc], int r, str p]) rfl rfl (fun _ _ _ _ xe h => SlG.ext h xe) (fun _ _ _ => entersF rfl rfl en41) (fun wq δ xq hd => ?_) ?_; (exact calls_mono (rtext41_any xs _ r p wq hf (hs0.ext (hX.trans xq))) (fun _ _ hh => ⟨hh.2, hh.1⟩))) | (refine RQ_callV (f := 20) (v := .bool true) (fun δ => #[δ 19, δ 23]) rfl rfl (fun _ _ _ => entersF rfl rfl en20) (fun wq δ xq hd => ?_) ?_; (have := r1same_any (textX xs r (matchF p)) (textX xs r (matchF p)) _ _ wq (hd 19 rfl _ rfl) (hd 23 rfl _ rfl); rw [decide_eq_true rfl] at this; exact this)) | refine RQ_call rfl rfl (fun _ _ _ => entersF rfl rfl en42) (fun wq xq => count42_any xs _ r wq hf (hs0.ext (hX.trans xq))) ?_ | refine RQ_call rfl rfl (fun _ _ _ => entersF rfl rfl en43) (fun wq xq => rcount43_any xs _ r wq hf (hs0.ext (hX.trans xq))) ?_ | refine yV (v := .bool true) rfl rfl (fun _ _ _ => eq_self rfl rfl rfl rfl) ?_ | refine RQ_call (v := .bool true) rfl rfl (fun _ _ _ => entersF rfl rfl en39) (fun wq xq => sawake_any wq (Tabs.ext hT (hX.trans xq))) ?_ | refine RQ_end (fun wq δ xq hR => ?_) | (refine at_EL ?_; first | refine eN ?_) | (refine at_K ?_; first | refine K_then ?_) | (refine at_E ?_; first | refine E_seq ?_ | refine E_ret ?_ | refine E_dq mixedOk (by kernel_rfl) rfl ?_) | (refine at_RQ ?_; first | refine yV rfl rfl (fun _ _ _ => zA rfl rfl) ?_ | refine yV rfl rfl (fun _ _ _ => zB rfl rfl) ?_ | refine yV rfl rfl (fun _ _ _ => zC rfl rfl rfl) ?_)))
  all_goals (first | (exfalso; omega) | skip)
  all_goals exact ret_1 rfl rfl ⟨rfl, hX.trans xq⟩
set_option maxHeartbeats 8000000 in
set_option maxRecDepth 8000 in
theorem slaw9_any (xs : List Ix.Post) (q : Qy) (s vq : Value) (w : World) (hs : Sl w s xs) (hwq : QAt w vq q) (hT : Tabs w) : Calls Tryz.prog 9 #[.agg #[s], vq] w (Rt fun u w' => u = .bool true ∧ Ext w w') := by
  have hs0 := hs
  obtain ⟨sa, sc, rfl, _, _, _⟩ := hs.sl
  have hqq := hwq
  obtain ⟨kv, rfl, hkv⟩ := hwq
  obtain ⟨ka, kc, rfl, _, _, _⟩ := hkv.sl
  refine calls_E (n := 24) (args := [.agg #[.slice sa xs.length sc], .agg #[int q.op, int q.role, str q.text, .slice ka q.kids.length kc]]) Tryz.func9 rfl Tryz.ntmps9 (by simp) ?_
  refine E_seq ?_
  refine E_region ?_
  refine EL_box rfl rfl rfl rfl (fun bX wX xX hbX rX0 => ?_)
  have rX : Row wX bX 49 [.slice sa xs.length sc] := rX0
  clear rX0
  have hX := xX
  refine EL_box rfl rfl rfl rfl (fun bQ wQ xQ hbQ rQ0 => ?_)
  have rQ : Row wQ bQ 36 [int q.op, int q.role, str q.text, .slice ka q.kids.length kc] := rQ0
  clear rQ0
  replace rX := rX.ext xQ
  replace hX := hX.trans xQ
  (repeat' ((fail_if_success (refine E_seq (x := (Code.region 3 _ _)) ?_)); first | refine eV rfl rfl (val_loadA (cs := [.slice sa xs.length sc]) rfl rfl rfl rX.at rfl) ?_ | refine eV rfl rfl (val_loadA rfl rfl rfl rQ.at rfl) ?_ | (refine EL_call rfl rfl (entersF rfl rfl en38) (small38_any xs _ _ (hs0.ext hX)) (fun vC wC hC => ?_); obtain ⟨⟨c, rfl, hf⟩, xC⟩ := hC; replace rX := rX.ext xC; replace rQ := rQ.ext xC; replace hX := hX.trans xC; clear xC; cases c) | (refine EL_call rfl rfl (entersF rfl rfl en44) (asked44_any q _ _ (hqq.ext hX)) (fun vC wCq hC => ?_); obtain ⟨⟨cq, rfl, haq⟩, xC⟩ := hC; replace rX := rX.ext xC; replace rQ := rQ.ext xC; replace hX := hX.trans xC; clear xC; cases cq) | (refine EL_call rfl rfl (entersF rfl rfl en39) (sawake_any _ (Tabs.ext hT hX)) (fun vA wA hA => ?_); obtain ⟨rfl, xA⟩ := hA) | (refine at_EL ?_; first | refine eN ?_ | refine eO rfl rfl ?_ | refine eV rfl rfl (zA rfl rfl) ?_ | refine eV rfl rfl (zB rfl rfl) ?_ | refine eV rfl rfl (zC rfl rfl rfl) ?_ | refine eV rfl rfl (zD rfl rfl rfl) ?_ | refine eV rfl rfl (zE rfl rfl) ?_) | (refine at_K ?_; first | refine K_then ?_ | refine K_then_ret ?_) | (refine at_E ?_; first | refine E_seq ?_ | refine E_region ?_ | refine E_cond_t rfl ?_ | refine E_cond_f rfl ?_ | refine E_skip ?_ | refine E_ret ?_)))
  all_goals (first | (exfalso; omega) | skip)
  all_goals first
    | exact ret_1 rfl rfl ⟨rfl, hX.trans xA⟩
    | skip
  replace hf := hf rfl
  have hok := (haq rfl).1
  refine E.sub (M := [(2, .pointer (some ⟨bX, 0, none⟩)), (3, .pointer (some ⟨bQ, 0, none⟩))]) ⟨rfl, rfl, trivial⟩ ?_
  (repeat' (first | refine yV rfl rfl (fun wq _ xq => val_loadA (cs := [.slice sa xs.length sc]) rfl rfl rfl (rX.ext xq).at rfl) ?_ | refine yV rfl rfl (fun wq _ xq => val_loadA rfl rfl rfl (rQ.ext xq).at rfl) ?_ | refine RQ_call rfl rfl (fun _ _ _ => entersF rfl rfl en45) (fun wq xq => bound45_any hf q hok _ _ wq (hs0.ext (hX.trans xq)) (hqq.ext (hX.trans xq)) (Tabs.ext hT (hX.trans xq))) ?_ | refine RQ_call rfl rfl (fun _ _ _ => entersF rfl rfl en46) (fun wq xq => bound46_any hf q hok _ _ wq (hs0.ext (hX.trans xq)) (hqq.ext (hX.trans xq)) (Tabs.ext hT (hX.trans xq))) ?_ | refine yV (v := .bool true) rfl rfl (fun _ _ _ => eq_self rfl rfl rfl rfl) ?_ | refine RQ_call (v := .bool true) rfl rfl (fun _ _ _ => entersF rfl rfl en39) (fun wq xq => sawake_any wq (Tabs.ext hT (hX.trans xq))) ?_ | refine RQ_end (fun wq δ xq hR => ?_) | (refine at_EL ?_; first | refine eN ?_) | (refine at_K ?_; first | refine K_then ?_) | (refine at_E ?_; first | refine E_seq ?_ | refine E_ret ?_ | refine E_dq mixedOk (by kernel_rfl) rfl ?_) | (refine at_RQ ?_; first | refine yV rfl rfl (fun _ _ _ => zA rfl rfl) ?_ | refine yV rfl rfl (fun _ _ _ => zB rfl rfl) ?_ | refine yV rfl rfl (fun _ _ _ => zC rfl rfl rfl) ?_)))
  all_goals (first | (exfalso; omega) | skip)
  all_goals exact ret_1 rfl rfl ⟨rfl, hX.trans xq⟩
end Go.Proofs.YtnifmbbpfdghmaaGreatDoor
