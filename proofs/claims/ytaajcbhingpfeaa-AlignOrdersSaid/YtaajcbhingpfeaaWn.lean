/-
  Walks of align: At, of both.
-/
import Derived.Test.YtaajcbhingpfeaaWm
set_option linter.all false
namespace Go.Proofs.Ytaajcbhingpfeaa
open Go.RowKit Go.En
theorem at_hit {d : Dc} {k ms : Int} {i : Nat} {m : Note} (hall : ∀ j, j < i → ∀ x, (ofR d k)[j]? = some x → hitB d ms x = false) (hm : (ofR d k)[i]? = some m) (hh : hitB d ms m = true) : atF d k ms = m.id := by
  unfold atF; rw [find_here hall hm hh]
theorem at_miss {d : Dc} {k ms : Int} {i : Nat} (hall : ∀ j, j < i → ∀ x, (ofR d k)[j]? = some x → hitB d ms x = false) (hi : (ofR d k).length ≤ i) : atF d k ms = 0 := by
  unfold atF
  rw [List.find?_eq_none.2 fun m hm => ?_]
  obtain ⟨j, hj⟩ := List.getElem?_of_mem hm
  have := (List.getElem?_eq_some_iff.1 hj).1
  simpa using hall j (by omega) m hj
theorem all_next {α : Type} {f : α → Bool} {l : List α} {i : Nat} {x : α} (hall : ∀ j, j < i → ∀ y, l[j]? = some y → f y = false) (hx : l[i]? = some x) (hf : f x = false) : ∀ j, j < i + 1 → ∀ y, l[j]? = some y → f y = false := fun j hj y hy => by
  by_cases hj2 : j < i
  · exact hall j hj2 y hy
  · obtain rfl : j = i := by omega
    rw [hx] at hy; cases hy
    exact hf
theorem whereV_eq {d : Dc} {id s1 s2 : Int} (h1 : (spanF d id).1 = s1) (h2 : (spanF d id).2 = s2) : whereV d id = .tuple #[.agg #[int s1, int s2], .bool (whereF d id).isSome] := by
  subst h1; subst h2; rfl
attribute [local irreducible] E EL K Val Enters Rt Calls bodyPost Code.wp RQ
set_option maxHeartbeats 4000000 in
set_option maxRecDepth 8000 in
theorem at_any {d : Dc} (h : LightD d) (v : Value) (k ms : Int) (w : World) (hv : DcAt w v d) : Calls Try.prog 24 #[v, int k, int ms] w (Rt fun u w' => u = int (atF d k ms) ∧ Ext w w') := by
  have hd0 := hv
  obtain ⟨sv, tv, nv, rfl, _, ht, hn⟩ := hv
  refine calls_E (n := 37) (args := [.agg #[int d.rid, str d.rname, int d.len, int d.day, sv, tv, nv], int k, int ms]) Try.func24 rfl Try.ntmps24 (by simp) ?_
  refine E_seq ?_
  refine E_region ?_
  refine EL_box rfl rfl rfl rfl (fun bD wD xD hbD rD0 => ?_)
  have rD : Row wD bD 28 [int d.rid, str d.rname, int d.len, int d.day, sv, tv, nv] := rD0
  clear rD0
  have cg := of_any h _ (k.toNat + 1) k wD (by omega) (hd0.ext xD)
  obtain ⟨X, hX⟩ : ∃ X, X = ofR d k := ⟨_, rfl⟩
  obtain ⟨I, hI⟩ : ∃ I : List Int, I = X.map (fun n => n.id) := ⟨_, rfl⟩
  rw [← hX, ← hI] at cg
  have hIl : I.length = X.length := by rw [hI, List.length_map]
  have hXl : X.length ≤ 14 := hX ▸ ofR_len h k
  (repeat' (first | refine eV rfl rfl (val_loadA rfl rfl rfl rD.at rfl) ?_ | (refine EL_call rfl rfl (entersF rfl rfl en45) cg (fun vC wC hC => ?_); obtain ⟨xC, sC⟩ := hC) | (refine at_EL ?_; first | refine eN ?_ | refine eV rfl rfl (zA rfl rfl) ?_ | refine eV rfl rfl (zB rfl rfl) ?_) | (refine at_K ?_; first | refine K_then ?_) | (refine at_E ?_; first | refine E_seq ?_ | refine E_region ?_)))
  have sC0 := sC
  obtain ⟨a, cap, rfl, hc, hm, hp⟩ := sC.sl
  (repeat' (first | (refine at_EL ?_; first | refine eN ?_ | refine eV rfl rfl (zA rfl rfl) ?_ | (refine at_call ?_; first | refine eV rfl rfl (zK rfl rfl) ?_)) | (refine at_K ?_; first | refine K_then ?_) | (refine at_E ?_; first | refine E_block ?_)))
  refine E_loop (ι := Nat) (fun i => [(2, int ms), (3, .pointer (some ⟨bD, 0, none⟩)), (13, .slice a I.length cap), (14, int I.length), (15, int i)])
    (fun i wr => i ≤ X.length ∧ Ext wC wr ∧ ∀ j, j < i → ∀ m, (ofR d k)[j]? = some m → hitB d ms m = false) (fun i => X.length - i) 0
    ⟨rfl, rfl, rfl, rfl, rfl, trivial⟩ ⟨Nat.zero_le _, Ext.refl _, fun j hj => by omega⟩ ?_
  rintro i wr ⟨hi, hx, hall⟩
  have rDr := rD.ext (xC.trans hx)
  have hXr := xD.trans (xC.trans hx)
  by_cases hlt : i < X.length
  · obtain ⟨b, off, rfl⟩ := hp (by omega)
    obtain ⟨m, hm1⟩ : ∃ m, X[i]? = some m := ⟨_, List.getElem?_eq_getElem hlt⟩
    have hmI : I[i]? = some m.id := by rw [hI, List.getElem?_map, hm1]; rfl
    have hcx := int_elem (sC0.ext hx) hmI
    obtain ⟨s1, hs1⟩ : ∃ s1, (spanF d m.id).1 = s1 := ⟨_, rfl⟩
    obtain ⟨s2, hs2⟩ : ∃ s2, (spanF d m.id).2 = s2 := ⟨_, rfl⟩
    have cw := where_any h _ m.id wr (hd0.ext hXr)
    rw [whereV_eq hs1 hs2] at cw
    have hhit : hitB d ms m = (decide (s1 ≤ ms) && decide (ms < s2)) := by unfold hitB; rw [hs1, hs2]
    rw [hX] at hm1
    (repeat' (first | refine eV rfl rfl (val_indexAddr (m := i) rfl rfl rfl rfl (by omega)) ?_ | refine eV rfl rfl (val_load rfl rfl rfl hcx) ?_ | refine eV rfl rfl (val_loadA rfl rfl rfl rDr.at rfl) ?_ | (refine EL_call rfl rfl (entersF rfl rfl en18) cw (fun vE wE hE => ?_); obtain ⟨rfl, xE⟩ := hE) | (refine at_EL ?_; first | refine eN ?_ | refine eV rfl rfl (zA rfl rfl) ?_ | refine eV rfl rfl (zB rfl rfl) ?_ | (refine at_bin ?_; first | refine eD rfl rfl (zL rfl rfl rfl) (fun hh => ?_) (fun hh => ?_)) | refine eV rfl rfl (zF rfl rfl rfl) ?_) | (refine at_K ?_; first | refine K_then ?_ | refine K_then_exit ?_ | refine K_in_exit ?_) | (refine at_E ?_; first | refine E_seq ?_ | refine E_region ?_ | refine E_cond_t rfl ?_ | refine E_cond_f rfl ?_ | refine E_block ?_ | refine E_skip ?_ | refine E_ret ?_ | refine E_exit ?_)))
    all_goals (first | (exfalso; omega) | skip)
    refine EL_alloc rfl rfl rfl (fun b9 w9 x9 hb9 r9 => ?_)
    refine EL_storeP (cs := [int s1, int s2]) r9 (xE.trans x9) (by have := xE.size; omega) rfl rfl rfl rfl rfl rfl rfl rfl (Nat.le_refl _) (fun w1 r1 x1 k1 => ?_)
    have r9' : Row w1 b9 35 [int s1, int s2] := r1
    clear r1 r9
    (repeat' (first | refine eV rfl rfl (val_load rfl rfl rfl (r9'.cellAt rfl)) ?_ | (refine at_EL ?_; first | refine eN ?_ | refine eO rfl rfl ?_ | refine eV rfl rfl (zA rfl rfl) ?_ | refine eV rfl rfl (zB rfl rfl) ?_ | (refine at_bin ?_; first | refine eD rfl rfl (zL rfl rfl rfl) (fun hh => ?_) (fun hh => ?_) | refine eD rfl rfl (zN rfl rfl rfl) (fun hh => ?_) (fun hh => ?_) | refine eV rfl rfl (zU rfl rfl rfl (by omega) (by omega)) ?_) | refine eV rfl rfl (zC rfl rfl rfl) ?_ | refine eV rfl rfl (zD rfl rfl rfl) ?_ | refine eV rfl rfl (zH rfl rfl) ?_) | (refine at_K ?_; first | refine K_then ?_ | refine K_in ?_ | refine K_then_ret ?_ | refine K_in_ret ?_) | (refine at_E ?_; first | refine E_seq ?_ | refine E_region ?_ | refine E_cond_t rfl ?_ | refine E_cond_f rfl ?_ | refine E_skip ?_ | refine E_ret ?_)))
    all_goals (first | (exfalso; omega) | skip)
    · refine ret_1 rfl rfl ⟨?_, hXr.trans x1⟩
      rw [at_hit hall hm1 (by rw [hhit]; simp; omega)]
    all_goals exact K_rnd (i + 1) ⟨rfl, rfl, rfl, rfl, rfl, trivial⟩ ⟨by omega, hx.trans x1, all_next hall hm1 (by rw [hhit]; simp; omega)⟩ (by omega)
  · (repeat' (first | (refine at_EL ?_; first | refine eN ?_ | refine eV rfl rfl (zB rfl rfl) ?_ | (refine at_bin ?_; first | refine eD rfl rfl (zL rfl rfl rfl) (fun hh => ?_) (fun hh => ?_))) | (refine at_K ?_; first | refine K_then ?_ | refine K_then_exit ?_ | refine K_in_exit ?_) | (refine at_E ?_; first | refine E_seq ?_ | refine E_region ?_ | refine E_cond_t rfl ?_ | refine E_cond_f rfl ?_ | refine E_block ?_ | refine E_skip ?_ | refine E_ret ?_ | refine E_exit ?_)))
    all_goals (first | (exfalso; omega) | skip)
    exact ret_1 rfl rfl ⟨by rw [at_miss hall (by rw [← hX]; omega)], hXr⟩
set_option maxHeartbeats 4000000 in
set_option maxRecDepth 8000 in
theorem refat_any {d : Dc} (h : LightD d) (v : Value) (k ms : Int) (w : World) (hv : DcAt w v d) : Calls Try.prog 25 #[v, int k, int ms] w (Rt fun u w' => u = int (atF d k ms) ∧ Ext w w') := by
  have hd0 := hv
  obtain ⟨sv, tv, nv, rfl, _, ht, hn⟩ := hv
  refine calls_E (n := 43) (args := [.agg #[int d.rid, str d.rname, int d.len, int d.day, sv, tv, nv], int k, int ms]) Try.func25 rfl Try.ntmps25 (by simp) ?_
  refine E_seq ?_
  refine E_region ?_
  refine EL_box rfl rfl rfl rfl (fun bD wD xD hbD rD0 => ?_)
  have rD : Row wD bD 28 [int d.rid, str d.rname, int d.len, int d.day, sv, tv, nv] := rD0
  clear rD0
  have cg := refof_any h _ k wD (hd0.ext xD)
  obtain ⟨X, hX⟩ : ∃ X, X = ofR d k := ⟨_, rfl⟩
  obtain ⟨I, hI⟩ : ∃ I : List Int, I = X.map (fun n => n.id) := ⟨_, rfl⟩
  rw [← hX, ← hI] at cg
  have hIl : I.length = X.length := by rw [hI, List.length_map]
  have hXl : X.length ≤ 14 := hX ▸ ofR_len h k
  (repeat' (first | refine eV rfl rfl (val_loadA rfl rfl rfl rD.at rfl) ?_ | (refine EL_call rfl rfl (entersF rfl rfl en43) cg (fun vC wC hC => ?_); obtain ⟨xC, sC⟩ := hC) | (refine at_EL ?_; first | refine eN ?_ | refine eV rfl rfl (zA rfl rfl) ?_ | refine eV rfl rfl (zB rfl rfl) ?_) | (refine at_K ?_; first | refine K_then ?_) | (refine at_E ?_; first | refine E_seq ?_ | refine E_region ?_ | refine E_block ?_)))
  have sC0 := sC
  obtain ⟨a, cap, rfl, hc, hm, hp⟩ := sC.sl
  skip
  refine E_loop (ι := Nat) (fun i => [(2, int ms), (3, .pointer (some ⟨bD, 0, none⟩)), (7, .slice a I.length cap), (8, int i)])
    (fun i wr => i ≤ X.length ∧ Ext wC wr ∧ ∀ j, j < i → ∀ m, (ofR d k)[j]? = some m → hitB d ms m = false) (fun i => X.length - i) 0
    ⟨rfl, rfl, rfl, rfl, trivial⟩ ⟨Nat.zero_le _, Ext.refl _, fun j hj => by omega⟩ ?_
  rintro i wr ⟨hi, hx, hall⟩
  have rDr := rD.ext (xC.trans hx)
  have hXr := xD.trans (xC.trans hx)
  by_cases hlt : i < X.length
  · obtain ⟨b, off, rfl⟩ := hp (by omega)
    obtain ⟨m, hm1⟩ : ∃ m, X[i]? = some m := ⟨_, List.getElem?_eq_getElem hlt⟩
    have hmI : I[i]? = some m.id := by rw [hI, List.getElem?_map, hm1]; rfl
    have hcx := int_elem (sC0.ext hx) hmI
    obtain ⟨s1, hs1⟩ : ∃ s1, (spanF d m.id).1 = s1 := ⟨_, rfl⟩
    obtain ⟨s2, hs2⟩ : ∃ s2, (spanF d m.id).2 = s2 := ⟨_, rfl⟩
    have cw : ∀ wq, Ext wr wq → Calls Try.prog 19 #[.agg #[int d.rid, str d.rname, int d.len, int d.day, sv, tv, nv], int m.id] wq (Rt fun u w' => u = .tuple #[.agg #[int s1, int s2], .bool (whereF d m.id).isSome] ∧ Ext wq w') := fun wq xq => by
      have := refwhere_any h _ m.id wq (hd0.ext (hXr.trans xq))
      rw [whereV_eq hs1 hs2] at this
      exact this
    have hhit : hitB d ms m = (decide (s1 ≤ ms) && decide (ms < s2)) := by unfold hitB; rw [hs1, hs2]
    rw [hX] at hm1
    (repeat' ((fail_if_success (refine E_seq (x := (Code.region 5 _ _)) ?_)); first | (refine at_EL ?_; first | refine eN ?_ | refine eV rfl rfl (zA rfl rfl) ?_ | refine eV rfl rfl (zB rfl rfl) ?_ | (refine at_bin ?_; first | refine eD rfl rfl (zL rfl rfl rfl) (fun hh => ?_) (fun hh => ?_)) | (refine at_call ?_; first | refine eV rfl rfl (zK rfl rfl) ?_)) | (refine at_K ?_; first | refine K_then ?_ | refine K_then_exit ?_ | refine K_in_exit ?_) | (refine at_E ?_; first | refine E_seq ?_ | refine E_region ?_ | refine E_cond_t rfl ?_ | refine E_cond_f rfl ?_ | refine E_block ?_ | refine E_skip ?_ | refine E_ret ?_ | refine E_exit ?_)))
    all_goals (first | (exfalso; omega) | skip)
    refine E_seq ?_
    refine E.sub (M := [(2, int ms), (3, .pointer (some ⟨bD, 0, none⟩)), (7, .slice (some ⟨b, off, none⟩) I.length cap), (8, int i)]) ⟨rfl, rfl, rfl, rfl, trivial⟩ ?_
    refine E_one 9 10 9 27 [int s1, int s2] [some (21, .agg #[int d.rid, str d.rname, int d.len, int d.day, sv, tv, nv]), some (22, .slice (some ⟨b, off, none⟩) I.length cap), some (23, int i), some (24, .pointer (some ⟨b, off + i * 1, none⟩)), some (25, int m.id),
      some (26, .tuple #[.agg #[int s1, int s2], .bool (whereF d m.id).isSome]), some (20, .tuple #[.agg #[int s1, int s2], .bool (whereF d m.id).isSome]), some (27, .agg #[int s1, int s2]), some (28, .bool (whereF d m.id).isSome), none, none, some (10, .bool (whereF d m.id).isSome)] mixedOk (by kernel_rfl) rfl rfl rfl rfl rfl rfl rfl rfl (by decide) rfl rfl rfl rfl rfl
      ⟨vcV fun wq xq => val_loadA rfl rfl rfl (rDr.ext xq).at rfl, vcV fun _ _ => zA rfl rfl, vcV fun _ _ => zA rfl rfl, vcV fun _ _ => val_indexAddr (m := i) rfl rfl rfl rfl (by omega), vcV fun wq xq => val_load rfl rfl rfl (xq.cell hcx),
        vcC (fun _ _ => entersF rfl rfl en19) (fun wq xq => cw wq xq), vcV fun _ _ => zA rfl rfl, vcV fun _ _ => zF (vs := [.agg #[int s1, int s2], .bool (whereF d m.id).isSome]) rfl rfl rfl, vcV fun _ _ => zF (vs := [.agg #[int s1, int s2], .bool (whereF d m.id).isSome]) rfl rfl rfl, vcV fun _ _ => zB rfl rfl, trivial⟩ (fun b9 w1 x1 hge9 r1 => ?_)
    refine K.sub (M := [(2, int ms), (3, .pointer (some ⟨bD, 0, none⟩)), (7, .slice (some ⟨b, off, none⟩) I.length cap), (8, int i), (9, .pointer (some ⟨b9, 0, none⟩))]) ⟨rfl, rfl, rfl, rfl, rfl, trivial⟩ ?_
    have hcx1 := x1.cell hcx
    (repeat' (first | refine eV rfl rfl (val_load rfl rfl rfl (r1.cellAt rfl)) ?_ | refine eV rfl rfl (val_indexAddr (m := i) rfl rfl rfl rfl (by omega)) ?_ | refine eV rfl rfl (val_load rfl rfl rfl hcx1) ?_ | (refine at_EL ?_; first | refine eN ?_ | refine eO rfl rfl ?_ | refine eV rfl rfl (zA rfl rfl) ?_ | refine eV rfl rfl (zB rfl rfl) ?_ | (refine at_bin ?_; first | refine eD rfl rfl (zL rfl rfl rfl) (fun hh => ?_) (fun hh => ?_) | refine eD rfl rfl (zN rfl rfl rfl) (fun hh => ?_) (fun hh => ?_) | refine eV rfl rfl (zU rfl rfl rfl (by omega) (by omega)) ?_) | refine eV rfl rfl (zC rfl rfl rfl) ?_ | refine eV rfl rfl (zD rfl rfl rfl) ?_ | refine eV rfl rfl (zH rfl rfl) ?_) | (refine at_K ?_; first | refine K_then ?_ | refine K_in ?_ | refine K_then_ret ?_ | refine K_in_ret ?_) | (refine at_E ?_; first | refine E_seq ?_ | refine E_region ?_ | refine E_cond_t rfl ?_ | refine E_cond_f rfl ?_ | refine E_skip ?_ | refine E_ret ?_)))
    all_goals (first | (exfalso; omega) | skip)
    · refine ret_1 rfl rfl ⟨?_, hXr.trans x1⟩
      rw [at_hit hall hm1 (by rw [hhit]; simp; omega)]
    all_goals exact K_rnd (i + 1) ⟨rfl, rfl, rfl, rfl, trivial⟩ ⟨by omega, hx.trans x1, all_next hall hm1 (by rw [hhit]; simp; omega)⟩ (by omega)
  · (repeat' (first | (refine at_EL ?_; first | refine eN ?_ | refine eV rfl rfl (zA rfl rfl) ?_ | refine eV rfl rfl (zB rfl rfl) ?_ | (refine at_bin ?_; first | refine eD rfl rfl (zL rfl rfl rfl) (fun hh => ?_) (fun hh => ?_)) | (refine at_call ?_; first | refine eV rfl rfl (zK rfl rfl) ?_)) | (refine at_K ?_; first | refine K_then ?_ | refine K_then_exit ?_ | refine K_in_exit ?_) | (refine at_E ?_; first | refine E_seq ?_ | refine E_region ?_ | refine E_cond_t rfl ?_ | refine E_cond_f rfl ?_ | refine E_block ?_ | refine E_skip ?_ | refine E_ret ?_ | refine E_exit ?_)))
    all_goals (first | (exfalso; omega) | skip)
    exact ret_1 rfl rfl ⟨by rw [at_miss hall (by rw [← hX]; omega)], hXr⟩
end Go.Proofs.Ytaajcbhingpfeaa
