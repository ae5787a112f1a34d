/-
  Walks of align: Over, of both.
-/
import Derived.Test.YtaajcbhingpfeaaWn
set_option linter.all false
namespace Go.Proofs.Ytaajcbhingpfeaa
open Go.RowKit Go.En
theorem filter_yes {α : Type} {p : α → Bool} {l : List α} {i : Nat} {x : α} (h : l[i]? = some x) (hp : p x = true) : (l.take (i + 1)).filter p = (l.take i).filter p ++ [x] := by
  obtain ⟨hi, rfl⟩ := List.getElem?_eq_some_iff.1 h
  rw [List.take_succ_eq_append_getElem hi, List.filter_append]
  simp [hp]
theorem filter_no {α : Type} {p : α → Bool} {l : List α} {i : Nat} {x : α} (h : l[i]? = some x) (hp : p x = false) : (l.take (i + 1)).filter p = (l.take i).filter p := by
  obtain ⟨hi, rfl⟩ := List.getElem?_eq_some_iff.1 h
  rw [List.take_succ_eq_append_getElem hi, List.filter_append]
  simp [hp]
attribute [local irreducible] E EL K Val Enters Rt Calls bodyPost Code.wp RQ
set_option maxHeartbeats 4000000 in
set_option maxRecDepth 8000 in
theorem alover_any {d : Dc} (h : LightD d) (v : Value) (k a0 b0 : Int) (w : World) (hv : DcAt w v d) : Calls Try.prog 22 #[v, int k, .agg #[int a0, int b0] ] w (Rt fun u w' => Ext w w' ∧ Sl w' u ((overN d k a0 b0).map (fun n => n.id))) := by
  have hd0 := hv
  obtain ⟨sv, tv, nv, rfl, _, ht, hn⟩ := hv
  refine calls_E (n := 48) (args := [.agg #[int d.rid, str d.rname, int d.len, int d.day, sv, tv, nv], int k, .agg #[int a0, int b0] ]) Try.func22 rfl Try.ntmps22 (by simp) ?_
  refine E_seq ?_
  refine E_region ?_
  refine EL_box rfl rfl rfl rfl (fun bD wD xD hbD rD0 => ?_)
  refine EL_box rfl rfl rfl rfl (fun bS wS xS hbS rS0 => ?_)
  have rD : Row wS bD 28 [int d.rid, str d.rname, int d.len, int d.day, sv, tv, nv] := rD0.ext xS
  have rS : Row wS bS 35 [int a0, int b0] := rS0
  have hXS := xD.trans xS
  clear rD0 rS0
  have cr := right_any a0 b0 wS
  have cg := fun wz (xz : Ext wS wz) => of_any h _ (k.toNat + 1) k wz (by omega) (hd0.ext (hXS.trans xz))
  obtain ⟨X, hX⟩ : ∃ X, X = ofR d k := ⟨_, rfl⟩
  obtain ⟨I, hI⟩ : ∃ I : List Int, I = X.map (fun n => n.id) := ⟨_, rfl⟩
  simp only [← hX, ← hI] at cg
  have hIl : I.length = X.length := by rw [hI, List.length_map]
  have hXl : X.length ≤ 14 := hX ▸ ofR_len h k
  cases hr : rightB a0 b0 with
  | false =>
    rw [hr] at cr
    have ho : overN d k a0 b0 = [] := by unfold overN; rw [hr]; rfl
    rw [ho]
    (repeat' (first | refine eV rfl rfl (val_loadA rfl rfl rfl rS.at rfl) ?_ | (refine EL_call rfl rfl (entersF rfl rfl en44) cr (fun vE wE hE => ?_); obtain ⟨rfl, xE⟩ := hE) | (refine at_EL ?_; first | refine eN ?_ | refine eV rfl rfl (zA rfl rfl) ?_ | refine eV rfl rfl (zB rfl rfl) ?_ | refine eV rfl rfl (zE rfl rfl) ?_) | (refine at_K ?_; first | refine K_then ?_ | refine K_then_ret ?_) | (refine at_E ?_; first | refine E_seq ?_ | refine E_region ?_ | refine E_cond_t rfl ?_ | refine E_ret ?_)))
    exact ret_1 rfl rfl ⟨hXS.trans xE, SlG.nil⟩
  | true =>
  rw [hr] at cr
  have ho : overN d k a0 b0 = X.filter (overB d a0 b0) := by unfold overN; rw [hr, hX]; rfl
  rw [ho]
  (repeat' ((fail_if_success (refine E_seq (x := (Code.region 4 _ _)) ?_)); first | refine eV rfl rfl (val_loadA rfl rfl rfl rS.at rfl) ?_ | (refine EL_call rfl rfl (entersF rfl rfl en44) cr (fun vE wE hE => ?_); obtain ⟨rfl, xE⟩ := hE) | (refine at_EL ?_; first | refine eN ?_ | refine eV rfl rfl (zB rfl rfl) ?_ | refine eV rfl rfl (zE rfl rfl) ?_) | (refine at_K ?_; first | refine K_then ?_) | (refine at_E ?_; first | refine E_seq ?_ | refine E_region ?_ | refine E_cond_f rfl ?_ | refine E_skip ?_)))
  have rDE := rD.ext xE
  (repeat' (first | refine eV rfl rfl (val_loadA rfl rfl rfl rDE.at rfl) ?_ | (refine EL_call rfl rfl (entersF rfl rfl en45) (cg _ xE) (fun vC wC hC => ?_); obtain ⟨xC, sC⟩ := hC) | (refine at_EL ?_; first | refine eV rfl rfl (zA rfl rfl) ?_) | (refine at_E ?_; first | refine E_seq ?_ | refine E_region ?_)))
  have sC0 := sC
  obtain ⟨a, cap, rfl, hc, hm, hp⟩ := sC.sl
  (repeat' (first | (refine at_EL ?_; first | refine eN ?_ | refine eV rfl rfl (zA rfl rfl) ?_ | (refine at_call ?_; first | refine eV rfl rfl (zK rfl rfl) ?_)) | (refine at_K ?_; first | refine K_then ?_) | (refine at_E ?_; first | refine E_block ?_)))
  replace xC := xE.trans xC
  refine E_loop (ι := Nat × Value) (fun x => [(3, .pointer (some ⟨bD, 0, none⟩)), (5, .pointer (some ⟨bS, 0, none⟩)), (7, x.2), (18, .slice a I.length cap), (19, int I.length), (20, int x.1)])
    (fun x wr => x.1 ≤ X.length ∧ Ext wC wr ∧ wr.ownsRow wC.heap.size 3 1 x.2 ((X.take x.1).filter (overB d a0 b0)).length ((((X.take x.1).filter (overB d a0 b0)).map (fun n => n.id)).map int)) (fun x => X.length - x.1) (0, .slice none 0 0)
    ⟨rfl, rfl, rfl, rfl, rfl, rfl, trivial⟩ ⟨Nat.zero_le _, Ext.refl _, World.ownsRow_nil _ _ _ _⟩ ?_
  rintro ⟨i, vO⟩ wr ⟨hi, hx, hown⟩
  dsimp only at hi hx hown ⊢
  have rDr := rD.ext (xC.trans hx)
  have rSr := rS.ext (xC.trans hx)
  have hXr := hXS.trans (xC.trans hx)
  have hfl : ((X.take i).filter (overB d a0 b0)).length ≤ i := Nat.le_trans (List.length_filter_le _ _) (by rw [List.length_take]; omega)
  by_cases hlt : i < X.length
  · obtain ⟨b, off, rfl⟩ := hp (by omega)
    obtain ⟨m, hm1⟩ : ∃ m, X[i]? = some m := ⟨_, List.getElem?_eq_getElem hlt⟩
    have hmI : I[i]? = some m.id := by rw [hI, List.getElem?_map, hm1]; rfl
    have hcx := int_elem (sC0.ext hx) hmI
    obtain ⟨s1, hs1⟩ : ∃ s1, (spanF d m.id).1 = s1 := ⟨_, rfl⟩
    obtain ⟨s2, hs2⟩ : ∃ s2, (spanF d m.id).2 = s2 := ⟨_, rfl⟩
    have hhit : overB d a0 b0 m = (decide (s1 < b0) && decide (a0 < s2)) := by unfold overB; rw [hs1, hs2]
    have cw := where_any h _ m.id wr (hd0.ext hXr)
    rw [whereV_eq hs1 hs2] at cw
    (repeat' (first | refine eV rfl rfl (val_indexAddr (m := i) rfl rfl rfl rfl (by omega)) ?_ | refine eV rfl rfl (val_load rfl rfl rfl hcx) ?_ | refine eV rfl rfl (val_loadA rfl rfl rfl rDr.at rfl) ?_ | (refine EL_call rfl rfl (entersF rfl rfl en18) cw (fun vE wE hE => ?_); obtain ⟨rfl, xE⟩ := hE) | (refine at_EL ?_; first | refine eN ?_ | refine eV rfl rfl (zA rfl rfl) ?_ | refine eV rfl rfl (zB rfl rfl) ?_ | (refine at_bin ?_; first | refine eD rfl rfl (zL rfl rfl rfl) (fun hh => ?_) (fun hh => ?_)) | refine eV rfl rfl (zF rfl rfl rfl) ?_) | (refine at_K ?_; first | refine K_then ?_ | refine K_then_exit ?_ | refine K_in_exit ?_) | (refine at_E ?_; first | refine E_seq ?_ | refine E_region ?_ | refine E_cond_t rfl ?_ | refine E_cond_f rfl ?_ | refine E_block ?_ | refine E_skip ?_ | refine E_ret ?_ | refine E_exit ?_)))
    all_goals (first | (exfalso; omega) | skip)
    refine EL_alloc rfl rfl rfl (fun b9 w9 x9 hb9 r9 => ?_)
    refine EL_storeP (cs := [int s1, int s2]) r9 (xE.trans x9) (by have := xE.size; omega) rfl rfl rfl rfl rfl rfl rfl rfl (Nat.le_refl _) (fun w1 r1 x1 k1 => ?_)
    have r9' : Row w1 b9 35 [int s1, int s2] := r1
    clear r1 r9
    have rS1 := rSr.ext x1
    have hx1 := hx.trans x1
    have own1 := own_ext hown x1
    (repeat' (first | refine eV rfl rfl (val_load rfl rfl rfl (r9'.cellAt rfl)) ?_ | refine eV rfl rfl (val_load rfl rfl rfl (rS1.cellAt rfl)) ?_ | (refine EL_appO (news := [int m.id]) (own_ext own1 xS) (hx1.trans xS) (fun _ => ⟨_, _, rfl, rS.at⟩) rfl rfl rfl rfl rfl rfl rfl rfl rfl (by omega) (by omega) (fun vJ wJ oJ xJ kJ hJ => ?_)) | (refine at_EL ?_; first | refine eN ?_ | refine eO rfl rfl ?_ | refine eV rfl rfl (zA rfl rfl) ?_ | refine eV rfl rfl (zB rfl rfl) ?_ | (refine at_bin ?_; first | refine eD rfl rfl (zL rfl rfl rfl) (fun hh => ?_) (fun hh => ?_) | refine eV rfl rfl (zU rfl rfl rfl (by omega) (by omega)) ?_) | refine eV rfl rfl (zC rfl rfl rfl) ?_ | refine eV rfl rfl (zD rfl rfl rfl) ?_ | refine eV rfl rfl (zH rfl rfl) ?_ | refine eL rfl rfl rfl rfl rfl rfl rfl rfl (fun bS wS xS hbS rS => ?_)) | (refine at_K ?_; first | refine K_then ?_ | refine K_in ?_) | (refine at_E ?_; first | refine E_seq ?_ | refine E_region ?_ | refine E_cond_t rfl ?_ | refine E_cond_f rfl ?_ | refine E_skip ?_)))
    all_goals (first | (exfalso; omega) | skip)
    · refine K_rnd (i + 1, vJ) ⟨rfl, rfl, rfl, rfl, rfl, rfl, trivial⟩ ⟨by dsimp only; omega, xJ, ?_⟩ (by dsimp only; omega)
      dsimp only
      rw [filter_yes hm1 (by rw [hhit]; simp; omega), List.length_append, List.map_append, List.map_append]
      exact oJ
    all_goals
      refine K_rnd (i + 1, vO) ⟨rfl, rfl, rfl, rfl, rfl, rfl, trivial⟩ ⟨by dsimp only; omega, hx1, ?_⟩ (by dsimp only; omega)
      dsimp only
      rw [filter_no hm1 (by rw [hhit]; simp; omega)]
      exact own1
  · obtain rfl : i = X.length := by omega
    rw [List.take_length] at hown
    (repeat' (first | (refine at_EL ?_; first | refine eN ?_ | refine eV rfl rfl (zA rfl rfl) ?_ | refine eV rfl rfl (zB rfl rfl) ?_ | (refine at_bin ?_; first | refine eD rfl rfl (zL rfl rfl rfl) (fun hh => ?_) (fun hh => ?_))) | (refine at_K ?_; first | refine K_then ?_ | refine K_then_exit ?_ | refine K_in_exit ?_) | (refine at_E ?_; first | refine E_seq ?_ | refine E_region ?_ | refine E_cond_t rfl ?_ | refine E_cond_f rfl ?_ | refine E_block ?_ | refine E_skip ?_ | refine E_ret ?_ | refine E_exit ?_)))
    all_goals (first | (exfalso; omega) | skip)
    refine ret_1 rfl rfl ⟨hXr, ?_⟩
    exact own_Sl (css := ((X.filter (overB d a0 b0)).map (fun n => n.id)).map fun z => [int z]) (by rw [ints_flat]; exact hown) (ints_ats _ _) (by simp) (by rw [List.length_map]; have := List.length_filter_le (overB d a0 b0) X; omega)
set_option maxHeartbeats 4000000 in
set_option maxRecDepth 8000 in
theorem refover_any {d : Dc} (h : LightD d) (v : Value) (k a0 b0 : Int) (w : World) (hv : DcAt w v d) : Calls Try.prog 23 #[v, int k, .agg #[int a0, int b0] ] w (Rt fun u w' => Ext w w' ∧ Sl w' u ((overN d k a0 b0).map (fun n => n.id))) := by
  have hd0 := hv
  obtain ⟨sv, tv, nv, rfl, _, ht, hn⟩ := hv
  refine calls_E (n := 65) (args := [.agg #[int d.rid, str d.rname, int d.len, int d.day, sv, tv, nv], int k, .agg #[int a0, int b0] ]) Try.func23 rfl Try.ntmps23 (by simp) ?_
  refine E_seq ?_
  refine E_region ?_
  refine EL_box rfl rfl rfl rfl (fun bD wD xD hbD rD0 => ?_)
  refine EL_box rfl rfl rfl rfl (fun bS wS xS hbS rS0 => ?_)
  have rD : Row wS bD 28 [int d.rid, str d.rname, int d.len, int d.day, sv, tv, nv] := rD0.ext xS
  have rS : Row wS bS 35 [int a0, int b0] := rS0
  have hXS := xD.trans xS
  clear rD0 rS0
  have cg := fun wz (xz : Ext wS wz) => refof_any h _ k wz (hd0.ext (hXS.trans xz))
  obtain ⟨X, hX⟩ : ∃ X, X = ofR d k := ⟨_, rfl⟩
  obtain ⟨I, hI⟩ : ∃ I : List Int, I = X.map (fun n => n.id) := ⟨_, rfl⟩
  simp only [← hX, ← hI] at cg
  have hIl : I.length = X.length := by rw [hI, List.length_map]
  have hXl : X.length ≤ 14 := hX ▸ ofR_len h k
  by_cases hrr : ¬ (0 ≤ a0 ∧ a0 < b0 ∧ b0 ≤ 86400000)
  · have hr : rightB a0 b0 = false := by unfold rightB; simp; omega
    have ho : overN d k a0 b0 = [] := by unfold overN; rw [hr]; rfl
    rw [ho]
    (repeat' ((fail_if_success (refine E_seq (x := (Code.region 4 _ _)) ?_)); first | refine eV rfl rfl (val_load rfl rfl rfl (rS.cellAt rfl)) ?_ | (refine at_EL ?_; first | refine eN ?_ | refine eO rfl rfl ?_ | refine eV rfl rfl (zA rfl rfl) ?_ | refine eV rfl rfl (zB rfl rfl) ?_ | (refine at_bin ?_; first | refine eD rfl rfl (zL rfl rfl rfl) (fun hh => ?_) (fun hh => ?_) | refine eD rfl rfl (zN rfl rfl rfl) (fun hh => ?_) (fun hh => ?_) | refine eD rfl rfl (zO rfl rfl rfl) (fun hh => ?_) (fun hh => ?_)) | refine eV rfl rfl (zC rfl rfl rfl) ?_ | refine eV rfl rfl (zD rfl rfl rfl) ?_ | refine eV rfl rfl (zH rfl rfl) ?_) | (refine at_K ?_; first | refine K_then ?_ | refine K_then_ret ?_) | (refine at_E ?_; first | refine E_seq ?_ | refine E_region ?_ | refine E_cond_t rfl ?_ | refine E_cond_f rfl ?_ | refine E_skip ?_ | refine E_ret ?_)))
    all_goals (first | (exfalso; omega) | skip)
    all_goals exact ret_1 rfl rfl ⟨hXS, SlG.nil⟩
  have hr : rightB a0 b0 = true := by unfold rightB; simp; omega
  have ho : overN d k a0 b0 = X.filter (overB d a0 b0) := by unfold overN; rw [hr, hX]; rfl
  rw [ho]
  (repeat' ((fail_if_success (refine E_seq (x := (Code.region 4 _ _)) ?_)); first | refine eV rfl rfl (val_load rfl rfl rfl (rS.cellAt rfl)) ?_ | (refine at_EL ?_; first | refine eN ?_ | refine eO rfl rfl ?_ | refine eV rfl rfl (zA rfl rfl) ?_ | refine eV rfl rfl (zB rfl rfl) ?_ | (refine at_bin ?_; first | refine eD rfl rfl (zL rfl rfl rfl) (fun hh => ?_) (fun hh => ?_) | refine eD rfl rfl (zN rfl rfl rfl) (fun hh => ?_) (fun hh => ?_) | refine eD rfl rfl (zO rfl rfl rfl) (fun hh => ?_) (fun hh => ?_)) | refine eV rfl rfl (zC rfl rfl rfl) ?_ | refine eV rfl rfl (zD rfl rfl rfl) ?_ | refine eV rfl rfl (zH rfl rfl) ?_) | (refine at_K ?_; first | refine K_then ?_ | refine K_then_ret ?_) | (refine at_E ?_; first | refine E_seq ?_ | refine E_region ?_ | refine E_cond_t rfl ?_ | refine E_cond_f rfl ?_ | refine E_skip ?_ | refine E_ret ?_)))
  all_goals (first | (exfalso; omega) | skip)
  (repeat' (first | refine eV rfl rfl (val_loadA rfl rfl rfl rD.at rfl) ?_ | (refine EL_call rfl rfl (entersF rfl rfl en43) (cg _ (Ext.refl _)) (fun vC wC hC => ?_); obtain ⟨xC, sC⟩ := hC) | (refine at_EL ?_; first | refine eN ?_ | refine eV rfl rfl (zA rfl rfl) ?_ | refine eV rfl rfl (zB rfl rfl) ?_) | (refine at_K ?_; first | refine K_then ?_) | (refine at_E ?_; first | refine E_seq ?_ | refine E_region ?_ | refine E_block ?_)))
  have sC0 := sC
  obtain ⟨a, cap, rfl, hc, hm, hp⟩ := sC.sl
  skip
  refine E_loop (ι := Nat × Value) (fun x => [(3, .pointer (some ⟨bD, 0, none⟩)), (5, .pointer (some ⟨bS, 0, none⟩)), (7, x.2), (8, .slice a I.length cap), (9, int x.1)])
    (fun x wr => x.1 ≤ X.length ∧ Ext wC wr ∧ wr.ownsRow wC.heap.size 3 1 x.2 ((X.take x.1).filter (overB d a0 b0)).length ((((X.take x.1).filter (overB d a0 b0)).map (fun n => n.id)).map int)) (fun x => X.length - x.1) (0, .slice none 0 0)
    ⟨rfl, rfl, rfl, rfl, rfl, trivial⟩ ⟨Nat.zero_le _, Ext.refl _, World.ownsRow_nil _ _ _ _⟩ ?_
  rintro ⟨i, vO⟩ wr ⟨hi, hx, hown⟩
  dsimp only at hi hx hown ⊢
  have rDr := rD.ext (xC.trans hx)
  have rSr := rS.ext (xC.trans hx)
  have hXr := hXS.trans (xC.trans hx)
  have hfl : ((X.take i).filter (overB d a0 b0)).length ≤ i := Nat.le_trans (List.length_filter_le _ _) (by rw [List.length_take]; omega)
  by_cases hlt : i < X.length
  · obtain ⟨b, off, rfl⟩ := hp (by omega)
    obtain ⟨m, hm1⟩ : ∃ m, X[i]? = some m := ⟨_, List.getElem?_eq_getElem hlt⟩
    have hmI : I[i]? = some m.id := by rw [hI, List.getElem?_map, hm1]; rfl
    have hcx := int_elem (sC0.ext hx) hmI
    obtain ⟨s1, hs1⟩ : ∃ s1, (spanF d m.id).1 = s1 := ⟨_, rfl⟩
    obtain ⟨s2, hs2⟩ : ∃ s2, (spanF d m.id).2 = s2 := ⟨_, rfl⟩
    have hhit : overB d a0 b0 m = (decide (s1 < b0) && decide (a0 < s2)) := by unfold overB; rw [hs1, hs2]
    have cw : ∀ wq, Ext wr wq → Calls Try.prog 19 #[.agg #[int d.rid, str d.rname, int d.len, int d.day, sv, tv, nv], int m.id] wq (Rt fun u w' => u = .tuple #[.agg #[int s1, int s2], .bool (whereF d m.id).isSome] ∧ Ext wq w') := fun wq xq => by
      have := refwhere_any h _ m.id wq (hd0.ext (hXr.trans xq))
      rw [whereV_eq hs1 hs2] at this
      exact this
    (repeat' ((fail_if_success (refine E_seq (x := (Code.region 8 _ _)) ?_)); first | (refine at_EL ?_; first | refine eN ?_ | refine eV rfl rfl (zA rfl rfl) ?_ | refine eV rfl rfl (zB rfl rfl) ?_ | (refine at_bin ?_; first | refine eD rfl rfl (zL rfl rfl rfl) (fun hh => ?_) (fun hh => ?_)) | (refine at_call ?_; first | refine eV rfl rfl (zK rfl rfl) ?_)) | (refine at_K ?_; first | refine K_then ?_ | refine K_then_exit ?_ | refine K_in_exit ?_) | (refine at_E ?_; first | refine E_seq ?_ | refine E_region ?_ | refine E_cond_t rfl ?_ | refine E_cond_f rfl ?_ | refine E_block ?_ | refine E_skip ?_ | refine E_ret ?_ | refine E_exit ?_)))
    all_goals (first | (exfalso; omega) | skip)
    refine E_seq ?_
    refine E.sub (M := [(3, .pointer (some ⟨bD, 0, none⟩)), (5, .pointer (some ⟨bS, 0, none⟩)), (7, vO), (8, .slice (some ⟨b, off, none⟩) I.length cap), (9, int i)]) ⟨rfl, rfl, rfl, rfl, rfl, trivial⟩ ?_
    refine E_one 9 10 10 43 [int s1, int s2] [some (37, .agg #[int d.rid, str d.rname, int d.len, int d.day, sv, tv, nv]), some (38, .slice (some ⟨b, off, none⟩) I.length cap), some (39, int i), some (40, .pointer (some ⟨b, off + i * 1, none⟩)), some (41, int m.id),
      some (42, .tuple #[.agg #[int s1, int s2], .bool (whereF d m.id).isSome]), some (36, .tuple #[.agg #[int s1, int s2], .bool (whereF d m.id).isSome]), some (43, .agg #[int s1, int s2]), some (44, .bool (whereF d m.id).isSome), none, none, some (11, .bool (whereF d m.id).isSome)] mixedOk (by kernel_rfl) rfl rfl rfl rfl rfl rfl rfl rfl (by decide) rfl rfl rfl rfl rfl
      ⟨vcV fun wq xq => val_loadA rfl rfl rfl (rDr.ext xq).at rfl, vcV fun _ _ => zA rfl rfl, vcV fun _ _ => zA rfl rfl, vcV fun _ _ => val_indexAddr (m := i) rfl rfl rfl rfl (by omega), vcV fun wq xq => val_load rfl rfl rfl (xq.cell hcx),
        vcC (fun _ _ => entersF rfl rfl en19) (fun wq xq => cw wq xq), vcV fun _ _ => zA rfl rfl, vcV fun _ _ => zF (vs := [.agg #[int s1, int s2], .bool (whereF d m.id).isSome]) rfl rfl rfl, vcV fun _ _ => zF (vs := [.agg #[int s1, int s2], .bool (whereF d m.id).isSome]) rfl rfl rfl, vcV fun _ _ => zB rfl rfl, trivial⟩ (fun b9 w1 x1 hge9 r1 => ?_)
    refine K.sub (M := [(3, .pointer (some ⟨bD, 0, none⟩)), (5, .pointer (some ⟨bS, 0, none⟩)), (7, vO), (8, .slice (some ⟨b, off, none⟩) I.length cap), (9, int i), (10, .pointer (some ⟨b9, 0, none⟩))]) ⟨rfl, rfl, rfl, rfl, rfl, rfl, trivial⟩ ?_
    have hcx1 := x1.cell hcx
    have rS1 := rSr.ext x1
    have hx1 := hx.trans x1
    have own1 := own_ext hown x1
    (repeat' (first | refine eV rfl rfl (val_load rfl rfl rfl (r1.cellAt rfl)) ?_ | refine eV rfl rfl (val_load rfl rfl rfl (rS1.cellAt rfl)) ?_ | refine eV rfl rfl (val_indexAddr (m := i) rfl rfl rfl rfl (by omega)) ?_ | refine eV rfl rfl (val_load rfl rfl rfl hcx1) ?_ | (refine EL_appO (news := [int m.id]) (own_ext own1 xS) (hx1.trans xS) (fun _ => ⟨_, _, rfl, rS.at⟩) rfl rfl rfl rfl rfl rfl rfl rfl rfl (by omega) (by omega) (fun vJ wJ oJ xJ kJ hJ => ?_)) | (refine at_EL ?_; first | refine eN ?_ | refine eO rfl rfl ?_ | refine eV rfl rfl (zA rfl rfl) ?_ | refine eV rfl rfl (zB rfl rfl) ?_ | (refine at_bin ?_; first | refine eD rfl rfl (zL rfl rfl rfl) (fun hh => ?_) (fun hh => ?_) | refine eV rfl rfl (zU rfl rfl rfl (by omega) (by omega)) ?_) | refine eV rfl rfl (zC rfl rfl rfl) ?_ | refine eV rfl rfl (zD rfl rfl rfl) ?_ | refine eV rfl rfl (zH rfl rfl) ?_ | refine eL rfl rfl rfl rfl rfl rfl rfl rfl (fun bS wS xS hbS rS => ?_)) | (refine at_K ?_; first | refine K_then ?_ | refine K_in ?_) | (refine at_E ?_; first | refine E_seq ?_ | refine E_region ?_ | refine E_cond_t rfl ?_ | refine E_cond_f rfl ?_ | refine E_skip ?_)))
    all_goals (first | (exfalso; omega) | skip)
    · refine K_rnd (i + 1, vJ) ⟨rfl, rfl, rfl, rfl, rfl, trivial⟩ ⟨by dsimp only; omega, xJ, ?_⟩ (by dsimp only; omega)
      dsimp only
      rw [filter_yes hm1 (by rw [hhit]; simp; omega), List.length_append, List.map_append, List.map_append]
      exact oJ
    all_goals
      refine K_rnd (i + 1, vO) ⟨rfl, rfl, rfl, rfl, rfl, trivial⟩ ⟨by dsimp only; omega, hx1, ?_⟩ (by dsimp only; omega)
      dsimp only
      rw [filter_no hm1 (by rw [hhit]; simp; omega)]
      exact own1
  · obtain rfl : i = X.length := by omega
    rw [List.take_length] at hown
    (repeat' (first | (refine at_EL ?_; first | refine eN ?_ | refine eV rfl rfl (zA rfl rfl) ?_ | refine eV rfl rfl (zB rfl rfl) ?_ | (refine at_bin ?_; first | refine eD rfl rfl (zL rfl rfl rfl) (fun hh => ?_) (fun hh => ?_)) | (refine at_call ?_; first | refine eV rfl rfl (zK rfl rfl) ?_)) | (refine at_K ?_; first | refine K_then ?_ | refine K_then_exit ?_ | refine K_in_exit ?_) | (refine at_E ?_; first | refine E_seq ?_ | refine E_region ?_ | refine E_cond_t rfl ?_ | refine E_cond_f rfl ?_ | refine E_block ?_ | refine E_skip ?_ | refine E_ret ?_ | refine E_exit ?_)))
    all_goals (first | (exfalso; omega) | skip)
    refine ret_1 rfl rfl ⟨hXr, ?_⟩
    exact own_Sl (css := ((X.filter (overB d a0 b0)).map (fun n => n.id)).map fun z => [int z]) (by rw [ints_flat]; exact hown) (ints_ats _ _) (by simp) (by rw [List.length_map]; have := List.length_filter_le (overB d a0 b0) X; omega)
end Go.Proofs.Ytaajcbhingpfeaa
