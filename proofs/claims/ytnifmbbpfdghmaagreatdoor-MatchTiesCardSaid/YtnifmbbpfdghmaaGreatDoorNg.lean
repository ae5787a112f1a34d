/-
  Walks of the reference's num: Union, Minus, Both; num.Has; the tier of a role.
-/
import Derived.Test.YtnifmbbpfdghmaaGreatDoorNf
set_option linter.all false
namespace Go.Proofs.YtnifmbbpfdghmaaGreatDoor
open Go.RowKit Go.En
attribute [local irreducible] E EL K Val Enters Rt Calls bodyPost Code.wp RQ
set_option maxHeartbeats 4000000 in
set_option maxRecDepth 8000 in
theorem rminus_any (a b : List Int) (u v : Value) (w : World) (hu : Sl w u a) (hv : Sl w v b) (hla : a.length ≤ 1099511627) :
    Calls Tryz.prog 36 #[u, v] w (Rt fun r w' => Ext w w' ∧ Sl w' r (minusS a b)) := by
  have hu0 := hu
  obtain ⟨sa, cap, rfl, hc, hm, hp⟩ := hu.sl
  refine calls_E (n := 27) (args := [.slice sa a.length cap, v]) Tryz.func36 rfl Tryz.ntmps36 (by simp) ?_
  obtain ⟨q, hq⟩ : ∃ q : Int → Bool, q = fun x => !decide (x ∈ b) := ⟨_, rfl⟩
  (repeat' (first | (refine at_EL ?_; first | refine eN ?_ | refine eV rfl rfl (zA rfl rfl) ?_ | refine eV rfl rfl (zB rfl rfl) ?_ | (refine at_call ?_; first | refine eV rfl rfl (zK rfl rfl) ?_)) | (refine at_K ?_; first | refine K_then ?_) | (refine at_E ?_; first | refine E_seq ?_ | refine E_region ?_ | refine E_block ?_)))
  refine E_loop (ι := Nat × Value) (fun s => [(0, .slice sa a.length cap), (1, v), (5, s.2), (8, int a.length), (9, int s.1)])
    (fun s wr => s.1 ≤ a.length ∧ Ext w wr ∧ Sl wr s.2 (((a.take s.1).filter q).foldl nputF [])) (fun s => a.length - s.1) (0, .slice none 0 0)
    ⟨rfl, rfl, rfl, rfl, rfl, trivial⟩ ⟨Nat.zero_le _, Ext.refl _, SlG.nil⟩ ?_
  rintro ⟨i, vO⟩ wr ⟨hi, hx, hs⟩
  dsimp only at hi hx hs ⊢
  have hfl := fold_len ((a.take i).filter q) []
  have hfl2 := List.length_filter_le q (a.take i)
  rw [List.length_take] at hfl2
  simp only [List.length_nil] at hfl
  by_cases hlt : i < a.length
  · obtain ⟨bb, off, rfl⟩ := hp (by omega)
    obtain ⟨x, hx1⟩ : ∃ x, a[i]? = some x := ⟨_, List.getElem?_eq_getElem hlt⟩
    have hcx := int_elem (hu0.ext hx) hx1
    have ch := r1has_any b x v wr (hv.ext hx)
    have hfs := filter_snoc (p := q) hx1
    by_cases hm : x ∈ b
    · rw [decide_eq_true hm] at ch
      rw [if_neg (by rw [hq]; simpa using hm), List.append_nil] at hfs
      (repeat' (first | refine eV rfl rfl (val_indexAddr (m := i) rfl rfl rfl rfl hlt) ?_ | refine eV rfl rfl (val_load rfl rfl rfl hcx) ?_ | (refine EL_call rfl rfl (entersF rfl rfl en33) ch (fun vC wC hC => ?_); obtain ⟨rfl, xC⟩ := hC; replace hcx := xC.cell hcx) | (refine at_EL ?_; first | refine eN ?_ | refine eV rfl rfl (zA rfl rfl) ?_ | refine eV rfl rfl (zB rfl rfl) ?_ | (refine at_bin ?_; first | refine eD rfl rfl (zL rfl rfl rfl) (fun hh => ?_) (fun hh => ?_) | refine eV rfl rfl (zU rfl rfl rfl (by omega) (by omega)) ?_) | refine eV rfl rfl (zE rfl rfl) ?_) | (refine at_K ?_; first | refine K_then ?_ | refine K_in ?_ | refine K_then_exit ?_ | refine K_in_exit ?_) | (refine at_E ?_; first | refine E_seq ?_ | refine E_region ?_ | refine E_cond_t rfl ?_ | refine E_cond_f rfl ?_ | refine E_block ?_ | refine E_skip ?_ | refine E_ret ?_ | refine E_exit ?_)))
      all_goals (first | (exfalso; omega) | skip)
      refine K_rnd (i + 1, vO) ⟨rfl, rfl, rfl, rfl, rfl, trivial⟩ ⟨by dsimp only; omega, hx.trans xC, ?_⟩ (by dsimp only; omega)
      dsimp only
      rw [hfs]
      exact hs.ext xC
    · rw [decide_eq_false hm] at ch
      rw [if_pos (by rw [hq]; simpa using hm)] at hfs
      (repeat' (first | refine eV rfl rfl (val_indexAddr (m := i) rfl rfl rfl rfl hlt) ?_ | refine eV rfl rfl (val_load rfl rfl rfl hcx) ?_ | (refine EL_call rfl rfl (entersF rfl rfl en33) ch (fun vC wC hC => ?_); obtain ⟨rfl, xC⟩ := hC; replace hcx := xC.cell hcx) | (refine EL_call rfl rfl (entersF rfl rfl en90) (nput_any _ x vO _ (hs.ext (by assumption)) (by omega)) (fun vP wP hP => ?_); obtain ⟨xP, sP⟩ := hP) | (refine at_EL ?_; first | refine eN ?_ | refine eV rfl rfl (zA rfl rfl) ?_ | refine eV rfl rfl (zB rfl rfl) ?_ | (refine at_bin ?_; first | refine eD rfl rfl (zL rfl rfl rfl) (fun hh => ?_) (fun hh => ?_) | refine eV rfl rfl (zU rfl rfl rfl (by omega) (by omega)) ?_) | refine eV rfl rfl (zE rfl rfl) ?_) | (refine at_K ?_; first | refine K_then ?_ | refine K_in ?_ | refine K_then_exit ?_ | refine K_in_exit ?_) | (refine at_E ?_; first | refine E_seq ?_ | refine E_region ?_ | refine E_cond_t rfl ?_ | refine E_cond_f rfl ?_ | refine E_block ?_ | refine E_skip ?_ | refine E_ret ?_ | refine E_exit ?_)))
      all_goals (first | (exfalso; omega) | skip)
      refine K_rnd (i + 1, vP) ⟨rfl, rfl, rfl, rfl, rfl, trivial⟩ ⟨by dsimp only; omega, hx.trans (xC.trans xP), ?_⟩ (by dsimp only; omega)
      dsimp only
      rw [hfs, List.foldl_append]
      exact sP
  · obtain rfl : i = a.length := by omega
    rw [List.take_length, hq] at hs
    (repeat' (first | (refine at_EL ?_; first | refine eN ?_ | refine eV rfl rfl (zA rfl rfl) ?_ | refine eV rfl rfl (zB rfl rfl) ?_ | (refine at_bin ?_; first | refine eD rfl rfl (zL rfl rfl rfl) (fun hh => ?_) (fun hh => ?_))) | (refine at_K ?_; first | refine K_then ?_ | refine K_then_exit ?_ | refine K_in_exit ?_) | (refine at_E ?_; first | refine E_seq ?_ | refine E_region ?_ | refine E_cond_t rfl ?_ | refine E_cond_f rfl ?_ | refine E_block ?_ | refine E_skip ?_ | refine E_ret ?_ | refine E_exit ?_)))
    all_goals (first | (exfalso; omega) | skip)
    exact ret_1 rfl rfl ⟨hx, hs⟩
set_option maxHeartbeats 4000000 in
set_option maxRecDepth 8000 in
theorem rboth_any (a b : List Int) (u v : Value) (w : World) (hu : Sl w u a) (hv : Sl w v b) (hla : a.length ≤ 1099511627) :
    Calls Tryz.prog 37 #[u, v] w (Rt fun r w' => Ext w w' ∧ Sl w' r (bothF a b)) := by
  have hu0 := hu
  obtain ⟨sa, cap, rfl, hc, hm, hp⟩ := hu.sl
  refine calls_E (n := 26) (args := [.slice sa a.length cap, v]) Tryz.func37 rfl Tryz.ntmps37 (by simp) ?_
  obtain ⟨q, hq⟩ : ∃ q : Int → Bool, q = fun x => decide (x ∈ b) := ⟨_, rfl⟩
  (repeat' (first | (refine at_EL ?_; first | refine eN ?_ | refine eV rfl rfl (zA rfl rfl) ?_ | refine eV rfl rfl (zB rfl rfl) ?_ | (refine at_call ?_; first | refine eV rfl rfl (zK rfl rfl) ?_)) | (refine at_K ?_; first | refine K_then ?_) | (refine at_E ?_; first | refine E_seq ?_ | refine E_region ?_ | refine E_block ?_)))
  refine E_loop (ι := Nat × Value) (fun s => [(0, .slice sa a.length cap), (1, v), (5, s.2), (8, int a.length), (9, int s.1)])
    (fun s wr => s.1 ≤ a.length ∧ Ext w wr ∧ Sl wr s.2 (((a.take s.1).filter q).foldl nputF [])) (fun s => a.length - s.1) (0, .slice none 0 0)
    ⟨rfl, rfl, rfl, rfl, rfl, trivial⟩ ⟨Nat.zero_le _, Ext.refl _, SlG.nil⟩ ?_
  rintro ⟨i, vO⟩ wr ⟨hi, hx, hs⟩
  dsimp only at hi hx hs ⊢
  have hfl := fold_len ((a.take i).filter q) []
  have hfl2 := List.length_filter_le q (a.take i)
  rw [List.length_take] at hfl2
  simp only [List.length_nil] at hfl
  by_cases hlt : i < a.length
  · obtain ⟨bb, off, rfl⟩ := hp (by omega)
    obtain ⟨x, hx1⟩ : ∃ x, a[i]? = some x := ⟨_, List.getElem?_eq_getElem hlt⟩
    have hcx := int_elem (hu0.ext hx) hx1
    have ch := r1has_any b x v wr (hv.ext hx)
    have hfs := filter_snoc (p := q) hx1
    by_cases hm : x ∈ b
    · rw [decide_eq_true hm] at ch
      rw [if_pos (by rw [hq]; simpa using hm)] at hfs
      (repeat' (first | refine eV rfl rfl (val_indexAddr (m := i) rfl rfl rfl rfl hlt) ?_ | refine eV rfl rfl (val_load rfl rfl rfl hcx) ?_ | (refine EL_call rfl rfl (entersF rfl rfl en33) ch (fun vC wC hC => ?_); obtain ⟨rfl, xC⟩ := hC; replace hcx := xC.cell hcx) | (refine EL_call rfl rfl (entersF rfl rfl en90) (nput_any _ x vO _ (hs.ext (by assumption)) (by omega)) (fun vP wP hP => ?_); obtain ⟨xP, sP⟩ := hP) | (refine at_EL ?_; first | refine eN ?_ | refine eV rfl rfl (zA rfl rfl) ?_ | refine eV rfl rfl (zB rfl rfl) ?_ | (refine at_bin ?_; first | refine eD rfl rfl (zL rfl rfl rfl) (fun hh => ?_) (fun hh => ?_) | refine eV rfl rfl (zU rfl rfl rfl (by omega) (by omega)) ?_)) | (refine at_K ?_; first | refine K_then ?_ | refine K_in ?_ | refine K_then_exit ?_ | refine K_in_exit ?_) | (refine at_E ?_; first | refine E_seq ?_ | refine E_region ?_ | refine E_cond_t rfl ?_ | refine E_cond_f rfl ?_ | refine E_block ?_ | refine E_skip ?_ | refine E_ret ?_ | refine E_exit ?_)))
      all_goals (first | (exfalso; omega) | skip)
      refine K_rnd (i + 1, vP) ⟨rfl, rfl, rfl, rfl, rfl, trivial⟩ ⟨by dsimp only; omega, hx.trans (xC.trans xP), ?_⟩ (by dsimp only; omega)
      dsimp only
      rw [hfs, List.foldl_append]
      exact sP
    · rw [decide_eq_false hm] at ch
      rw [if_neg (by rw [hq]; simpa using hm), List.append_nil] at hfs
      (repeat' (first | refine eV rfl rfl (val_indexAddr (m := i) rfl rfl rfl rfl hlt) ?_ | refine eV rfl rfl (val_load rfl rfl rfl hcx) ?_ | (refine EL_call rfl rfl (entersF rfl rfl en33) ch (fun vC wC hC => ?_); obtain ⟨rfl, xC⟩ := hC; replace hcx := xC.cell hcx) | (refine at_EL ?_; first | refine eN ?_ | refine eV rfl rfl (zA rfl rfl) ?_ | refine eV rfl rfl (zB rfl rfl) ?_ | (refine at_bin ?_; first | refine eD rfl rfl (zL rfl rfl rfl) (fun hh => ?_) (fun hh => ?_) | refine eV rfl rfl (zU rfl rfl rfl (by omega) (by omega)) ?_)) | (refine at_K ?_; first | refine K_then ?_ | refine K_in ?_ | refine K_then_exit ?_ | refine K_in_exit ?_) | (refine at_E ?_; first | refine E_seq ?_ | refine E_region ?_ | refine E_cond_t rfl ?_ | refine E_cond_f rfl ?_ | refine E_block ?_ | refine E_skip ?_ | refine E_ret ?_ | refine E_exit ?_)))
      all_goals (first | (exfalso; omega) | skip)
      refine K_rnd (i + 1, vO) ⟨rfl, rfl, rfl, rfl, rfl, trivial⟩ ⟨by dsimp only; omega, hx.trans xC, ?_⟩ (by dsimp only; omega)
      dsimp only
      rw [hfs]
      exact hs.ext xC
  · obtain rfl : i = a.length := by omega
    rw [List.take_length, hq] at hs
    (repeat' (first | (refine at_EL ?_; first | refine eN ?_ | refine eV rfl rfl (zA rfl rfl) ?_ | refine eV rfl rfl (zB rfl rfl) ?_ | (refine at_bin ?_; first | refine eD rfl rfl (zL rfl rfl rfl) (fun hh => ?_) (fun hh => ?_))) | (refine at_K ?_; first | refine K_then ?_ | refine K_then_exit ?_ | refine K_in_exit ?_) | (refine at_E ?_; first | refine E_seq ?_ | refine E_region ?_ | refine E_cond_t rfl ?_ | refine E_cond_f rfl ?_ | refine E_block ?_ | refine E_skip ?_ | refine E_ret ?_ | refine E_exit ?_)))
    all_goals (first | (exfalso; omega) | skip)
    exact ret_1 rfl rfl ⟨hx, hs⟩
set_option maxHeartbeats 4000000 in
set_option maxRecDepth 8000 in
theorem runion_any (a b : List Int) (u v : Value) (w : World) (hu : Sl w u a) (hv : Sl w v b) (hla : a.length ≤ 1099511627) (hlb : b.length ≤ 1099511627) :
    Calls Tryz.prog 58 #[u, v] w (Rt fun r w' => Ext w w' ∧ Sl w' r (unionS a b)) := by
  have hv0 := hv
  obtain ⟨sa, cap, rfl, hc, hm, hp⟩ := hv.sl
  refine calls_E (n := 22) (args := [u, .slice sa b.length cap]) Tryz.func58 rfl Tryz.ntmps58 (by simp) ?_
  have c1 := sorted_any a u w hu (by omega)
  (repeat' (first | (refine EL_call rfl rfl (entersF rfl rfl en102) c1 (fun vC wC hC => ?_); obtain ⟨xC, sC⟩ := hC) | (refine at_EL ?_; first | refine eN ?_ | refine eV rfl rfl (zA rfl rfl) ?_ | refine eV rfl rfl (zB rfl rfl) ?_ | (refine at_call ?_; first | refine eV rfl rfl (zK rfl rfl) ?_)) | (refine at_K ?_; first | refine K_then ?_) | (refine at_E ?_; first | refine E_seq ?_ | refine E_region ?_ | refine E_block ?_)))
  have hsl := fold_len a []
  simp only [List.length_nil] at hsl
  refine E_loop (ι := Nat × Value) (fun s => [(1, .slice sa b.length cap), (5, s.2), (10, int b.length), (11, int s.1)])
    (fun s wr => s.1 ≤ b.length ∧ Ext wC wr ∧ Sl wr s.2 ((b.take s.1).foldl nputF (sortedF a))) (fun s => b.length - s.1) (0, vC)
    ⟨rfl, rfl, rfl, rfl, trivial⟩ ⟨Nat.zero_le _, Ext.refl _, sC⟩ ?_
  rintro ⟨i, vO⟩ wr ⟨hi, hx, hs⟩
  dsimp only at hi hx hs ⊢
  have hfl := fold_len (b.take i) (sortedF a)
  rw [List.length_take] at hfl
  have hsl2 : (sortedF a).length ≤ a.length := by unfold sortedF; omega
  have hX := xC.trans hx
  by_cases hlt : i < b.length
  · obtain ⟨bb, off, rfl⟩ := hp (by omega)
    obtain ⟨x, hx1⟩ : ∃ x, b[i]? = some x := ⟨_, List.getElem?_eq_getElem hlt⟩
    have hcx := int_elem (hv0.ext hX) hx1
    (repeat' (first | refine eV rfl rfl (val_indexAddr (m := i) rfl rfl rfl rfl hlt) ?_ | refine eV rfl rfl (val_load rfl rfl rfl hcx) ?_ | (refine EL_call rfl rfl (entersF rfl rfl en90) (nput_any _ x vO _ hs (by omega)) (fun vP wP hP => ?_); obtain ⟨xP, sP⟩ := hP) | (refine at_EL ?_; first | refine eN ?_ | refine eV rfl rfl (zA rfl rfl) ?_ | refine eV rfl rfl (zB rfl rfl) ?_ | (refine at_bin ?_; first | refine eD rfl rfl (zL rfl rfl rfl) (fun hh => ?_) (fun hh => ?_) | refine eV rfl rfl (zU rfl rfl rfl (by omega) (by omega)) ?_)) | (refine at_K ?_; first | refine K_then ?_ | refine K_in ?_ | refine K_then_exit ?_ | refine K_in_exit ?_) | (refine at_E ?_; first | refine E_seq ?_ | refine E_region ?_ | refine E_cond_t rfl ?_ | refine E_cond_f rfl ?_ | refine E_block ?_ | refine E_skip ?_ | refine E_ret ?_ | refine E_exit ?_)))
    all_goals (first | (exfalso; omega) | skip)
    refine K_rnd (i + 1, vP) ⟨rfl, rfl, rfl, rfl, trivial⟩ ⟨by dsimp only; omega, hx.trans xP, ?_⟩ (by dsimp only; omega)
    dsimp only
    obtain ⟨hi2, rfl⟩ := List.getElem?_eq_some_iff.1 hx1
    rw [List.take_succ_eq_append_getElem hi2, List.foldl_append]
    exact sP
  · obtain rfl : i = b.length := by omega
    rw [List.take_length] at hs
    (repeat' (first | (refine at_EL ?_; first | refine eN ?_ | refine eV rfl rfl (zA rfl rfl) ?_ | refine eV rfl rfl (zB rfl rfl) ?_ | (refine at_bin ?_; first | refine eD rfl rfl (zL rfl rfl rfl) (fun hh => ?_) (fun hh => ?_))) | (refine at_K ?_; first | refine K_then ?_ | refine K_then_exit ?_ | refine K_in_exit ?_) | (refine at_E ?_; first | refine E_seq ?_ | refine E_region ?_ | refine E_cond_t rfl ?_ | refine E_cond_f rfl ?_ | refine E_block ?_ | refine E_skip ?_ | refine E_ret ?_ | refine E_exit ?_)))
    all_goals (first | (exfalso; omega) | skip)
    exact ret_1 rfl rfl ⟨hX, by unfold unionS sortedF at *; rw [List.foldl_append]; exact hs⟩
end Go.Proofs.YtnifmbbpfdghmaaGreatDoor
