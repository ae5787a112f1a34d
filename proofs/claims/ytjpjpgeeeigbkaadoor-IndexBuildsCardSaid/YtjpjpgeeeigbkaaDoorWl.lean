/-
  Walks: the reference's Light.
-/
import Derived.Test.YtjpjpgeeeigbkaaDoorWg
import Derived.Test.YtjpjpgeeeigbkaaDoorWh
set_option linter.all false
namespace Go.Proofs.YtjpjpgeeeigbkaaDoor
open Go.RowKit Go.En
def lightF (xs : List Post) : Bool := decide (sizeP xs ≤ 100) && decide (checkP xs = 0)
attribute [local irreducible] E EL K Val Enters Rt Calls bodyPost Code.wp RQ
theorem light_any (xs : List Post) (v : Value) (w : World) (hv : Sl w v xs) : Calls Tryd.prog 23 #[.agg #[v]] w (Rt fun u w' => u = .bool (lightF xs) ∧ Ext w w') := by
  refine calls_E (n := 35) (args := [.agg #[v]]) Tryd.func23 rfl Tryd.ntmps23 (by simp) ?_
  have hv0 := hv
  obtain ⟨a, cap, rfl, hc, hm, hp⟩ := hv.sl
  refine E_seq ?_
  refine E_region ?_
  refine EL_box rfl rfl rfl rfl (fun bB wB xB hbB rB => ?_)
  (repeat' (first | refine eV rfl rfl (val_load rfl rfl rfl (rB.cellAt rfl)) ?_ | (refine at_EL ?_; first | refine eN ?_ | refine eV rfl rfl (zB rfl rfl) ?_ | (refine at_call ?_; first | refine eV rfl rfl (zK rfl rfl) ?_) | refine eV rfl rfl (zH rfl rfl) ?_) | (refine at_K ?_; first | refine K_then ?_) | (refine at_E ?_; first | refine E_seq ?_ | refine E_region ?_ | refine E_block ?_)))
  refine E_loop (ι := Nat) (fun i => [(1, .pointer (some ⟨bB, 0, none⟩)), (3, int ((xs.length + ((xs.take i).map fun p => p.ids.length).sum : Nat) : Int)), (4, int i)])
    (fun i wr => i ≤ xs.length ∧ Ext wB wr ∧ (xs.length + ((xs.take i).map fun p => p.ids.length).sum : Nat) ≤ 281474976710656) (fun i => xs.length - i) 0
    ⟨rfl, rfl, rfl, trivial⟩ ⟨Nat.zero_le _, Ext.refl _, by simp; omega⟩ ?_
  rintro i wr ⟨hi, hx, hb⟩
  have rBr := rB.ext hx
  have hsl := sum_le xs i
  have hvr := hv0.ext (xB.trans hx)
  have c16 := fun w h => rcheck_any xs (.slice a xs.length cap) w h
  by_cases hlt : i < xs.length
  · obtain ⟨b, off, rfl⟩ := hp (by omega)
    obtain ⟨x, hxx⟩ : ∃ x, xs[i]? = some x := ⟨_, List.getElem?_eq_getElem hlt⟩
    obtain ⟨iv, hat, hiv⟩ := post_elem hvr hxx
    obtain ⟨a2, cap2, rfl, hc2, hm2, hp2⟩ := hiv.sl
    have hst := sum_take hxx
    have hsl2 := sum_le xs (i + 1)
    (repeat' (first | refine eV rfl rfl (val_load rfl rfl rfl (rBr.cellAt rfl)) ?_ | refine eV rfl rfl (val_indexAddr (m := i) rfl rfl rfl rfl (by omega)) ?_ | refine eV rfl rfl (val_load rfl rfl rfl (hat.cellAt rfl)) ?_ | (refine at_EL ?_; first | refine eN ?_ | refine eO rfl rfl ?_ | refine eV rfl rfl (zA rfl rfl) ?_ | refine eV rfl rfl (zB rfl rfl) ?_ | (refine at_bin ?_; first | refine eD rfl rfl (zL rfl rfl rfl) (fun hh => ?_) (fun hh => ?_) | refine eD rfl rfl (zN rfl rfl rfl) (fun hh => ?_) (fun hh => ?_) | refine eV rfl rfl (zU rfl rfl rfl (by omega) (by omega)) ?_) | (refine at_call ?_; first | refine eV rfl rfl (zK rfl rfl) ?_) | refine eV rfl rfl (zC rfl rfl rfl) ?_ | refine eV rfl rfl (zD rfl rfl rfl) ?_ | refine eV rfl rfl (zH rfl rfl) ?_) | (refine at_K ?_; first | refine K_then ?_ | refine K_in ?_ | refine K_then_exit ?_ | refine K_in_exit ?_) | (refine at_E ?_; first | refine E_seq ?_ | refine E_region ?_ | refine E_cond_t rfl ?_ | refine E_cond_f rfl ?_ | refine E_block ?_ | refine E_skip ?_ | refine E_ret ?_ | refine E_exit ?_)))
    all_goals (first | (exfalso; omega) | skip)
    · refine K_rnd (i + 1) ⟨rfl, ?_, rfl, trivial⟩ ⟨by omega, hx, by omega⟩ (by omega)
      show some (int _) = some (int _)
      congr 2
      omega
    all_goals exact ret_1 rfl rfl ⟨by unfold lightF; rw [decide_eq_false (p := sizeP xs ≤ 100) (by unfold sizeP; omega)]; rfl, xB.trans hx⟩
  · have hi' : i = xs.length := by omega
    have e1 : xs.take i = xs := by rw [hi', List.take_length]
    by_cases hck : checkP xs = 0
    · (repeat' (first | refine eV rfl rfl (val_load rfl rfl rfl (rBr.cellAt rfl)) ?_ | refine eV rfl rfl (val_loadA rfl rfl rfl rBr.at rfl) ?_ | (refine EL_call rfl rfl (entersF rfl rfl en16) (c16 _ hvr) (fun vC wC hC => ?_); obtain ⟨rfl, xC⟩ := hC) | (refine at_EL ?_; first | refine eN ?_ | refine eO rfl rfl ?_ | refine eV rfl rfl (zA rfl rfl) ?_ | refine eV rfl rfl (zB rfl rfl) ?_ | (refine at_bin ?_; first | refine eD rfl rfl (zL rfl rfl rfl) (fun hh => ?_) (fun hh => ?_) | refine eD rfl rfl (zM rfl rfl rfl) (fun hh => ?_) (fun hh => ?_) | refine eD rfl rfl (zN rfl rfl rfl) (fun hh => ?_) (fun hh => ?_)) | (refine at_call ?_; first | refine eV rfl rfl (zK rfl rfl) ?_) | refine eV rfl rfl (zC rfl rfl rfl) ?_ | refine eV rfl rfl (zD rfl rfl rfl) ?_ | refine eV rfl rfl (zH rfl rfl) ?_) | (refine at_K ?_; first | refine K_then ?_ | refine K_then_exit ?_ | refine K_in_exit ?_) | (refine at_E ?_; first | refine E_seq ?_ | refine E_region ?_ | refine E_cond_t rfl ?_ | refine E_cond_f rfl ?_ | refine E_block ?_ | refine E_skip ?_ | refine E_ret ?_ | refine E_exit ?_)))
      all_goals (first | (exfalso; omega) | skip)
      all_goals (first
        | exact ret_1 rfl rfl ⟨by unfold lightF; rw [decide_eq_true hck, decide_eq_true (p := sizeP xs ≤ 100) (by unfold sizeP; rw [e1] at *; omega)]; rfl, xB.trans (hx.trans xC)⟩
        | exact ret_1 rfl rfl ⟨by unfold lightF; rw [decide_eq_false (p := sizeP xs ≤ 100) (by unfold sizeP; rw [e1] at *; omega)]; rfl, xB.trans hx⟩)
    · (repeat' (first | refine eV rfl rfl (val_load rfl rfl rfl (rBr.cellAt rfl)) ?_ | refine eV rfl rfl (val_loadA rfl rfl rfl rBr.at rfl) ?_ | (refine EL_call rfl rfl (entersF rfl rfl en16) (c16 _ hvr) (fun vC wC hC => ?_); obtain ⟨rfl, xC⟩ := hC) | (refine at_EL ?_; first | refine eN ?_ | refine eO rfl rfl ?_ | refine eV rfl rfl (zA rfl rfl) ?_ | refine eV rfl rfl (zB rfl rfl) ?_ | (refine at_bin ?_; first | refine eD rfl rfl (zL rfl rfl rfl) (fun hh => ?_) (fun hh => ?_) | refine eD rfl rfl (zM rfl rfl rfl) (fun hh => ?_) (fun hh => ?_) | refine eD rfl rfl (zN rfl rfl rfl) (fun hh => ?_) (fun hh => ?_)) | (refine at_call ?_; first | refine eV rfl rfl (zK rfl rfl) ?_) | refine eV rfl rfl (zC rfl rfl rfl) ?_ | refine eV rfl rfl (zD rfl rfl rfl) ?_ | refine eV rfl rfl (zH rfl rfl) ?_) | (refine at_K ?_; first | refine K_then ?_ | refine K_then_exit ?_ | refine K_in_exit ?_) | (refine at_E ?_; first | refine E_seq ?_ | refine E_region ?_ | refine E_cond_t rfl ?_ | refine E_cond_f rfl ?_ | refine E_block ?_ | refine E_skip ?_ | refine E_ret ?_ | refine E_exit ?_)))
      all_goals (first | (exfalso; omega) | skip)
      all_goals (first
        | exact ret_1 rfl rfl ⟨by unfold lightF; rw [decide_eq_false hck, Bool.and_false], xB.trans (hx.trans xC)⟩
        | exact ret_1 rfl rfl ⟨by unfold lightF; rw [decide_eq_false (p := sizeP xs ≤ 100) (by unfold sizeP; rw [e1] at *; omega)]; rfl, xB.trans hx⟩)
end Go.Proofs.YtjpjpgeeeigbkaaDoor
