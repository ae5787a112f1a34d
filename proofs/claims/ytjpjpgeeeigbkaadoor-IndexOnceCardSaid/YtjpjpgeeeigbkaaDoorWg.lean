/-
  Walks: the reference's Copy, the law's some.
-/
import Derived.Test.YtjpjpgeeeigbkaaDoorWc
import Derived.Test.YtjpjpgeeeigbkaaDoorWe
set_option linter.all false
namespace Go.Proofs.YtjpjpgeeeigbkaaDoor
open Go.RowKit Go.En
def sizeP (xs : List Post) : Nat := xs.length + (xs.map fun p => p.ids.length).sum
theorem sum_take {xs : List Post} {i : Nat} {x : Post} (h : xs[i]? = some x) : ((xs.take (i + 1)).map fun p => p.ids.length).sum = ((xs.take i).map fun p => p.ids.length).sum + x.ids.length := by
  obtain ⟨hi, rfl⟩ := List.getElem?_eq_some_iff.1 h
  rw [List.take_succ_eq_append_getElem hi, List.map_append, List.sum_append]
  simp
theorem sum_le (xs : List Post) (i : Nat) : ((xs.take i).map fun p => p.ids.length).sum ≤ (xs.map fun p => p.ids.length).sum := by
  conv => rhs; rw [← List.take_append_drop i xs]
  simp only [List.map_append, List.sum_append]
  omega
attribute [local irreducible] E EL K Val Enters Rt Calls bodyPost Code.wp RQ
theorem some_any (xs : List Post) (v : Value) (w : World) (hv : Sl w v xs) : Calls Tryd.prog 13 #[.agg #[v]] w (Rt fun u w' => u = .bool (decide (sizeP xs ≤ 200)) ∧ Ext w w') := by
  refine calls_E (n := 30) (args := [.agg #[v]]) Tryd.func13 rfl Tryd.ntmps13 (by simp) ?_
  have hv0 := hv
  obtain ⟨a, cap, rfl, hc, hm, hp⟩ := hv.sl
  refine E_seq ?_
  refine E_region ?_
  refine EL_box rfl rfl rfl rfl (fun bB wB xB hbB rB => ?_)
  (repeat' (first | refine eV rfl rfl (val_load rfl rfl rfl (rB.cellAt rfl)) ?_ | (refine at_EL ?_; first | refine eN ?_ | refine eV rfl rfl (zB rfl rfl) ?_ | (refine at_call ?_; first | refine eV rfl rfl (zK rfl rfl) ?_) | refine eV rfl rfl (zH rfl rfl) ?_) | (refine at_K ?_; first | refine K_then ?_) | (refine at_E ?_; first | refine E_seq ?_ | refine E_region ?_ | refine E_block ?_)))
  refine E_loop (ι := Nat) (fun i => [(1, .pointer (some ⟨bB, 0, none⟩)), (3, int ((xs.length + ((xs.take i).map fun p => p.ids.length).sum : Nat) : Int)), (4, int i)])
    (fun i wr => i ≤ xs.length ∧ Ext wB wr ∧ (xs.length + ((xs.take i).map fun p => p.ids.length).sum : Nat) ≤ 281474976710656) (fun i => xs.length - i) 0
    ⟨rfl, rfl, rfl, trivial⟩ ⟨Nat.zero_le _, Ext.refl _, by simp; omega⟩ ?_
  rintro i wr ⟨hi, hx, hb⟩
  have rBr := rB.ext hx
  have hsl := sum_le xs i
  by_cases hlt : i < xs.length
  · obtain ⟨b, off, rfl⟩ := hp (by omega)
    obtain ⟨x, hxx⟩ : ∃ x, xs[i]? = some x := ⟨_, List.getElem?_eq_getElem hlt⟩
    obtain ⟨iv, hat, hiv⟩ := post_elem (hv0.ext (xB.trans hx)) hxx
    obtain ⟨a2, cap2, rfl, hc2, hm2, hp2⟩ := hiv.sl
    have hst := sum_take hxx
    have hsl2 := sum_le xs (i + 1)
    (repeat' (first | refine eV rfl rfl (val_load rfl rfl rfl (rBr.cellAt rfl)) ?_ | refine eV rfl rfl (val_indexAddr (m := i) rfl rfl rfl rfl (by omega)) ?_ | refine eV rfl rfl (val_load rfl rfl rfl (hat.cellAt rfl)) ?_ | (refine at_EL ?_; first | refine eN ?_ | refine eO rfl rfl ?_ | refine eV rfl rfl (zA rfl rfl) ?_ | refine eV rfl rfl (zB rfl rfl) ?_ | (refine at_bin ?_; first | refine eD rfl rfl (zL rfl rfl rfl) (fun hh => ?_) (fun hh => ?_) | refine eD rfl rfl (zN rfl rfl rfl) (fun hh => ?_) (fun hh => ?_) | refine eV rfl rfl (zU rfl rfl rfl (by omega) (by omega)) ?_) | (refine at_call ?_; first | refine eV rfl rfl (zK rfl rfl) ?_) | refine eV rfl rfl (zC rfl rfl rfl) ?_ | refine eV rfl rfl (zD rfl rfl rfl) ?_ | refine eV rfl rfl (zH rfl rfl) ?_) | (refine at_K ?_; first | refine K_then ?_ | refine K_in ?_ | refine K_then_exit ?_ | refine K_in_exit ?_) | (refine at_E ?_; first | refine E_seq ?_ | refine E_region ?_ | refine E_cond_t rfl ?_ | refine E_cond_f rfl ?_ | refine E_block ?_ | refine E_skip ?_ | refine E_ret ?_ | refine E_exit ?_)))
    all_goals (first | (exfalso; omega) | skip)
    · refine K_rnd (i + 1) ⟨rfl, ?_, rfl, trivial⟩ ⟨by omega, hx, by omega⟩ (by omega)
      show some (int _) = some (int _)
      congr 2
      omega
    all_goals exact ret_1 rfl rfl ⟨by rw [decide_eq_false]; unfold sizeP; omega, xB.trans hx⟩
  · have hi' : i = xs.length := by omega
    have e1 : xs.take i = xs := by rw [hi', List.take_length]
    (repeat' (first | refine eV rfl rfl (val_load rfl rfl rfl (rBr.cellAt rfl)) ?_ | (refine at_EL ?_; first | refine eN ?_ | refine eO rfl rfl ?_ | refine eV rfl rfl (zA rfl rfl) ?_ | refine eV rfl rfl (zB rfl rfl) ?_ | (refine at_bin ?_; first | refine eD rfl rfl (zL rfl rfl rfl) (fun hh => ?_) (fun hh => ?_) | refine eD rfl rfl (zN rfl rfl rfl) (fun hh => ?_) (fun hh => ?_)) | (refine at_call ?_; first | refine eV rfl rfl (zK rfl rfl) ?_) | refine eV rfl rfl (zC rfl rfl rfl) ?_ | refine eV rfl rfl (zD rfl rfl rfl) ?_ | refine eV rfl rfl (zH rfl rfl) ?_) | (refine at_K ?_; first | refine K_then ?_ | refine K_then_exit ?_ | refine K_in_exit ?_) | (refine at_E ?_; first | refine E_seq ?_ | refine E_region ?_ | refine E_cond_t rfl ?_ | refine E_cond_f rfl ?_ | refine E_block ?_ | refine E_skip ?_ | refine E_ret ?_ | refine E_exit ?_)))
    all_goals (first | (exfalso; omega) | skip)
    · exact ret_1 rfl rfl ⟨by rw [decide_eq_true]; unfold sizeP; rw [e1] at *; omega, xB.trans hx⟩
    · exact ret_1 rfl rfl ⟨by rw [decide_eq_false]; unfold sizeP; rw [e1] at *; omega, xB.trans hx⟩
set_option maxHeartbeats 1000000 in
theorem copy_any (xs : List Post) (v : Value) (w : World) (hv : Sl w v xs) (hlen : xs.length ≤ 1099511627776) (hids : ∀ p ∈ xs, p.ids.length ≤ 1099511627776) :
    Calls Tryd.prog 15 #[.agg #[v]] w (Rt fun u w' => Ext w w' ∧ Ix w' u xs) := by
  refine calls_E (n := 30) (args := [.agg #[v]]) Tryd.func15 rfl Tryd.ntmps15 (by simp) ?_
  have hv0 := hv
  obtain ⟨a, cap, rfl, hc, hm, hp⟩ := hv.sl
  refine E_seq ?_
  refine E_region ?_
  refine EL_box rfl rfl rfl rfl (fun bB wB xB hbB rB0 => ?_)
  refine EL_alloc rfl rfl rfl (fun bA wA xA hbA rA0 => ?_)
  have rB := rB0.ext xA
  have x0 := xB.trans xA
  have hBA : bA < wA.heap.size := rA0.lt
  have hwB : w.heap.size ≤ bA := by have := xB.size; omega
  (repeat' (first | (refine at_EL ?_; first | refine eN ?_ | refine eV rfl rfl (zB rfl rfl) ?_ | refine eL rfl rfl rfl rfl rfl rfl rfl rfl (fun bS wS xS hbS rS => ?_)) | (refine at_K ?_; first | refine K_then ?_) | (refine at_E ?_; first | refine E_seq ?_ | refine E_region ?_ | refine E_block ?_)))
  refine E_loop (ι := Nat × Value) (fun x => [(1, .pointer (some ⟨bB, 0, none⟩)), (2, .pointer (some ⟨bA, 0, none⟩)), (3, x.2), (4, int x.1)])
    (fun x wr => x.1 ≤ xs.length ∧ Ext wA wr ∧ ∃ css, AtsG (fun b => Nb x.2 b ∧ b ≠ bA) wr (xs.take x.1) css ∧ wr.ownsRow wA.heap.size 42 3 x.2 x.1 css.flatten) (fun x => xs.length - x.1) (0, _)
    ⟨rfl, rfl, rfl, rfl, trivial⟩ ⟨Nat.zero_le _, xS, [], trivial, own_row (n := 0) (size := 3) rS rfl (by omega) (by omega)⟩ ?_
  rintro ⟨i, vO⟩ wr ⟨hi, hx, css, hA, hown⟩
  dsimp only at hi hx hA hown ⊢
  have rBr := rB.ext hx
  by_cases hlt : i < xs.length
  · obtain ⟨b, off, rfl⟩ := hp (by omega)
    obtain ⟨x, hxx⟩ : ∃ x, xs[i]? = some x := ⟨_, List.getElem?_eq_getElem hlt⟩
    have hidl := hids x (List.mem_of_getElem? hxx)
    obtain ⟨iv, hat, hiv⟩ := post_elem (hv0.ext (x0.trans hx)) hxx
    have hiv0 := hiv
    obtain ⟨a2, cap2, rfl, hc2, hm2, hp2⟩ := hiv.sl
    (repeat' (first | refine eV rfl rfl (val_load rfl rfl rfl (rBr.cellAt rfl)) ?_ | refine eV rfl rfl (val_indexAddr (m := i) rfl rfl rfl rfl (by omega)) ?_ | refine eV rfl rfl (val_loadA rfl rfl rfl hat rfl) ?_ | (refine at_EL ?_; first | refine eN ?_ | refine eV rfl rfl (zA rfl rfl) ?_ | (refine at_bin ?_; first | refine eD rfl rfl (zL rfl rfl rfl) (fun hh => ?_) (fun hh => ?_)) | (refine at_call ?_; first | refine eV rfl rfl (zK rfl rfl) ?_) | refine eV rfl rfl (zH rfl rfl) ?_) | (refine at_K ?_; first | refine K_then ?_ | refine K_then_exit ?_ | refine K_in_exit ?_) | (refine at_E ?_; first | refine E_seq ?_ | refine E_region ?_ | refine E_cond_t rfl ?_ | refine E_cond_f rfl ?_ | refine E_block ?_ | refine E_skip ?_ | refine E_exit ?_)))
    all_goals (first | (exfalso; omega) | skip)
    refine EL_alloc rfl rfl rfl (fun b5 w5 x5 hb5 r5 => ?_)
    refine EL_storeP (cs := [int x.role, str x.text, .slice a2 x.ids.length cap2]) r5 x5 (by omega) rfl rfl rfl rfl rfl rfl rfl rfl (Nat.le_refl _) (fun w6 r6 x6 k6 => ?_)
    have hs6 := x6.size
    have hb56 : b5 < w6.heap.size := r6.lt
    (repeat' (first | refine eV rfl rfl (val_load rfl rfl rfl ((r6.ext xS).cellAt rfl)) ?_ | (refine at_EL ?_; first | refine eN ?_ | refine eV rfl rfl (zH rfl rfl) ?_ | refine eL rfl rfl rfl rfl rfl rfl rfl rfl (fun bS wS xS hbS rS => ?_)) | (refine at_K ?_; first | refine K_then ?_) | (refine at_E ?_; first | refine E_seq ?_ | refine E_region ?_)))
    refine EL_appO (w0 := w6) (news := x.ids.map int) (own_row (n := 0) (size := 1) rS rfl (by omega) (by omega)) xS (fun h0 => ints_sub (hiv0.ext (x6.trans xS)) (by simpa using h0)) rfl rfl rfl rfl rfl (by simp) (ints_one _) rfl rfl (by omega) (by omega) (fun vI wI oI xI _ _ => ?_)
    have hI : SlG (fun b => w6.heap.size ≤ b) wI vI x.ids := own_SlG (css := x.ids.map fun z => [int z]) (by rw [ints_flat]; simpa [show Rep.sz Int = 1 from rfl] using oI) (ints_ats _ _) (fun b hb => hb) (by simp) hm2
    have hI0 := hI
    obtain ⟨aI, capI, rfl, _⟩ := hI.sl
    (repeat' (first | (refine at_EL ?_; first | refine eV rfl rfl (zH rfl rfl) ?_)))
    refine EL_storeP (cs := [.slice aI x.ids.length capI]) (r6.ext xI) (x6.trans xI) (by omega) rfl rfl rfl rfl rfl rfl rfl rfl (by simp) (fun w7 r7 x7 k7 => ?_)
    have r7' : Row w7 b5 42 [int x.role, str x.text, .slice aI x.ids.length capI] := r7
    have hI7 := hI0.move (k7.mv fun b hb he => by cases he; omega)
    (repeat' (first | refine eV rfl rfl (val_loadA rfl rfl rfl r7'.at rfl) ?_ | (refine at_EL ?_; first | refine eN ?_ | refine eV rfl rfl (zA rfl rfl) ?_ | refine eL rfl rfl rfl rfl rfl rfl rfl rfl (fun bS wS xS hbS rS => ?_)) | (refine at_K ?_; first | refine K_then ?_) | (refine at_E ?_; first | refine E_region ?_)))
    refine EL_appO (news := [int x.role, str x.text, .slice aI x.ids.length capI]) (own_ext hown (x7.trans xS)) (hx.trans (x7.trans xS)) (fun _ => ⟨_, _, rfl, rS.at⟩) rfl rfl rfl rfl rfl rfl rfl rfl rfl (by omega) (by omega) (fun vJ wJ oJ xJ kJ hJ => ?_)
    (repeat' (first | (refine at_EL ?_; first | refine eN ?_ | refine eV rfl rfl (zA rfl rfl) ?_ | refine eV rfl rfl (zB rfl rfl) ?_ | (refine at_bin ?_; first | refine eV rfl rfl (zU rfl rfl rfl (by omega) (by omega)) ?_)) | (refine at_K ?_; first | refine K_then ?_ | refine K_in ?_) | (refine at_E ?_; first | refine E_region ?_)))
    have hmv := Nb.mv (v := vO) (v' := vJ) kJ hJ
    have hmv2 : ∀ b, (Nb vO b ∧ b ≠ bA) → b < wS.heap.size → (Nb vJ b ∧ b ≠ bA) ∧ wJ.heap[b]? = wS.heap[b]? := fun b hb hlt => ⟨⟨(hmv b hb.1 hlt).1, hb.2⟩, (hmv b hb.1 hlt).2⟩
    refine K_rnd (i + 1, vJ) ⟨rfl, rfl, rfl, rfl, trivial⟩ ⟨by dsimp only; omega, xJ, css ++ [[int x.role, str x.text, .slice aI x.ids.length capI]], ?_, by simpa using oJ⟩ (by dsimp only; omega)
    obtain ⟨hi2, rfl⟩ := List.getElem?_eq_some_iff.1 hxx
    dsimp only
    rw [List.take_succ_eq_append_getElem hi2]
    refine AllAt.append (AtsG.move (AtsG.ext hA (x7.trans xS)) hmv2) (AllAt.one ⟨_, rfl, SlG.move ((hI7.ext xS).wk fun b hb => ⟨fun he => ?_, ?_⟩) hmv2⟩)
    · have := (hown.lt b he.symm).2
      omega
    · have := hx.size
      omega
  · obtain rfl : i = xs.length := by omega
    rw [List.take_length] at hA
    have hS : SlG (fun b => b ≠ bA) wr vO xs := own_SlG (css := css) hown (AtsG.wk hA fun b h => h.2) (fun b hb => by omega) rfl (by omega)
    have hS0 := hS
    obtain ⟨aO, capO, rfl, _⟩ := hS.sl
    (repeat' (first | refine eV rfl rfl (val_load rfl rfl rfl (rBr.cellAt rfl)) ?_ | refine eV rfl rfl (val_build (vs := [(0, .slice aO xs.length capO)]) [.slice aO xs.length capO] rfl rfl rfl) ?_ | (refine at_EL ?_; first | refine eN ?_ | refine eV rfl rfl (zA rfl rfl) ?_ | (refine at_bin ?_; first | refine eD rfl rfl (zL rfl rfl rfl) (fun hh => ?_) (fun hh => ?_)) | (refine at_call ?_; first | refine eV rfl rfl (zK rfl rfl) ?_) | refine eV rfl rfl (zH rfl rfl) ?_) | (refine at_K ?_; first | refine K_then ?_ | refine K_then_exit ?_ | refine K_in_exit ?_) | (refine at_E ?_; first | refine E_seq ?_ | refine E_region ?_ | refine E_cond_t rfl ?_ | refine E_cond_f rfl ?_ | refine E_block ?_ | refine E_skip ?_ | refine E_exit ?_)))
    all_goals (first | (exfalso; omega) | skip)
    refine EL_storeP (cs := [_]) (rA0.ext hx) (x0.trans hx) hwB rfl rfl rfl rfl rfl rfl rfl rfl (Nat.le_refl _) (fun w9 r9 x9 k9 => ?_)
    (repeat' (first | (refine at_EL ?_; first | refine eN ?_) | (refine at_K ?_; first | refine K_then ?_) | (refine at_E ?_; first | refine E_ret ?_)))
    exact ret_c rfl rfl rfl r9.at rfl ⟨x9, _, rfl, (hS0.move (k9.mv fun b hb he => by cases he; exact hb rfl)).any⟩
end Go.Proofs.YtjpjpgeeeigbkaaDoor
