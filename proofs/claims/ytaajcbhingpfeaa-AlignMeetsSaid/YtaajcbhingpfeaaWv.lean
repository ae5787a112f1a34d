/-
  The library's slices.Sort at []int, laid at this program: what the kit's one command prints, in plain words.
-/
import Derived.Test.YtaajcbhingpfeaaProg
import Derived.Shelf.Sort.Plain
import Derived.Shelf.Slices.In.SortNone
import Derived.Sort.OwnSortedInts
import Derived.Test.YtaajcbhingpfeaaWt
import Derived.Test.YtaajcbhingpfeaaWu
set_option linter.all false
namespace Go.Proofs
open Go.RowKit Go.Shelf Go.Lib
def Try.laysSort_ren : Go.Shelf.Ren := ⟨fun | 189 => 71 | 125 => 85 | 257 => 84 | 128 => 101 | 129 => 102 | 294 => 92 | 295 => 93 | 296 => 94 | 297 => 95 | 298 => 96 | 299 => 97 | 216 => 98 | 300 => 99 | 301 => 100 | 328 => 107 | 329 => 108 | 330 => 109 | 331 => 110 | 332 => 111 | 215 => 88 | 343 => 113 | n => n, fun | 28 => 22 | 3 => 3 | 46 => 97 | 0 => 0 | 51 => 114 | 53 => 116 | 4 => 4 | 183 => 106 | 182 => 105 | 131 => 111 | 5 => 5 | 9 => 9 | 218 => 118 | 222 => 122 | 228 => 125 | 229 => 100 | n => n, fun | n => n⟩
theorem Try.laysSort : Go.Proofs.Lays.n189 Try.prog Try.laysSort_ren := {
  mixed := by kernel_rfl
  f125 := Try.func85.trans (congrArg some (by kernel_rfl))
  f128 := Try.func101.trans (congrArg some (by kernel_rfl))
  f129 := Try.func102.trans (congrArg some (by kernel_rfl))
  f189 := Try.func71.trans (congrArg some (by kernel_rfl))
  f215 := Try.func88.trans (congrArg some (by kernel_rfl))
  f216 := Try.func98.trans (congrArg some (by kernel_rfl))
  f257 := Try.func84.trans (congrArg some (by kernel_rfl))
  f294 := Try.func92.trans (congrArg some (by kernel_rfl))
  f295 := Try.func93.trans (congrArg some (by kernel_rfl))
  f296 := Try.func94.trans (congrArg some (by kernel_rfl))
  f297 := Try.func95.trans (congrArg some (by kernel_rfl))
  f298 := Try.func96.trans (congrArg some (by kernel_rfl))
  f299 := Try.func97.trans (congrArg some (by kernel_rfl))
  f300 := Try.func99.trans (congrArg some (by kernel_rfl))
  f301 := Try.func100.trans (congrArg some (by kernel_rfl))
  f328 := Try.func107.trans (congrArg some (by kernel_rfl))
  f329 := Try.func108.trans (congrArg some (by kernel_rfl))
  f330 := Try.func109.trans (congrArg some (by kernel_rfl))
  f331 := Try.func110.trans (congrArg some (by kernel_rfl))
  f332 := Try.func111.trans (congrArg some (by kernel_rfl))
  f343 := Try.func113.trans (congrArg some (by kernel_rfl))
  t0 := Try.underlying0
  a0 := Try.isAgg0
  z0 := Try.sizeOf0
  v0 := Try.zeroValue0
  t3 := Try.underlying3
  a3 := Try.isAgg3
  z3 := Try.sizeOf3
  v3 := Try.zeroValue3
  t4 := Try.underlying4
  a4 := Try.isAgg4
  z4 := Try.sizeOf4
  v4 := Try.zeroValue4
  t5 := Try.underlying5
  a5 := Try.isAgg5
  z5 := Try.sizeOf5
  v5 := Try.zeroValue5
  t9 := Try.underlying9
  a9 := Try.isAgg9
  z9 := Try.sizeOf9
  v9 := Try.zeroValue9
  t28 := Try.underlying22
  a28 := Try.isAgg22
  z28 := Try.sizeOf22
  v28 := Try.zeroValue22
  t46 := Try.underlying97
  a46 := Try.isAgg97
  z46 := Try.sizeOf97
  v46 := Try.zeroValue97
  t51 := Try.underlying114
  a51 := Try.isAgg114
  z51 := Try.sizeOf114
  v51 := Try.zeroValue114
  t53 := Try.underlying116
  a53 := Try.isAgg116
  z53 := Try.sizeOf116
  v53 := Try.zeroValue116
  t131 := Try.underlying111
  a131 := Try.isAgg111
  z131 := Try.sizeOf111
  v131 := Try.zeroValue111
  t182 := Try.underlying105
  a182 := Try.isAgg105
  z182 := Try.sizeOf105
  v182 := Try.zeroValue105
  t183 := Try.underlying106
  a183 := Try.isAgg106
  z183 := Try.sizeOf106
  v183 := Try.zeroValue106
  t218 := Try.underlying118
  a218 := Try.isAgg118
  z218 := Try.sizeOf118
  v218 := Try.zeroValue118
  t222 := Try.underlying122
  a222 := Try.isAgg122
  z222 := Try.sizeOf122
  v222 := Try.zeroValue122
  t228 := Try.underlying125
  a228 := Try.isAgg125
  z228 := Try.sizeOf125
  v228 := Try.zeroValue125
  t229 := Try.underlying100
  a229 := Try.isAgg100
  z229 := Try.sizeOf100
  v229 := Try.zeroValue100 }


end Go.Proofs
namespace Go.Proofs.Ytaajcbhingpfeaa
open Go.RowKit Go.En Go.Sort
theorem sort71_any (l : List Int) (v : Value) (B : Nat) (w : World) (h : w.ownsRow B 3 1 v l.length (l.map int)) (hlen : l.length ≤ 1000) : Calls Try.prog 71 #[v] w (Rt fun _ w' => w'.ownsRow B 3 1 v l.length ((l.mergeSort (fun x y => decide (x ≤ y))).map int) ∧ Kb v.ownBlock w w') := by
  rcases h.2 with ⟨rfl, h0⟩ | ⟨g, cap, cur, rfl, hb, hg, h1, h2, h3, h4⟩
  · have hl : l = [] := List.length_eq_zero_iff.1 h0
    subst hl
    have c := Any.slices_Sort_int_none Try.laysSort none 0 w
    refine Calls.mono c ?_
    rintro e w' ⟨rfl, rfl⟩
    exact ⟨_, rfl, by simpa using h, Kb.refl _ _⟩
  · have hH := holds_of_blockI (ss := l) hg (by rw [Nat.mul_one] at h4; exact h4)
    have c := Any.slices_Sort_int Try.laysSort g 0 cap l w hH (Array.getElem?_eq_some_iff.1 hg).1 (by omega)
    refine Calls.mono c ?_
    rintro e w' ⟨rfl, n, os, rfl⟩
    exact ⟨_, rfl, ownsRow_sortedI (by simp) hb hg h1 h2 h3, grownBy_sortedI _⟩
theorem sl_Ints {w : World} {v : Value} {l : List Int} (h : Sl w v l) : Ints w.heap.size w v l := by
  obtain ⟨a, cap, rfl, hc, hm, hp⟩ := h.sl
  by_cases h0 : 0 < l.length
  · obtain ⟨b, off, rfl, hat⟩ := sl_ints h h0
    refine .inr ⟨b, off, cap, rfl, hat.lt (by simpa using h0), fun j hj => ?_⟩
    have := hat j (int (l[j]?.getD 0)) (by rw [List.getElem?_map, List.getElem?_eq_getElem hj]; rfl)
    exact this
  · obtain rfl : l = [] := List.length_eq_zero_iff.1 (by omega)
    exact .inl ⟨⟨a, cap, rfl⟩, rfl⟩
theorem seq_any (l : List Int) (v : Value) (b : Nat) (w : World) (hr : Row w b 22 [v]) (hv : Sl w v l) (hl : l.length ≤ 1000) : Calls Try.prog 83 #[.slice none 0 0, .func (.func 72) #[] #[.pointer (some ⟨b, 0, none⟩)] ] w (Rt fun u w' => Ext w w' ∧ w'.ownsRow w.heap.size 3 1 u l.length (l.map int)) := by
  refine Calls.mono (appendSeq_any v l (by omega) b w hr.lt (hr.cellAt (j := 0) rfl) (sl_Ints hv)) ?_
  rintro e w' ⟨u, rfl, ho, hb⟩
  exact ⟨u, rfl, hb, ho⟩
attribute [local irreducible] E EL K Val Enters Rt Calls bodyPost Code.wp RQ
set_option maxRecDepth 8000 in
theorem values_any (a : Option Addr) (n cap : Nat) (w : World) : Calls Try.prog 55 #[.slice a n cap] w (Rt fun u w' => ∃ b, u = .func (.func 72) #[] #[.pointer (some ⟨b, 0, none⟩)] ∧ Row w' b 22 [.slice a n cap] ∧ Ext w w') := by
  refine calls_E (n := 4) (args := [.slice a n cap]) Try.func55 rfl Try.ntmps55 (by simp) ?_
  refine E_seq ?_
  refine E_region ?_
  refine EL_box rfl rfl rfl rfl (fun bS wS xS hbS rS0 => ?_)
  have rS : Row wS bS 22 [.slice a n cap] := rS0
  (repeat' (first | refine eV rfl rfl (val_makeFunc (vs := [.pointer (some ⟨bS, 0, none⟩)]) rfl rfl) ?_ | (refine at_EL ?_; first | refine eN ?_ | refine eV rfl rfl (zB rfl rfl) ?_) | (refine at_K ?_; first | refine K_then ?_) | (refine at_E ?_; first | refine E_seq ?_ | refine E_region ?_ | refine E_ret ?_)))
  exact ret_1 rfl rfl ⟨bS, rfl, rS, xS⟩
set_option maxRecDepth 8000 in
theorem collect70_any (l : List Int) (v : Value) (b : Nat) (w : World) (hr : Row w b 22 [v]) (hv : Sl w v l) (hl : l.length ≤ 1000) : Calls Try.prog 70 #[.func (.func 72) #[] #[.pointer (some ⟨b, 0, none⟩)] ] w (Rt fun u w' => Ext w w' ∧ w'.ownsRow w.heap.size 3 1 u l.length (l.map int)) := by
  refine calls_E (n := 5) (args := [.func (.func 72) #[] #[.pointer (some ⟨b, 0, none⟩)] ]) Try.func70 rfl Try.ntmps70 (by simp) ?_
  have c := seq_any l v b w hr hv hl
  (repeat' (first | (refine EL_call rfl rfl (entersF rfl rfl en83) c (fun vC wC hC => ?_); obtain ⟨xC, oC⟩ := hC) | (refine at_EL ?_; first | refine eN ?_ | refine eV rfl rfl (zA rfl rfl) ?_ | refine eV rfl rfl (zB rfl rfl) ?_) | (refine at_K ?_; first | refine K_then ?_) | (refine at_E ?_; first | refine E_seq ?_ | refine E_region ?_ | refine E_ret ?_)))
  exact ret_1 rfl rfl ⟨xC, oC⟩
set_option maxRecDepth 8000 in
theorem sorted54_any (l : List Int) (v : Value) (b : Nat) (w : World) (hr : Row w b 22 [v]) (hv : Sl w v l) (hl : l.length ≤ 1000) : Calls Try.prog 54 #[.func (.func 72) #[] #[.pointer (some ⟨b, 0, none⟩)] ] w (Rt fun u w' => Ext w w' ∧ w'.ownsRow w.heap.size 3 1 u l.length ((l.mergeSort (fun x y => decide (x ≤ y))).map int)) := by
  refine calls_E (n := 9) (args := [.func (.func 72) #[] #[.pointer (some ⟨b, 0, none⟩)] ]) Try.func54 rfl Try.ntmps54 (by simp) ?_
  have c := collect70_any l v b w hr hv hl
  (repeat' (first | (refine EL_call rfl rfl (entersF rfl rfl en70) c (fun vC wC hC => ?_); obtain ⟨xC, oC⟩ := hC) | (refine at_EL ?_; first | refine eN ?_ | refine eV rfl rfl (zA rfl rfl) ?_ | refine eV rfl rfl (zB rfl rfl) ?_) | (refine at_K ?_; first | refine K_then ?_) | (refine at_E ?_; first | refine E_seq ?_ | refine E_region ?_)))
  have c2 := sort71_any l vC w.heap.size wC oC hl
  (repeat' (first | (refine EL_call rfl rfl (entersF rfl rfl en71) c2 (fun vD wD hD => ?_); obtain ⟨oD, kD⟩ := hD) | (refine at_EL ?_; first | refine eN ?_ | refine eV rfl rfl (zA rfl rfl) ?_ | refine eV rfl rfl (zB rfl rfl) ?_) | (refine at_K ?_; first | refine K_then ?_) | (refine at_E ?_; first | refine E_seq ?_ | refine E_region ?_ | refine E_ret ?_)))
  exact ret_1 rfl rfl ⟨own_anchor oC xC kD, oD⟩
set_option maxRecDepth 8000 in
theorem compact_any (l : List Int) (v : Value) (w : World) (hv : Sl w v l) (hne : ∀ i x y, l[i]? = some x → l[i + 1]? = some y → x ≠ y) : Calls Try.prog 53 #[v] w (Rt fun u w' => u = v ∧ Ext w w') := by
  have hv0 := hv
  obtain ⟨a, cap, rfl, hc, hm, hp⟩ := hv.sl
  refine calls_E (n := 61) (args := [.slice a l.length cap]) Try.func53 rfl Try.ntmps53 (by simp) ?_
  by_cases h2 : l.length < 2
  · (repeat' ((fail_if_success (refine E_seq (x := (Code.block 0 _)) ?_)); first | (refine at_EL ?_; first | refine eN ?_ | refine eV rfl rfl (zA rfl rfl) ?_ | refine eV rfl rfl (zB rfl rfl) ?_ | (refine at_bin ?_; first | refine eD rfl rfl (zL rfl rfl rfl) (fun hh => ?_) (fun hh => ?_)) | (refine at_call ?_; first | refine eV rfl rfl (zK rfl rfl) ?_)) | (refine at_K ?_; first | refine K_then ?_ | refine K_then_ret ?_) | (refine at_E ?_; first | refine E_seq ?_ | refine E_region ?_ | refine E_cond_t rfl ?_ | refine E_cond_f rfl ?_ | refine E_block ?_ | refine E_skip ?_ | refine E_ret ?_)))
    all_goals (first | (exfalso; omega) | skip)
    all_goals exact ret_1 rfl rfl ⟨rfl, Ext.refl _⟩
  · (repeat' ((fail_if_success (refine E_seq (x := (Code.block 0 _)) ?_)); first | (refine at_EL ?_; first | refine eN ?_ | refine eV rfl rfl (zA rfl rfl) ?_ | refine eV rfl rfl (zB rfl rfl) ?_ | (refine at_bin ?_; first | refine eD rfl rfl (zL rfl rfl rfl) (fun hh => ?_) (fun hh => ?_)) | (refine at_call ?_; first | refine eV rfl rfl (zK rfl rfl) ?_)) | (refine at_K ?_; first | refine K_then ?_ | refine K_then_ret ?_) | (refine at_E ?_; first | refine E_seq ?_ | refine E_region ?_ | refine E_cond_t rfl ?_ | refine E_cond_f rfl ?_ | refine E_block ?_ | refine E_skip ?_ | refine E_ret ?_)))
    all_goals (first | (exfalso; omega) | skip)
    refine E_loop (ι := Nat) (fun i => [(0, .slice a l.length cap), (3, int i)])
      (fun i wr => 1 ≤ i ∧ i ≤ l.length ∧ Ext w wr) (fun i => l.length - i) 1
      ⟨rfl, rfl, trivial⟩ ⟨Nat.le_refl _, by omega, Ext.refl _⟩ ?_
    rintro i wr ⟨hi1, hi, hx⟩
    by_cases hlt : i < l.length
    · obtain ⟨b, off, rfl⟩ := hp (by omega)
      obtain ⟨x, hxl⟩ : ∃ x, l[i - 1]? = some x := ⟨_, List.getElem?_eq_getElem (by omega)⟩
      obtain ⟨y, hyl⟩ : ∃ y, l[i]? = some y := ⟨_, List.getElem?_eq_getElem hlt⟩
      have cx := int_elem (hv0.ext hx) hxl
      have cy := int_elem (hv0.ext hx) hyl
      have hxy : decide (y = x) = false := decide_eq_false (fun e => hne (i - 1) x y hxl (by rw [show i - 1 + 1 = i by omega]; exact hyl) e.symm)
      (repeat' (first | refine yV rfl rfl (fun _ _ _ => val_indexAddr (m := i) rfl rfl rfl rfl (by omega)) ?_ | refine yV rfl rfl (fun _ _ _ => val_indexAddr (m := i - 1) rfl rfl rfl (by omega) (by omega)) ?_ | refine yV rfl rfl (fun wq _ xq => val_load rfl rfl rfl (xq.cell cx)) ?_ | refine yV rfl rfl (fun wq _ xq => val_load rfl rfl rfl (xq.cell cy)) ?_ | refine yV (v := .bool false) rfl rfl (fun _ _ _ => by rw [← hxy]; exact zM rfl rfl rfl) ?_ | (refine at_EL ?_; first | refine eN ?_ | refine eV rfl rfl (zA rfl rfl) ?_ | refine eV rfl rfl (zB rfl rfl) ?_ | (refine at_bin ?_; first | refine eD rfl rfl (zL rfl rfl rfl) (fun hh => ?_) (fun hh => ?_) | refine eV rfl rfl (zU rfl rfl rfl (by omega) (by omega)) ?_) | (refine at_call ?_; first | refine eV rfl rfl (zK rfl rfl) ?_)) | (refine at_K ?_; first | refine K_then ?_ | refine K_in ?_ | refine K_then_exit ?_ | refine K_in_exit ?_) | (refine at_E ?_; first | refine E_seq ?_ | refine E_region ?_ | refine E_cond_t rfl ?_ | refine E_cond_f rfl ?_ | refine E_block ?_ | refine E_skip ?_ | refine E_ret ?_ | refine E_exit ?_ | refine E_dq mixedOk (by kernel_rfl) rfl ?_) | (refine at_RQ ?_; first | refine yN rfl (fun wq xq => ?_) | refine yV rfl rfl (fun _ _ _ => zA rfl rfl) ?_ | (refine at_binR ?_; first | refine yV rfl rfl (fun _ _ _ => zV rfl rfl rfl (by omega) (by omega)) ?_))))
      all_goals (first | (exfalso; omega) | skip)
      exact K_rnd (i + 1) ⟨rfl, rfl, trivial⟩ ⟨by omega, by omega, hx.trans xq⟩ (by omega)
    · (repeat' (first | (refine at_EL ?_; first | refine eN ?_ | refine eV rfl rfl (zA rfl rfl) ?_ | refine eV rfl rfl (zB rfl rfl) ?_ | (refine at_bin ?_; first | refine eD rfl rfl (zL rfl rfl rfl) (fun hh => ?_) (fun hh => ?_)) | (refine at_call ?_; first | refine eV rfl rfl (zK rfl rfl) ?_)) | (refine at_K ?_; first | refine K_then ?_ | refine K_then_exit ?_ | refine K_in_exit ?_) | (refine at_E ?_; first | refine E_seq ?_ | refine E_region ?_ | refine E_cond_t rfl ?_ | refine E_cond_f rfl ?_ | refine E_block ?_ | refine E_skip ?_ | refine E_ret ?_ | refine E_exit ?_)))
      all_goals (first | (exfalso; omega) | skip)
      exact ret_1 rfl rfl ⟨rfl, hx⟩
set_option maxRecDepth 8000 in
theorem sorted39_any (l : List Int) (v : Value) (w : World) (hv : Sl w v l) (hn : l.Nodup) (hl : l.length ≤ 14) : Calls Try.prog 39 #[v] w (Rt fun u w' => Ext w w' ∧ Sl w' u (l.mergeSort (fun x y => decide (x ≤ y)))) := by
  have hv0 := hv
  obtain ⟨a, cap, rfl, hc, hm, hp⟩ := hv.sl
  refine calls_E (n := 7) (args := [.slice a l.length cap]) Try.func39 rfl Try.ntmps39 (by simp) ?_
  have c1 := values_any a l.length cap w
  (repeat' (first | (refine EL_call rfl rfl (entersF rfl rfl en55) c1 (fun vC wC hC => ?_); obtain ⟨b, rfl, rB, xC⟩ := hC) | (refine at_EL ?_; first | refine eN ?_ | refine eV rfl rfl (zA rfl rfl) ?_ | refine eV rfl rfl (zB rfl rfl) ?_) | (refine at_K ?_; first | refine K_then ?_) | (refine at_E ?_; first | refine E_seq ?_ | refine E_region ?_)))
  have c2 := sorted54_any l _ b wC rB (hv0.ext xC) (by omega)
  have hsl : (l.mergeSort (fun x y => decide (x ≤ y))).length = l.length := by simp
  have hnd : (l.mergeSort (fun x y => decide (x ≤ y))).Nodup := (List.mergeSort_perm l _).nodup_iff.2 hn
  (repeat' (first | (refine EL_call rfl rfl (entersF rfl rfl en54) c2 (fun vD wD hD => ?_); obtain ⟨xD, oD⟩ := hD)))
  have sD : Sl wD vD (l.mergeSort (fun x y => decide (x ≤ y))) := own_Sl (css := (l.mergeSort (fun x y => decide (x ≤ y))).map fun z => [int z]) (by rw [ints_flat]; exact oD) (ints_ats _ _) hsl.symm (by omega)
  have c3 := compact_any _ vD wD sD (fun i x y hx hy e => by
    have h1 := (List.getElem?_eq_some_iff.1 hx).1
    have := (List.getElem?_inj h1 hnd).1 (by rw [hx, hy, e] : _ = (l.mergeSort (fun x y => decide (x ≤ y)))[i + 1]?)
    omega)
  (repeat' (first | (refine EL_call rfl rfl (entersF rfl rfl en53) c3 (fun vE wE hE => ?_); obtain ⟨rfl, xE⟩ := hE) | (refine at_EL ?_; first | refine eN ?_ | refine eV rfl rfl (zB rfl rfl) ?_) | (refine at_K ?_; first | refine K_then ?_) | (refine at_E ?_; first | refine E_ret ?_)))
  exact ret_1 rfl rfl ⟨xC.trans (xD.trans xE), sD.ext xE⟩
theorem under_any {d : Dc} (h : LightD d) (v : Value) (id : Int) (w : World) (hv : DcAt w v d) : Calls Try.prog 16 #[v, int id] w (Rt fun u w' => Ext w w' ∧ Sl w' u (underR d id)) := under_pre h (fun l v w => sorted39_any l v w) v id w hv
end Go.Proofs.Ytaajcbhingpfeaa
