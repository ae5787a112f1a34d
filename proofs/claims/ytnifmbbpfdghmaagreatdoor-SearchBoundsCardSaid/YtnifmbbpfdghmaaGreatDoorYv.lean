/-
  Walks of search: Text, all, Count; those of the reference. Walks of search: Bound, the program's and the reference's; Run with its closure; the reference's Run.
-/
import Derived.Test.YtnifmbbpfdghmaaGreatDoorYm
import Derived.Test.YtnifmbbpfdghmaaGreatDoorYt
import Derived.Test.YtnifmbbpfdghmaaGreatDoorQe
import Derived.Test.YtnifmbbpfdghmaaGreatDoorTc
import Derived.Test.YtnifmbbpfdghmaaGreatDoorY1
import Derived.Test.YtnifmbbpfdghmaaGreatDoorYu
import Derived.Test.YtnifmbbpfdghmaaGreatDoorNi
set_option linter.all false
namespace Go.Proofs.YtnifmbbpfdghmaaGreatDoor
open Go.RowKit Go.En
theorem textX_yes {xs : List Ix.Post} {r : Int} {p : List UInt8 → Bool} {i : Nat} {x : Ix.Post} (hx : xs[i]? = some x) (hr : x.role = r) (hp : p x.text = true) : textX (xs.take (i + 1)) r p = unionS (textX (xs.take i) r p) x.ids := by
  unfold textX
  rw [post_snoc hx, if_pos (by unfold ofText; rw [decide_eq_true hr, hp]; rfl), union_sorted]
theorem textX_no {xs : List Ix.Post} {r : Int} {p : List UInt8 → Bool} {i : Nat} {x : Ix.Post} (hx : xs[i]? = some x) (h : ¬ (x.role = r ∧ p x.text = true)) : textX (xs.take (i + 1)) r p = textX (xs.take i) r p := by
  unfold textX
  rw [post_snoc hx, if_neg (by unfold ofText; rw [Bool.and_eq_true, decide_eq_true_eq]; exact h), List.append_nil]
theorem Fits.take {xs : List Ix.Post} (h : Fits xs) (i : Nat) : Fits (xs.take i) where
  few := by
    have := post_len xs (fun _ => true) i
    have := h.few
    omega
  texts q hq := h.texts q (List.mem_of_mem_take hq)
theorem Fits.ids {xs : List Ix.Post} (h : Fits xs) {i : Nat} {x : Ix.Post} (hx : xs[i]? = some x) : x.ids.length ≤ 1000000 := by
  have h1 := post_snoc (q := fun _ => true) hx
  have h2 := (h.take (i + 1)).few
  rw [h1, List.length_append, if_pos rfl] at h2
  omega
attribute [local irreducible] E EL K Val Enters Rt Calls bodyPost Code.wp RQ
set_option maxRecDepth 8000 in
theorem text95_any (p s : List UInt8) (bP : Nat) (w : World) (hs : s.length ≤ 1048576) (rP : Row w bP 9 [str p]) (hT : Tabs w) : Calls Tryz.prog 95 #[str s, .pointer (some ⟨bP, 0, none⟩)] w (Rt fun u w' => u = .bool (matchF p s) ∧ Ext w w') := by
  refine calls_E (n := 7) (args := [str s, .pointer (some ⟨bP, 0, none⟩)]) Tryz.func95 rfl Tryz.ntmps95 (by simp) ?_
  have cm := pMatch_any p s hs w hT
  (repeat' (first | refine eV rfl rfl (val_load rfl rfl rfl (rP.cellAt (j := 0) rfl)) ?_ | (refine EL_call rfl rfl (entersF rfl rfl en83) cm (fun vC wC hC => ?_); obtain ⟨rfl, xC⟩ := hC) | (refine at_EL ?_; first | refine eN ?_ | refine eV rfl rfl (zA rfl rfl) ?_ | refine eV rfl rfl (zB rfl rfl) ?_) | (refine at_K ?_; first | refine K_then ?_) | (refine at_E ?_; first | refine E_seq ?_ | refine E_region ?_ | refine E_ret ?_)))
  exact ret_1 rfl rfl ⟨rfl, xC⟩
theorem all127_any (s : List UInt8) (w : World) : Calls Tryz.prog 127 #[str s] w (Rt fun u w' => u = .bool true ∧ Ext w w') := by
  refine calls_E (n := 3) (args := [str s]) Tryz.func127 rfl Tryz.ntmps127 (by simp) ?_
  (repeat' (first | (refine at_EL ?_; first | refine eN ?_ | refine eV rfl rfl (zB rfl rfl) ?_) | (refine at_K ?_; first | refine K_then ?_) | (refine at_E ?_; first | refine E_seq ?_ | refine E_region ?_ | refine E_ret ?_)))
  exact ret_1 rfl rfl ⟨rfl, Ext.refl w⟩
set_option maxHeartbeats 1000000 in
set_option maxRecDepth 8000 in
theorem text40_any (xs : List Ix.Post) (s : Value) (r : Int) (p : List UInt8) (w : World) (hf : Fits xs) (hv : Sl w s xs) (hT : Tabs w) : Calls Tryz.prog 40 #[.agg #[s], int r, str p] w (Rt fun u w' => Ext w w' ∧ SlG (Nw w) w' u (textX xs r (matchF p))) := by
  have hv0 := hv
  obtain ⟨a, cap, rfl, _, _, _⟩ := hv.sl
  refine calls_E (n := 11) (args := [.agg #[.slice a xs.length cap], int r, str p]) Tryz.func40 rfl Tryz.ntmps40 (by simp) ?_
  refine E_seq ?_
  refine E_region ?_
  refine EL_box rfl rfl rfl rfl (fun bX wX xX hbX rX0 => ?_)
  have rX1 : Row wX bX 49 [.slice a xs.length cap] := rX0
  refine EL_box rfl rfl rfl rfl (fun bP wP xP hbP rP0 => ?_)
  have rP : Row wP bP 9 [str p] := rP0
  have rX := rX1.ext xP
  have hX := xX.trans xP
  clear rX0 rX1 rP0
  have c : Calls Tryz.prog 94 #[.agg #[.slice a xs.length cap], int r, .func (.func 95) #[] #[.pointer (some ⟨bP, 0, none⟩)] ] wP (Rt fun u w' => Ext wP w' ∧ SlG (Nw wP) w' u (sortedF (postIds xs (ofText r (matchF p))))) :=
    ids94_any xs (.slice a xs.length cap) r 95 [.pointer (some ⟨bP, 0, none⟩)] en95 (matchF p) wP (hv0.ext hX) hf.few (fun x wq hx xq => text95_any p x.text bP wq (hf.texts x hx) (rP.ext xq) (Tabs.ext hT (hX.trans xq)))
  (repeat' (first | refine eV rfl rfl (val_loadA (cs := [.slice a xs.length cap]) rfl rfl rfl rX.at rfl) ?_ | refine eV rfl rfl (val_makeFunc (vs := [.pointer (some ⟨bP, 0, none⟩)]) rfl rfl) ?_ | (refine EL_call rfl rfl (entersF rfl rfl en94) c (fun vC wC hC => ?_); obtain ⟨xC, sC⟩ := hC) | (refine at_EL ?_; first | refine eN ?_ | refine eV rfl rfl (zA rfl rfl) ?_ | refine eV rfl rfl (zB rfl rfl) ?_) | (refine at_K ?_; first | refine K_then ?_) | (refine at_E ?_; first | refine E_seq ?_ | refine E_region ?_ | refine E_ret ?_)))
  exact ret_1 rfl rfl ⟨hX.trans xC, SlG.wk sC (fun b hb => by have := hX.size; unfold Nw at *; omega)⟩
set_option maxHeartbeats 1000000 in
set_option maxRecDepth 8000 in
theorem all96_any (xs : List Ix.Post) (s : Value) (r : Int) (w : World) (hf : Fits xs) (hv : Sl w s xs) : Calls Tryz.prog 96 #[.agg #[s], int r] w (Rt fun u w' => Ext w w' ∧ SlG (Nw w) w' u (textX xs r fun _ => true)) := by
  have hv0 := hv
  obtain ⟨a, cap, rfl, _, _, _⟩ := hv.sl
  refine calls_E (n := 8) (args := [.agg #[.slice a xs.length cap], int r]) Tryz.func96 rfl Tryz.ntmps96 (by simp) ?_
  refine E_seq ?_
  refine E_region ?_
  refine EL_box rfl rfl rfl rfl (fun bX wX xX hbX rX0 => ?_)
  have rX : Row wX bX 49 [.slice a xs.length cap] := rX0
  clear rX0
  have c : Calls Tryz.prog 94 #[.agg #[.slice a xs.length cap], int r, .func (.func 127) #[] #[] ] wX (Rt fun u w' => Ext wX w' ∧ SlG (Nw wX) w' u (sortedF (postIds xs (ofText r fun _ => true)))) :=
    ids94_any xs (.slice a xs.length cap) r 127 [] en127 (fun _ => true) wX (hv0.ext xX) hf.few (fun x wq hx xq => all127_any x.text wq)
  (repeat' (first | refine eV rfl rfl (val_loadA (cs := [.slice a xs.length cap]) rfl rfl rfl rX.at rfl) ?_ | (refine EL_call rfl rfl (entersF rfl rfl en94) c (fun vC wC hC => ?_); obtain ⟨xC, sC⟩ := hC) | (refine at_EL ?_; first | refine eN ?_ | refine eV rfl rfl (zA rfl rfl) ?_ | refine eV rfl rfl (zB rfl rfl) ?_) | (refine at_K ?_; first | refine K_then ?_) | (refine at_E ?_; first | refine E_seq ?_ | refine E_region ?_ | refine E_ret ?_)))
  exact ret_1 rfl rfl ⟨xX.trans xC, SlG.wk sC (fun b hb => by have := xX.size; unfold Nw at *; omega)⟩
set_option maxHeartbeats 1000000 in
set_option maxRecDepth 8000 in
theorem count42_any (xs : List Ix.Post) (s : Value) (r : Int) (w : World) (hf : Fits xs) (hv : Sl w s xs) : Calls Tryz.prog 42 #[.agg #[s], int r] w (Rt fun u w' => u = int ((textX xs r fun _ => true).length : Nat) ∧ Ext w w') := by
  have hv0 := hv
  obtain ⟨a, cap, rfl, _, _, _⟩ := hv.sl
  refine calls_E (n := 9) (args := [.agg #[.slice a xs.length cap], int r]) Tryz.func42 rfl Tryz.ntmps42 (by simp) ?_
  refine E_seq ?_
  refine E_region ?_
  refine EL_box rfl rfl rfl rfl (fun bX wX xX hbX rX0 => ?_)
  have rX : Row wX bX 49 [.slice a xs.length cap] := rX0
  clear rX0
  have c := all96_any xs (.slice a xs.length cap) r wX hf (hv0.ext xX)
  (repeat' (first | refine eV rfl rfl (val_loadA (cs := [.slice a xs.length cap]) rfl rfl rfl rX.at rfl) ?_ | (refine EL_call rfl rfl (entersF rfl rfl en96) c (fun vC wC hC => ?_); obtain ⟨xC, sC⟩ := hC; obtain ⟨ca, cc, rfl, _, _, _⟩ := sC.sl) | (refine at_EL ?_; first | refine eN ?_ | refine eV rfl rfl (zA rfl rfl) ?_ | refine eV rfl rfl (zB rfl rfl) ?_ | (refine at_call ?_; first | refine eV rfl rfl (zK rfl rfl) ?_)) | (refine at_K ?_; first | refine K_then ?_) | (refine at_E ?_; first | refine E_seq ?_ | refine E_region ?_ | refine E_ret ?_)))
  exact ret_1 rfl rfl ⟨rfl, xX.trans xC⟩
set_option maxHeartbeats 4000000 in
set_option maxRecDepth 8000 in
theorem rtext41_any (xs : List Ix.Post) (s : Value) (r : Int) (p : List UInt8) (w : World) (hf : Fits xs) (hv : Sl w s xs) : Calls Tryz.prog 41 #[.agg #[s], int r, str p] w (Rt fun u w' => Ext w w' ∧ Sl w' u (textX xs r (matchF p))) := by
  have hv0 := hv
  obtain ⟨a, cap, rfl, hc, hm, hp⟩ := hv.sl
  refine calls_E (n := 43) (args := [.agg #[.slice a xs.length cap], int r, str p]) Tryz.func41 rfl Tryz.ntmps41 (by simp) ?_
  refine E_seq ?_
  refine E_region ?_
  refine EL_box rfl rfl rfl rfl (fun bX wX xX hbX rX0 => ?_)
  have rX : Row wX bX 49 [.slice a xs.length cap] := rX0
  clear rX0
  (repeat' (first | refine eV rfl rfl (val_load rfl rfl rfl (rX.cellAt (j := 0) rfl)) ?_ | (refine at_EL ?_; first | refine eN ?_ | refine eV rfl rfl (zA rfl rfl) ?_ | refine eV rfl rfl (zB rfl rfl) ?_ | (refine at_call ?_; first | refine eV rfl rfl (zK rfl rfl) ?_) | refine eV rfl rfl (zH rfl rfl) ?_) | (refine at_K ?_; first | refine K_then ?_) | (refine at_E ?_; first | refine E_seq ?_ | refine E_region ?_ | refine E_block ?_)))
  refine E_loop (ι := Nat × Value) (fun z => [(1, int r), (2, str p), (3, .pointer (some ⟨bX, 0, none⟩)), (7, z.2), (11, int xs.length), (12, int z.1)])
    (fun z wr => z.1 ≤ xs.length ∧ Ext wX wr ∧ Sl wr z.2 (textX (xs.take z.1) r (matchF p))) (fun z => xs.length - z.1) (0, .slice none 0 0)
    ⟨rfl, rfl, rfl, rfl, rfl, rfl, trivial⟩ ⟨Nat.zero_le _, Ext.refl _, by rw [List.take_zero]; exact SlG.nil⟩ ?_
  rintro ⟨i, vO⟩ wr ⟨hi, hx, hsl⟩
  dsimp only at hi hx hsl ⊢
  have hX := xX.trans hx
  have rXr := rX.ext hx
  by_cases hlt : i < xs.length
  · obtain ⟨b, off, rfl⟩ := hp (by omega)
    obtain ⟨x, hx1⟩ : ∃ x, xs[i]? = some x := ⟨_, List.getElem?_eq_getElem hlt⟩
    obtain ⟨iv, hat, hiv⟩ := Ix.post_elem (hv0.ext hX) hx1
    have hli := hf.ids hx1
    have hlt2 := textX_le (hf.take i) r (matchF p)
    have htx := hf.texts x (List.mem_of_getElem? hx1)
    by_cases hr : x.role = r
    · have cm := rMatch_any p x.text (by omega) wr
      cases hpx : matchF p x.text with
      | true =>
        rw [hpx] at cm
        have hs2 := textX_yes hx1 hr hpx
        (repeat' (first | refine eV rfl rfl (val_load rfl rfl rfl (rXr.cellAt (j := 0) rfl)) ?_ | refine eV rfl rfl (val_indexAddr (m := i) rfl rfl rfl rfl hlt) ?_ | refine eV rfl rfl (val_load rfl rfl rfl (hat.cellAt (j := 0) rfl)) ?_ | refine eV rfl rfl (val_load rfl rfl rfl (hat.cellAt (j := 1) rfl)) ?_ | refine eV rfl rfl (val_load rfl rfl rfl (hat.cellAt (j := 2) rfl)) ?_ | (refine EL_call rfl rfl (entersF rfl rfl en55) cm (fun vC wC hC => ?_); obtain ⟨rfl, xC⟩ := hC; replace rXr := rXr.ext xC; replace hat := hat.ext xC) | (refine EL_call rfl rfl (entersF rfl rfl en58) (runion_any (textX (xs.take i) r (matchF p)) x.ids vO iv _ (hsl.ext xC) (hiv.ext xC) (by omega) (by omega)) (fun vU wU hU => ?_); obtain ⟨xU, sU⟩ := hU) | (refine at_EL ?_; first | refine eN ?_ | refine eO rfl rfl ?_ | refine eV rfl rfl (zA rfl rfl) ?_ | refine eV rfl rfl (zB rfl rfl) ?_ | (refine at_bin ?_; first | refine eD rfl rfl (zL rfl rfl rfl) (fun hh => ?_) (fun hh => ?_) | refine eD rfl rfl (zM rfl rfl rfl) (fun hh => ?_) (fun hh => ?_) | refine eV rfl rfl (zU rfl rfl rfl (by omega) (by omega)) ?_) | refine eV rfl rfl (zC rfl rfl rfl) ?_ | refine eV rfl rfl (zD rfl rfl rfl) ?_ | refine eV rfl rfl (zH rfl rfl) ?_) | (refine at_K ?_; first | refine K_then ?_ | refine K_in ?_ | refine K_then_exit ?_ | refine K_in_exit ?_) | (refine at_E ?_; first | refine E_seq ?_ | refine E_region ?_ | refine E_cond_t rfl ?_ | refine E_cond_f rfl ?_ | refine E_block ?_ | refine E_skip ?_ | refine E_ret ?_ | refine E_exit ?_)))
        all_goals (first | (exfalso; omega) | skip)
        refine K_rnd (i + 1, vU) ⟨rfl, rfl, rfl, rfl, rfl, rfl, trivial⟩ ⟨by dsimp only; omega, hx.trans (xC.trans xU), ?_⟩ (by dsimp only; omega)
        dsimp only
        rw [hs2]
        exact sU
      | false =>
        rw [hpx] at cm
        have hs2 := textX_no (r := r) (p := matchF p) hx1 (fun h => by rw [hpx] at h; cases h.2)
        (repeat' (first | refine eV rfl rfl (val_load rfl rfl rfl (rXr.cellAt (j := 0) rfl)) ?_ | refine eV rfl rfl (val_indexAddr (m := i) rfl rfl rfl rfl hlt) ?_ | refine eV rfl rfl (val_load rfl rfl rfl (hat.cellAt (j := 0) rfl)) ?_ | refine eV rfl rfl (val_load rfl rfl rfl (hat.cellAt (j := 1) rfl)) ?_ | (refine EL_call rfl rfl (entersF rfl rfl en55) cm (fun vC wC hC => ?_); obtain ⟨rfl, xC⟩ := hC) | (refine at_EL ?_; first | refine eN ?_ | refine eO rfl rfl ?_ | refine eV rfl rfl (zA rfl rfl) ?_ | refine eV rfl rfl (zB rfl rfl) ?_ | (refine at_bin ?_; first | refine eD rfl rfl (zL rfl rfl rfl) (fun hh => ?_) (fun hh => ?_) | refine eD rfl rfl (zM rfl rfl rfl) (fun hh => ?_) (fun hh => ?_) | refine eV rfl rfl (zU rfl rfl rfl (by omega) (by omega)) ?_) | refine eV rfl rfl (zC rfl rfl rfl) ?_ | refine eV rfl rfl (zD rfl rfl rfl) ?_ | refine eV rfl rfl (zH rfl rfl) ?_) | (refine at_K ?_; first | refine K_then ?_ | refine K_in ?_ | refine K_then_exit ?_ | refine K_in_exit ?_) | (refine at_E ?_; first | refine E_seq ?_ | refine E_region ?_ | refine E_cond_t rfl ?_ | refine E_cond_f rfl ?_ | refine E_block ?_ | refine E_skip ?_ | refine E_ret ?_ | refine E_exit ?_)))
        all_goals (first | (exfalso; omega) | skip)
        refine K_rnd (i + 1, vO) ⟨rfl, rfl, rfl, rfl, rfl, rfl, trivial⟩ ⟨by dsimp only; omega, hx.trans xC, ?_⟩ (by dsimp only; omega)
        dsimp only
        rw [hs2]
        exact hsl.ext xC
    · have hs2 := textX_no (r := r) (p := matchF p) hx1 (fun h => hr h.1)
      (repeat' (first | refine eV rfl rfl (val_load rfl rfl rfl (rXr.cellAt (j := 0) rfl)) ?_ | refine eV rfl rfl (val_indexAddr (m := i) rfl rfl rfl rfl hlt) ?_ | refine eV rfl rfl (val_load rfl rfl rfl (hat.cellAt (j := 0) rfl)) ?_ | (refine at_EL ?_; first | refine eN ?_ | refine eO rfl rfl ?_ | refine eV rfl rfl (zA rfl rfl) ?_ | refine eV rfl rfl (zB rfl rfl) ?_ | (refine at_bin ?_; first | refine eD rfl rfl (zL rfl rfl rfl) (fun hh => ?_) (fun hh => ?_) | refine eD rfl rfl (zM rfl rfl rfl) (fun hh => ?_) (fun hh => ?_) | refine eV rfl rfl (zU rfl rfl rfl (by omega) (by omega)) ?_) | refine eV rfl rfl (zD rfl rfl rfl) ?_ | refine eV rfl rfl (zH rfl rfl) ?_) | (refine at_K ?_; first | refine K_then ?_ | refine K_in ?_ | refine K_then_exit ?_ | refine K_in_exit ?_) | (refine at_E ?_; first | refine E_seq ?_ | refine E_region ?_ | refine E_cond_t rfl ?_ | refine E_cond_f rfl ?_ | refine E_block ?_ | refine E_skip ?_ | refine E_ret ?_ | refine E_exit ?_)))
      all_goals (first | (exfalso; omega) | skip)
      refine K_rnd (i + 1, vO) ⟨rfl, rfl, rfl, rfl, rfl, rfl, trivial⟩ ⟨by dsimp only; omega, hx, ?_⟩ (by dsimp only; omega)
      dsimp only
      rw [hs2]
      exact hsl
  · obtain rfl : i = xs.length := by omega
    rw [List.take_length] at hsl
    (repeat' (first | (refine at_EL ?_; first | refine eN ?_ | refine eV rfl rfl (zA rfl rfl) ?_ | refine eV rfl rfl (zB rfl rfl) ?_ | (refine at_bin ?_; first | refine eD rfl rfl (zL rfl rfl rfl) (fun hh => ?_) (fun hh => ?_)) | refine eV rfl rfl (zH rfl rfl) ?_) | (refine at_K ?_; first | refine K_then ?_ | refine K_then_exit ?_ | refine K_in_exit ?_) | (refine at_E ?_; first | refine E_seq ?_ | refine E_region ?_ | refine E_cond_t rfl ?_ | refine E_cond_f rfl ?_ | refine E_block ?_ | refine E_skip ?_ | refine E_ret ?_ | refine E_exit ?_)))
    all_goals (first | (exfalso; omega) | skip)
    exact ret_1 rfl rfl ⟨hX, hsl⟩
set_option maxHeartbeats 4000000 in
set_option maxRecDepth 8000 in
theorem rcount43_any (xs : List Ix.Post) (s : Value) (r : Int) (w : World) (hf : Fits xs) (hv : Sl w s xs) : Calls Tryz.prog 43 #[.agg #[s], int r] w (Rt fun u w' => u = int ((textX xs r fun _ => true).length : Nat) ∧ Ext w w') := by
  have hv0 := hv
  obtain ⟨a, cap, rfl, hc, hm, hp⟩ := hv.sl
  refine calls_E (n := 32) (args := [.agg #[.slice a xs.length cap], int r]) Tryz.func43 rfl Tryz.ntmps43 (by simp) ?_
  refine E_seq ?_
  refine E_region ?_
  refine EL_box rfl rfl rfl rfl (fun bX wX xX hbX rX0 => ?_)
  have rX : Row wX bX 49 [.slice a xs.length cap] := rX0
  clear rX0
  (repeat' (first | refine eV rfl rfl (val_load rfl rfl rfl (rX.cellAt (j := 0) rfl)) ?_ | (refine at_EL ?_; first | refine eN ?_ | refine eV rfl rfl (zA rfl rfl) ?_ | refine eV rfl rfl (zB rfl rfl) ?_ | (refine at_call ?_; first | refine eV rfl rfl (zK rfl rfl) ?_) | refine eV rfl rfl (zH rfl rfl) ?_) | (refine at_K ?_; first | refine K_then ?_) | (refine at_E ?_; first | refine E_seq ?_ | refine E_region ?_ | refine E_block ?_)))
  refine E_loop (ι := Nat × Value) (fun z => [(1, int r), (2, .pointer (some ⟨bX, 0, none⟩)), (5, z.2), (9, int xs.length), (10, int z.1)])
    (fun z wr => z.1 ≤ xs.length ∧ Ext wX wr ∧ Sl wr z.2 (textX (xs.take z.1) r fun _ => true)) (fun z => xs.length - z.1) (0, .slice none 0 0)
    ⟨rfl, rfl, rfl, rfl, rfl, trivial⟩ ⟨Nat.zero_le _, Ext.refl _, by rw [List.take_zero]; exact SlG.nil⟩ ?_
  rintro ⟨i, vO⟩ wr ⟨hi, hx, hsl⟩
  dsimp only at hi hx hsl ⊢
  have hX := xX.trans hx
  have rXr := rX.ext hx
  by_cases hlt : i < xs.length
  · obtain ⟨b, off, rfl⟩ := hp (by omega)
    obtain ⟨x, hx1⟩ : ∃ x, xs[i]? = some x := ⟨_, List.getElem?_eq_getElem hlt⟩
    obtain ⟨iv, hat, hiv⟩ := Ix.post_elem (hv0.ext hX) hx1
    have hli := hf.ids hx1
    have hlt2 := textX_le (hf.take i) r (fun _ => true)
    by_cases hr : x.role = r
    · have hs2 := textX_yes (p := fun _ => true) hx1 hr rfl
      (repeat' (first | refine eV rfl rfl (val_load rfl rfl rfl (rXr.cellAt (j := 0) rfl)) ?_ | refine eV rfl rfl (val_indexAddr (m := i) rfl rfl rfl rfl hlt) ?_ | refine eV rfl rfl (val_load rfl rfl rfl (hat.cellAt (j := 0) rfl)) ?_ | refine eV rfl rfl (val_load rfl rfl rfl (hat.cellAt (j := 2) rfl)) ?_ | (refine EL_call rfl rfl (entersF rfl rfl en58) (runion_any (textX (xs.take i) r fun _ => true) x.ids vO iv _ hsl hiv (by omega) (by omega)) (fun vU wU hU => ?_); obtain ⟨xU, sU⟩ := hU) | (refine at_EL ?_; first | refine eN ?_ | refine eV rfl rfl (zA rfl rfl) ?_ | refine eV rfl rfl (zB rfl rfl) ?_ | (refine at_bin ?_; first | refine eD rfl rfl (zL rfl rfl rfl) (fun hh => ?_) (fun hh => ?_) | refine eD rfl rfl (zM rfl rfl rfl) (fun hh => ?_) (fun hh => ?_) | refine eV rfl rfl (zU rfl rfl rfl (by omega) (by omega)) ?_) | refine eV rfl rfl (zH rfl rfl) ?_) | (refine at_K ?_; first | refine K_then ?_ | refine K_in ?_ | refine K_then_exit ?_ | refine K_in_exit ?_) | (refine at_E ?_; first | refine E_seq ?_ | refine E_region ?_ | refine E_cond_t rfl ?_ | refine E_cond_f rfl ?_ | refine E_block ?_ | refine E_skip ?_ | refine E_exit ?_)))
      all_goals (first | (exfalso; omega) | skip)
      refine K_rnd (i + 1, vU) ⟨rfl, rfl, rfl, rfl, rfl, trivial⟩ ⟨by dsimp only; omega, hx.trans xU, ?_⟩ (by dsimp only; omega)
      dsimp only
      rw [hs2]
      exact sU
    · have hs2 := textX_no (r := r) (p := fun _ => true) hx1 (fun h => hr h.1)
      (repeat' (first | refine eV rfl rfl (val_load rfl rfl rfl (rXr.cellAt (j := 0) rfl)) ?_ | refine eV rfl rfl (val_indexAddr (m := i) rfl rfl rfl rfl hlt) ?_ | refine eV rfl rfl (val_load rfl rfl rfl (hat.cellAt (j := 0) rfl)) ?_ | (refine at_EL ?_; first | refine eN ?_ | refine eV rfl rfl (zA rfl rfl) ?_ | refine eV rfl rfl (zB rfl rfl) ?_ | (refine at_bin ?_; first | refine eD rfl rfl (zL rfl rfl rfl) (fun hh => ?_) (fun hh => ?_) | refine eD rfl rfl (zM rfl rfl rfl) (fun hh => ?_) (fun hh => ?_) | refine eV rfl rfl (zU rfl rfl rfl (by omega) (by omega)) ?_) | refine eV rfl rfl (zH rfl rfl) ?_) | (refine at_K ?_; first | refine K_then ?_ | refine K_in ?_ | refine K_then_exit ?_ | refine K_in_exit ?_) | (refine at_E ?_; first | refine E_seq ?_ | refine E_region ?_ | refine E_cond_t rfl ?_ | refine E_cond_f rfl ?_ | refine E_block ?_ | refine E_skip ?_ | refine E_exit ?_)))
      all_goals (first | (exfalso; omega) | skip)
      refine K_rnd (i + 1, vO) ⟨rfl, rfl, rfl, rfl, rfl, trivial⟩ ⟨by dsimp only; omega, hx, ?_⟩ (by dsimp only; omega)
      dsimp only
      rw [hs2]
      exact hsl
  · obtain rfl : i = xs.length := by omega
    rw [List.take_length] at hsl
    obtain ⟨oa, oc, rfl, _, _, _⟩ := hsl.sl
    (repeat' (first | (refine at_EL ?_; first | refine eN ?_ | refine eV rfl rfl (zA rfl rfl) ?_ | refine eV rfl rfl (zB rfl rfl) ?_ | (refine at_bin ?_; first | refine eD rfl rfl (zL rfl rfl rfl) (fun hh => ?_) (fun hh => ?_)) | (refine at_call ?_; first | refine eV rfl rfl (zK rfl rfl) ?_) | refine eV rfl rfl (zH rfl rfl) ?_) | (refine at_K ?_; first | refine K_then ?_ | refine K_then_exit ?_ | refine K_in_exit ?_) | (refine at_E ?_; first | refine E_seq ?_ | refine E_region ?_ | refine E_cond_t rfl ?_ | refine E_cond_f rfl ?_ | refine E_block ?_ | refine E_skip ?_ | refine E_ret ?_ | refine E_exit ?_)))
    all_goals (first | (exfalso; omega) | skip)
    exact ret_1 rfl rfl ⟨rfl, hX⟩
end Go.Proofs.YtnifmbbpfdghmaaGreatDoor
namespace Go.Proofs.YtnifmbbpfdghmaaGreatDoor
open Go.RowKit Go.En
theorem two_lt {α : Type} (a b : α) : 0 < [a, b].length ∧ 1 < [a, b].length := ⟨Nat.zero_lt_succ _, Nat.succ_lt_succ (Nat.zero_lt_succ _)⟩
theorem one_lt {α : Type} (a : α) : 0 < [a].length := Nat.zero_lt_succ _
attribute [local irreducible] E EL K Val Enters Rt Calls bodyPost Code.wp RQ
set_option maxHeartbeats 8000000 in
set_option maxRecDepth 8000 in
theorem bound45_sz {xs : List Ix.Post} (hf : Fits xs) : ∀ (z : Nat) (q : Qy), SizeOf.sizeOf q < z → okQ q → ∀ (s qv : Value) (w : World), Sl w s xs → QAt w qv q → Tabs w → Calls Tryz.prog 45 #[.agg #[s], qv] w (Rt fun u w' => u = int (bndF xs q) ∧ Ext w w') := by
  intro z
  induction z with
  | zero => intro q hq; omega
  | succ z ih =>
  intro q hqz hok s qv w hsv hqv hT
  have hsv0 := hsv
  obtain ⟨sa, sc, rfl, _, _, _⟩ := hsv.sl
  rcases ok_shape hok with ⟨r, t, ks, rfl⟩ | ⟨r, t, a, rfl, ha⟩ | ⟨op, r, t, a, b, rfl, ha, hb, hop⟩
  · obtain ⟨kv, rfl, hkv⟩ := hqv
    change Sl w kv ks at hkv
    have hkv0 := hkv
    obtain ⟨qa, qc, rfl, _, _, hqp⟩ := hkv.sl
    show Calls Tryz.prog 45 #[.agg #[.slice sa xs.length sc], .agg #[int 0, int r, str t, .slice qa ks.length qc] ] w _
    refine calls_E (n := 58) (args := [.agg #[.slice sa xs.length sc], .agg #[int 0, int r, str t, .slice qa ks.length qc] ]) Tryz.func45 rfl Tryz.ntmps45 (by simp) ?_
    refine E_seq ?_
    refine E_region ?_
    refine EL_box rfl rfl rfl rfl (fun bX wX xX hbX rX0 => ?_)
    have rX1 : Row wX bX 49 [.slice sa xs.length sc] := rX0
    refine EL_box rfl rfl rfl rfl (fun bQ wQ xQ hbQ rQ0 => ?_)
    have rQ : Row wQ bQ 36 [int 0, int r, str t, .slice qa ks.length qc] := rQ0
    have rX := rX1.ext xQ
    have hX := xX.trans xQ
    clear rX0 rX1 rQ0
    have ct := text40_any xs _ r t wQ hf (hsv0.ext hX) (Tabs.ext hT hX)
    (repeat' (first | refine eV (v := .bool true) rfl rfl (eql_is rfl rfl rfl rfl) ?_ | refine eV rfl rfl (val_load rfl rfl rfl (rQ.cellAt (j := 0) rfl)) ?_ | refine eV rfl rfl (val_load rfl rfl rfl (rQ.cellAt (j := 1) rfl)) ?_ | refine eV rfl rfl (val_load rfl rfl rfl (rQ.cellAt (j := 2) rfl)) ?_ | refine eV rfl rfl (val_loadA (cs := [.slice sa xs.length sc]) rfl rfl rfl rX.at rfl) ?_ | (refine EL_call rfl rfl (entersF rfl rfl en40) ct (fun vC wC hC => ?_); obtain ⟨xC, sC⟩ := hC; obtain ⟨ca, cc, rfl, _, _, _⟩ := sC.sl) | (refine at_EL ?_; first | refine eN ?_ | refine eV rfl rfl (zB rfl rfl) ?_ | (refine at_call ?_; first | refine eV rfl rfl (zK rfl rfl) ?_) | refine eV rfl rfl (zH rfl rfl) ?_) | (refine at_K ?_; first | refine K_then ?_ | refine K_then_ret ?_ | refine K_in_ret ?_) | (refine at_E ?_; first | refine E_seq ?_ | refine E_region ?_ | refine E_cond_t rfl ?_ | refine E_block ?_ | refine E_ret ?_)))
    exact ret_1 rfl rfl ⟨by rw [bnd_0], hX.trans xC⟩
  · obtain ⟨kv, rfl, hkv⟩ := hqv
    change Sl w kv [a] at hkv
    have hkv0 := hkv
    obtain ⟨qa, qc, rfl, _, _, hqp⟩ := hkv.sl
    show Calls Tryz.prog 45 #[.agg #[.slice sa xs.length sc], .agg #[int 3, int r, str t, .slice qa [a].length qc] ] w _
    refine calls_E (n := 58) (args := [.agg #[.slice sa xs.length sc], .agg #[int 3, int r, str t, .slice qa [a].length qc] ]) Tryz.func45 rfl Tryz.ntmps45 (by simp) ?_
    refine E_seq ?_
    refine E_region ?_
    refine EL_box rfl rfl rfl rfl (fun bX wX xX hbX rX0 => ?_)
    have rX1 : Row wX bX 49 [.slice sa xs.length sc] := rX0
    refine EL_box rfl rfl rfl rfl (fun bQ wQ xQ hbQ rQ0 => ?_)
    have rQ : Row wQ bQ 36 [int 3, int r, str t, .slice qa [a].length qc] := rQ0
    have rX := rX1.ext xQ
    have hX := xX.trans xQ
    clear rX0 rX1 rQ0
    have cc := count42_any xs _ r wQ hf (hsv0.ext hX)
    (repeat' (first | refine eV (v := .bool true) rfl rfl (eql_is rfl rfl rfl rfl) ?_ | refine eV (v := .bool false) rfl rfl (eql_is rfl rfl rfl rfl) ?_ | refine eV rfl rfl (val_load rfl rfl rfl (rQ.cellAt (j := 0) rfl)) ?_ | refine eV rfl rfl (val_load rfl rfl rfl (rQ.cellAt (j := 1) rfl)) ?_ | refine eV rfl rfl (val_loadA (cs := [.slice sa xs.length sc]) rfl rfl rfl rX.at rfl) ?_ | (refine EL_call rfl rfl (entersF rfl rfl en42) cc (fun vC wC hC => ?_); obtain ⟨rfl, xC⟩ := hC) | (refine at_EL ?_; first | refine eN ?_ | refine eV rfl rfl (zB rfl rfl) ?_ | refine eV rfl rfl (zH rfl rfl) ?_) | (refine at_K ?_; first | refine K_then ?_ | refine K_then_ret ?_ | refine K_in_ret ?_) | (refine at_E ?_; first | refine E_seq ?_ | refine E_region ?_ | refine E_cond_t rfl ?_ | refine E_cond_f rfl ?_ | refine E_block ?_ | refine E_ret ?_)))
    exact ret_1 rfl rfl ⟨by rw [bnd_3], hX.trans xC⟩
  · have za : SizeOf.sizeOf a < z := by simp only [Qy.mk.sizeOf_spec, List.cons.sizeOf_spec] at hqz; omega
    have zb : SizeOf.sizeOf b < z := by simp only [Qy.mk.sizeOf_spec, List.cons.sizeOf_spec] at hqz; omega
    obtain ⟨kv, rfl, hkv⟩ := hqv
    change Sl w kv [a, b] at hkv
    have hkv0 := hkv
    obtain ⟨qa, qc, rfl, _, _, hqp⟩ := hkv.sl
    show Calls Tryz.prog 45 #[.agg #[.slice sa xs.length sc], .agg #[int op, int r, str t, .slice qa [a, b].length qc] ] w _
    refine calls_E (n := 58) (args := [.agg #[.slice sa xs.length sc], .agg #[int op, int r, str t, .slice qa [a, b].length qc] ]) Tryz.func45 rfl Tryz.ntmps45 (by simp) ?_
    refine E_seq ?_
    refine E_region ?_
    refine EL_box rfl rfl rfl rfl (fun bX wX xX hbX rX0 => ?_)
    have rX1 : Row wX bX 49 [.slice sa xs.length sc] := rX0
    refine EL_box rfl rfl rfl rfl (fun bQ wQ xQ hbQ rQ0 => ?_)
    have rQ : Row wQ bQ 36 [int op, int r, str t, .slice qa [a, b].length qc] := rQ0
    have rX := rX1.ext xQ
    have hX := xX.trans xQ
    clear rX0 rX1 rQ0
    obtain ⟨qb, qo, rfl⟩ := hqp (two_lt a b).1
    obtain ⟨k0, hat0, hk0⟩ := kid_at (i := 0) (k := a) (hkv0.ext hX) rfl
    obtain ⟨k1, hat1, hk1⟩ := kid_at (i := 1) (k := b) (hkv0.ext hX) rfl
    have c0 : ∀ wq, Ext wQ wq → Calls Tryz.prog 45 #[.agg #[.slice sa xs.length sc], .agg #[int a.op, int a.role, str a.text, k0] ] wq (Rt fun u w' => u = int (bndF xs a) ∧ Ext wq w') := fun wq xq => ih a za ha _ _ wq (hsv0.ext (hX.trans xq)) ⟨k0, rfl, hk0.ext xq⟩ (Tabs.ext hT (hX.trans xq))
    have c1 : ∀ wq, Ext wQ wq → Calls Tryz.prog 45 #[.agg #[.slice sa xs.length sc], .agg #[int b.op, int b.role, str b.text, k1] ] wq (Rt fun u w' => u = int (bndF xs b) ∧ Ext wq w') := fun wq xq => ih b zb hb _ _ wq (hsv0.ext (hX.trans xq)) ⟨k1, rfl, hk1.ext xq⟩ (Tabs.ext hT (hX.trans xq))
    rcases hop with rfl | rfl | rfl | rfl | rfl
    · (repeat' (first | refine eV (v := .bool true) rfl rfl (eql_is rfl rfl rfl rfl) ?_ | refine eV (v := .bool false) rfl rfl (eql_is rfl rfl rfl rfl) ?_ | refine eV rfl rfl (val_load rfl rfl rfl (rQ.cellAt (j := 0) rfl)) ?_ | refine yV rfl rfl (fun wq _ xq => val_loadA (cs := [.slice sa xs.length sc]) rfl rfl rfl (rX.ext xq).at rfl) ?_ | refine yV rfl rfl (fun wq _ xq => val_load rfl rfl rfl ((rQ.ext xq).cellAt (j := 3) rfl)) ?_ | refine yV rfl rfl (fun _ _ _ => val_indexAddr (m := 0) rfl rfl rfl rfl (two_lt _ _).1) ?_ | refine yV rfl rfl (fun _ _ _ => val_indexAddr (m := 1) rfl rfl rfl rfl (two_lt _ _).2) ?_ | refine yV rfl rfl (fun wq _ xq => val_loadA rfl rfl rfl (hat0.ext xq) rfl) ?_ | refine yV rfl rfl (fun wq _ xq => val_loadA rfl rfl rfl (hat1.ext xq) rfl) ?_ | refine RQ_call rfl rfl (fun _ _ _ => entersF rfl rfl en45) (fun wq xq => c0 wq xq) ?_ | refine RQ_call rfl rfl (fun _ _ _ => entersF rfl rfl en45) (fun wq xq => c1 wq xq) ?_ | refine yV rfl rfl (fun _ _ _ => val_min rfl rfl rfl) ?_ | (refine at_EL ?_; first | refine eN ?_ | refine eV rfl rfl (zB rfl rfl) ?_ | refine eV rfl rfl (zH rfl rfl) ?_) | (refine at_K ?_; first | refine K_then ?_ | refine K_then_ret ?_ | refine K_in_ret ?_) | (refine at_E ?_; first | refine E_seq ?_ | refine E_region ?_ | refine E_cond_t rfl ?_ | refine E_cond_f rfl ?_ | refine E_block ?_ | refine E_ret ?_ | refine E_dq mixedOk (by kernel_rfl) rfl ?_) | (refine at_RQ ?_; first | refine yN rfl (fun wq xq => ?_) | refine yV rfl rfl (fun _ _ _ => zB rfl rfl) ?_ | refine yV rfl rfl (fun _ _ _ => zH rfl rfl) ?_)))
      exact ret_1 rfl rfl ⟨by rw [bnd_1], hX.trans xq⟩
    · (repeat' (first | refine eV (v := .bool true) rfl rfl (eql_is rfl rfl rfl rfl) ?_ | refine eV (v := .bool false) rfl rfl (eql_is rfl rfl rfl rfl) ?_ | refine eV rfl rfl (val_load rfl rfl rfl (rQ.cellAt (j := 0) rfl)) ?_ | refine yV rfl rfl (fun wq _ xq => val_loadA (cs := [.slice sa xs.length sc]) rfl rfl rfl (rX.ext xq).at rfl) ?_ | refine yV rfl rfl (fun wq _ xq => val_load rfl rfl rfl ((rQ.ext xq).cellAt (j := 3) rfl)) ?_ | refine yV rfl rfl (fun _ _ _ => val_indexAddr (m := 0) rfl rfl rfl rfl (two_lt _ _).1) ?_ | refine yV rfl rfl (fun _ _ _ => val_indexAddr (m := 1) rfl rfl rfl rfl (two_lt _ _).2) ?_ | refine yV rfl rfl (fun wq _ xq => val_loadA rfl rfl rfl (hat0.ext xq) rfl) ?_ | refine yV rfl rfl (fun wq _ xq => val_loadA rfl rfl rfl (hat1.ext xq) rfl) ?_ | refine RQ_call rfl rfl (fun _ _ _ => entersF rfl rfl en45) (fun wq xq => c0 wq xq) ?_ | refine RQ_call rfl rfl (fun _ _ _ => entersF rfl rfl en45) (fun wq xq => c1 wq xq) ?_ | refine yV rfl rfl (fun _ _ _ => val_addW rfl rfl rfl) ?_ | (refine at_EL ?_; first | refine eN ?_ | refine eV rfl rfl (zB rfl rfl) ?_ | refine eV rfl rfl (zH rfl rfl) ?_) | (refine at_K ?_; first | refine K_then ?_ | refine K_then_ret ?_ | refine K_in_ret ?_) | (refine at_E ?_; first | refine E_seq ?_ | refine E_region ?_ | refine E_cond_t rfl ?_ | refine E_cond_f rfl ?_ | refine E_block ?_ | refine E_ret ?_ | refine E_dq mixedOk (by kernel_rfl) rfl ?_) | (refine at_RQ ?_; first | refine yN rfl (fun wq xq => ?_) | refine yV rfl rfl (fun _ _ _ => zB rfl rfl) ?_ | refine yV rfl rfl (fun _ _ _ => zH rfl rfl) ?_)))
      exact ret_1 rfl rfl ⟨by rw [bnd_2], hX.trans xq⟩
    · (repeat' (first | refine eV (v := .bool false) rfl rfl (eql_is rfl rfl rfl rfl) ?_ | refine eV rfl rfl (val_load rfl rfl rfl (rQ.cellAt (j := 0) rfl)) ?_ | refine yV rfl rfl (fun wq _ xq => val_loadA (cs := [.slice sa xs.length sc]) rfl rfl rfl (rX.ext xq).at rfl) ?_ | refine yV rfl rfl (fun wq _ xq => val_load rfl rfl rfl ((rQ.ext xq).cellAt (j := 3) rfl)) ?_ | refine yV rfl rfl (fun _ _ _ => val_indexAddr (m := 0) rfl rfl rfl rfl (two_lt _ _).1) ?_ | refine yV rfl rfl (fun wq _ xq => val_loadA rfl rfl rfl (hat0.ext xq) rfl) ?_ | refine RQ_call rfl rfl (fun _ _ _ => entersF rfl rfl en45) (fun wq xq => c0 wq xq) ?_ | (refine at_EL ?_; first | refine eN ?_ | refine eV rfl rfl (zB rfl rfl) ?_ | refine eV rfl rfl (zH rfl rfl) ?_) | (refine at_K ?_; first | refine K_then ?_ | refine K_in ?_) | (refine at_E ?_; first | refine E_seq ?_ | refine E_region ?_ | refine E_cond_f rfl ?_ | refine E_block ?_ | refine E_skip ?_ | refine E_ret ?_ | refine E_dq mixedOk (by kernel_rfl) rfl ?_) | (refine at_RQ ?_; first | refine yN rfl (fun wq xq => ?_) | refine yV rfl rfl (fun _ _ _ => zB rfl rfl) ?_ | refine yV rfl rfl (fun _ _ _ => zH rfl rfl) ?_)))
      exact ret_1 rfl rfl ⟨by rw [bnd_4 xs r t a b (.inl rfl)], hX.trans xq⟩
    · (repeat' (first | refine eV (v := .bool false) rfl rfl (eql_is rfl rfl rfl rfl) ?_ | refine eV rfl rfl (val_load rfl rfl rfl (rQ.cellAt (j := 0) rfl)) ?_ | refine yV rfl rfl (fun wq _ xq => val_loadA (cs := [.slice sa xs.length sc]) rfl rfl rfl (rX.ext xq).at rfl) ?_ | refine yV rfl rfl (fun wq _ xq => val_load rfl rfl rfl ((rQ.ext xq).cellAt (j := 3) rfl)) ?_ | refine yV rfl rfl (fun _ _ _ => val_indexAddr (m := 0) rfl rfl rfl rfl (two_lt _ _).1) ?_ | refine yV rfl rfl (fun wq _ xq => val_loadA rfl rfl rfl (hat0.ext xq) rfl) ?_ | refine RQ_call rfl rfl (fun _ _ _ => entersF rfl rfl en45) (fun wq xq => c0 wq xq) ?_ | (refine at_EL ?_; first | refine eN ?_ | refine eV rfl rfl (zB rfl rfl) ?_ | refine eV rfl rfl (zH rfl rfl) ?_) | (refine at_K ?_; first | refine K_then ?_ | refine K_in ?_) | (refine at_E ?_; first | refine E_seq ?_ | refine E_region ?_ | refine E_cond_f rfl ?_ | refine E_block ?_ | refine E_skip ?_ | refine E_ret ?_ | refine E_dq mixedOk (by kernel_rfl) rfl ?_) | (refine at_RQ ?_; first | refine yN rfl (fun wq xq => ?_) | refine yV rfl rfl (fun _ _ _ => zB rfl rfl) ?_ | refine yV rfl rfl (fun _ _ _ => zH rfl rfl) ?_)))
      exact ret_1 rfl rfl ⟨by rw [bnd_4 xs r t a b (.inr (.inl rfl))], hX.trans xq⟩
    · (repeat' (first | refine eV (v := .bool false) rfl rfl (eql_is rfl rfl rfl rfl) ?_ | refine eV rfl rfl (val_load rfl rfl rfl (rQ.cellAt (j := 0) rfl)) ?_ | refine yV rfl rfl (fun wq _ xq => val_loadA (cs := [.slice sa xs.length sc]) rfl rfl rfl (rX.ext xq).at rfl) ?_ | refine yV rfl rfl (fun wq _ xq => val_load rfl rfl rfl ((rQ.ext xq).cellAt (j := 3) rfl)) ?_ | refine yV rfl rfl (fun _ _ _ => val_indexAddr (m := 0) rfl rfl rfl rfl (two_lt _ _).1) ?_ | refine yV rfl rfl (fun wq _ xq => val_loadA rfl rfl rfl (hat0.ext xq) rfl) ?_ | refine RQ_call rfl rfl (fun _ _ _ => entersF rfl rfl en45) (fun wq xq => c0 wq xq) ?_ | (refine at_EL ?_; first | refine eN ?_ | refine eV rfl rfl (zB rfl rfl) ?_ | refine eV rfl rfl (zH rfl rfl) ?_) | (refine at_K ?_; first | refine K_then ?_ | refine K_in ?_) | (refine at_E ?_; first | refine E_seq ?_ | refine E_region ?_ | refine E_cond_f rfl ?_ | refine E_block ?_ | refine E_skip ?_ | refine E_ret ?_ | refine E_dq mixedOk (by kernel_rfl) rfl ?_) | (refine at_RQ ?_; first | refine yN rfl (fun wq xq => ?_) | refine yV rfl rfl (fun _ _ _ => zB rfl rfl) ?_ | refine yV rfl rfl (fun _ _ _ => zH rfl rfl) ?_)))
      exact ret_1 rfl rfl ⟨by rw [bnd_4 xs r t a b (.inr (.inr rfl))], hX.trans xq⟩
theorem bound45_any {xs : List Ix.Post} (hf : Fits xs) (q : Qy) (hok : okQ q) (s qv : Value) (w : World) (hs : Sl w s xs) (hq : QAt w qv q) (hT : Tabs w) : Calls Tryz.prog 45 #[.agg #[s], qv] w (Rt fun u w' => u = int (bndF xs q) ∧ Ext w w') := bound45_sz hf _ q (Nat.lt_succ_self _) hok s qv w hs hq hT
set_option maxHeartbeats 8000000 in
set_option maxRecDepth 8000 in
theorem bound46_sz {xs : List Ix.Post} (hf : Fits xs) : ∀ (z : Nat) (q : Qy), SizeOf.sizeOf q < z → okQ q → ∀ (s qv : Value) (w : World), Sl w s xs → QAt w qv q → Tabs w → Calls Tryz.prog 46 #[.agg #[s], qv] w (Rt fun u w' => u = int (bndF xs q) ∧ Ext w w') := by
  intro z
  induction z with
  | zero => intro q hq; omega
  | succ z ih =>
  intro q hqz hok s qv w hsv hqv hT
  have hsv0 := hsv
  obtain ⟨sa, sc, rfl, _, _, _⟩ := hsv.sl
  rcases ok_shape hok with ⟨r, t, ks, rfl⟩ | ⟨r, t, a, rfl, ha⟩ | ⟨op, r, t, a, b, rfl, ha, hb, hop⟩
  · obtain ⟨kv, rfl, hkv⟩ := hqv
    change Sl w kv ks at hkv
    have hkv0 := hkv
    obtain ⟨qa, qc, rfl, _, _, hqp⟩ := hkv.sl
    show Calls Tryz.prog 46 #[.agg #[.slice sa xs.length sc], .agg #[int 0, int r, str t, .slice qa ks.length qc] ] w _
    refine calls_E (n := 58) (args := [.agg #[.slice sa xs.length sc], .agg #[int 0, int r, str t, .slice qa ks.length qc] ]) Tryz.func46 rfl Tryz.ntmps46 (by simp) ?_
    refine E_seq ?_
    refine E_region ?_
    refine EL_box rfl rfl rfl rfl (fun bX wX xX hbX rX0 => ?_)
    have rX1 : Row wX bX 49 [.slice sa xs.length sc] := rX0
    refine EL_box rfl rfl rfl rfl (fun bQ wQ xQ hbQ rQ0 => ?_)
    have rQ : Row wQ bQ 36 [int 0, int r, str t, .slice qa ks.length qc] := rQ0
    have rX := rX1.ext xQ
    have hX := xX.trans xQ
    clear rX0 rX1 rQ0
    have ct := rtext41_any xs _ r t wQ hf (hsv0.ext hX) 
    (repeat' (first | refine eV (v := .bool true) rfl rfl (eql_is rfl rfl rfl rfl) ?_ | refine eV rfl rfl (val_load rfl rfl rfl (rQ.cellAt (j := 0) rfl)) ?_ | refine eV rfl rfl (val_load rfl rfl rfl (rQ.cellAt (j := 1) rfl)) ?_ | refine eV rfl rfl (val_load rfl rfl rfl (rQ.cellAt (j := 2) rfl)) ?_ | refine eV rfl rfl (val_loadA (cs := [.slice sa xs.length sc]) rfl rfl rfl rX.at rfl) ?_ | (refine EL_call rfl rfl (entersF rfl rfl en41) ct (fun vC wC hC => ?_); obtain ⟨xC, sC⟩ := hC; obtain ⟨ca, cc, rfl, _, _, _⟩ := sC.sl) | (refine at_EL ?_; first | refine eN ?_ | refine eV rfl rfl (zB rfl rfl) ?_ | (refine at_call ?_; first | refine eV rfl rfl (zK rfl rfl) ?_) | refine eV rfl rfl (zH rfl rfl) ?_) | (refine at_K ?_; first | refine K_then ?_ | refine K_then_ret ?_ | refine K_in_ret ?_) | (refine at_E ?_; first | refine E_seq ?_ | refine E_region ?_ | refine E_cond_t rfl ?_ | refine E_block ?_ | refine E_ret ?_)))
    exact ret_1 rfl rfl ⟨by rw [bnd_0], hX.trans xC⟩
  · obtain ⟨kv, rfl, hkv⟩ := hqv
    change Sl w kv [a] at hkv
    have hkv0 := hkv
    obtain ⟨qa, qc, rfl, _, _, hqp⟩ := hkv.sl
    show Calls Tryz.prog 46 #[.agg #[.slice sa xs.length sc], .agg #[int 3, int r, str t, .slice qa [a].length qc] ] w _
    refine calls_E (n := 58) (args := [.agg #[.slice sa xs.length sc], .agg #[int 3, int r, str t, .slice qa [a].length qc] ]) Tryz.func46 rfl Tryz.ntmps46 (by simp) ?_
    refine E_seq ?_
    refine E_region ?_
    refine EL_box rfl rfl rfl rfl (fun bX wX xX hbX rX0 => ?_)
    have rX1 : Row wX bX 49 [.slice sa xs.length sc] := rX0
    refine EL_box rfl rfl rfl rfl (fun bQ wQ xQ hbQ rQ0 => ?_)
    have rQ : Row wQ bQ 36 [int 3, int r, str t, .slice qa [a].length qc] := rQ0
    have rX := rX1.ext xQ
    have hX := xX.trans xQ
    clear rX0 rX1 rQ0
    have cc := rcount43_any xs _ r wQ hf (hsv0.ext hX)
    (repeat' (first | refine eV (v := .bool true) rfl rfl (eql_is rfl rfl rfl rfl) ?_ | refine eV (v := .bool false) rfl rfl (eql_is rfl rfl rfl rfl) ?_ | refine eV rfl rfl (val_load rfl rfl rfl (rQ.cellAt (j := 0) rfl)) ?_ | refine eV rfl rfl (val_load rfl rfl rfl (rQ.cellAt (j := 1) rfl)) ?_ | refine eV rfl rfl (val_loadA (cs := [.slice sa xs.length sc]) rfl rfl rfl rX.at rfl) ?_ | (refine EL_call rfl rfl (entersF rfl rfl en43) cc (fun vC wC hC => ?_); obtain ⟨rfl, xC⟩ := hC) | (refine at_EL ?_; first | refine eN ?_ | refine eV rfl rfl (zB rfl rfl) ?_ | refine eV rfl rfl (zH rfl rfl) ?_) | (refine at_K ?_; first | refine K_then ?_ | refine K_then_ret ?_ | refine K_in_ret ?_) | (refine at_E ?_; first | refine E_seq ?_ | refine E_region ?_ | refine E_cond_t rfl ?_ | refine E_cond_f rfl ?_ | refine E_block ?_ | refine E_ret ?_)))
    exact ret_1 rfl rfl ⟨by rw [bnd_3], hX.trans xC⟩
  · have za : SizeOf.sizeOf a < z := by simp only [Qy.mk.sizeOf_spec, List.cons.sizeOf_spec] at hqz; omega
    have zb : SizeOf.sizeOf b < z := by simp only [Qy.mk.sizeOf_spec, List.cons.sizeOf_spec] at hqz; omega
    obtain ⟨kv, rfl, hkv⟩ := hqv
    change Sl w kv [a, b] at hkv
    have hkv0 := hkv
    obtain ⟨qa, qc, rfl, _, _, hqp⟩ := hkv.sl
    show Calls Tryz.prog 46 #[.agg #[.slice sa xs.length sc], .agg #[int op, int r, str t, .slice qa [a, b].length qc] ] w _
    refine calls_E (n := 58) (args := [.agg #[.slice sa xs.length sc], .agg #[int op, int r, str t, .slice qa [a, b].length qc] ]) Tryz.func46 rfl Tryz.ntmps46 (by simp) ?_
    refine E_seq ?_
    refine E_region ?_
    refine EL_box rfl rfl rfl rfl (fun bX wX xX hbX rX0 => ?_)
    have rX1 : Row wX bX 49 [.slice sa xs.length sc] := rX0
    refine EL_box rfl rfl rfl rfl (fun bQ wQ xQ hbQ rQ0 => ?_)
    have rQ : Row wQ bQ 36 [int op, int r, str t, .slice qa [a, b].length qc] := rQ0
    have rX := rX1.ext xQ
    have hX := xX.trans xQ
    clear rX0 rX1 rQ0
    obtain ⟨qb, qo, rfl⟩ := hqp (two_lt a b).1
    obtain ⟨k0, hat0, hk0⟩ := kid_at (i := 0) (k := a) (hkv0.ext hX) rfl
    obtain ⟨k1, hat1, hk1⟩ := kid_at (i := 1) (k := b) (hkv0.ext hX) rfl
    have c0 : ∀ wq, Ext wQ wq → Calls Tryz.prog 46 #[.agg #[.slice sa xs.length sc], .agg #[int a.op, int a.role, str a.text, k0] ] wq (Rt fun u w' => u = int (bndF xs a) ∧ Ext wq w') := fun wq xq => ih a za ha _ _ wq (hsv0.ext (hX.trans xq)) ⟨k0, rfl, hk0.ext xq⟩ (Tabs.ext hT (hX.trans xq))
    have c1 : ∀ wq, Ext wQ wq → Calls Tryz.prog 46 #[.agg #[.slice sa xs.length sc], .agg #[int b.op, int b.role, str b.text, k1] ] wq (Rt fun u w' => u = int (bndF xs b) ∧ Ext wq w') := fun wq xq => ih b zb hb _ _ wq (hsv0.ext (hX.trans xq)) ⟨k1, rfl, hk1.ext xq⟩ (Tabs.ext hT (hX.trans xq))
    rcases hop with rfl | rfl | rfl | rfl | rfl
    · (repeat' (first | refine eV (v := .bool true) rfl rfl (eql_is rfl rfl rfl rfl) ?_ | refine eV (v := .bool false) rfl rfl (eql_is rfl rfl rfl rfl) ?_ | refine eV rfl rfl (val_load rfl rfl rfl (rQ.cellAt (j := 0) rfl)) ?_ | refine yV rfl rfl (fun wq _ xq => val_loadA (cs := [.slice sa xs.length sc]) rfl rfl rfl (rX.ext xq).at rfl) ?_ | refine yV rfl rfl (fun wq _ xq => val_load rfl rfl rfl ((rQ.ext xq).cellAt (j := 3) rfl)) ?_ | refine yV rfl rfl (fun _ _ _ => val_indexAddr (m := 0) rfl rfl rfl rfl (two_lt _ _).1) ?_ | refine yV rfl rfl (fun _ _ _ => val_indexAddr (m := 1) rfl rfl rfl rfl (two_lt _ _).2) ?_ | refine yV rfl rfl (fun wq _ xq => val_loadA rfl rfl rfl (hat0.ext xq) rfl) ?_ | refine yV rfl rfl (fun wq _ xq => val_loadA rfl rfl rfl (hat1.ext xq) rfl) ?_ | refine RQ_call rfl rfl (fun _ _ _ => entersF rfl rfl en46) (fun wq xq => c0 wq xq) ?_ | refine RQ_call rfl rfl (fun _ _ _ => entersF rfl rfl en46) (fun wq xq => c1 wq xq) ?_ | refine yV rfl rfl (fun _ _ _ => val_min rfl rfl rfl) ?_ | (refine at_EL ?_; first | refine eN ?_ | refine eV rfl rfl (zB rfl rfl) ?_ | refine eV rfl rfl (zH rfl rfl) ?_) | (refine at_K ?_; first | refine K_then ?_ | refine K_then_ret ?_ | refine K_in_ret ?_) | (refine at_E ?_; first | refine E_seq ?_ | refine E_region ?_ | refine E_cond_t rfl ?_ | refine E_cond_f rfl ?_ | refine E_block ?_ | refine E_ret ?_ | refine E_dq mixedOk (by kernel_rfl) rfl ?_) | (refine at_RQ ?_; first | refine yN rfl (fun wq xq => ?_) | refine yV rfl rfl (fun _ _ _ => zB rfl rfl) ?_ | refine yV rfl rfl (fun _ _ _ => zH rfl rfl) ?_)))
      exact ret_1 rfl rfl ⟨by rw [bnd_1], hX.trans xq⟩
    · (repeat' (first | refine eV (v := .bool true) rfl rfl (eql_is rfl rfl rfl rfl) ?_ | refine eV (v := .bool false) rfl rfl (eql_is rfl rfl rfl rfl) ?_ | refine eV rfl rfl (val_load rfl rfl rfl (rQ.cellAt (j := 0) rfl)) ?_ | refine yV rfl rfl (fun wq _ xq => val_loadA (cs := [.slice sa xs.length sc]) rfl rfl rfl (rX.ext xq).at rfl) ?_ | refine yV rfl rfl (fun wq _ xq => val_load rfl rfl rfl ((rQ.ext xq).cellAt (j := 3) rfl)) ?_ | refine yV rfl rfl (fun _ _ _ => val_indexAddr (m := 0) rfl rfl rfl rfl (two_lt _ _).1) ?_ | refine yV rfl rfl (fun _ _ _ => val_indexAddr (m := 1) rfl rfl rfl rfl (two_lt _ _).2) ?_ | refine yV rfl rfl (fun wq _ xq => val_loadA rfl rfl rfl (hat0.ext xq) rfl) ?_ | refine yV rfl rfl (fun wq _ xq => val_loadA rfl rfl rfl (hat1.ext xq) rfl) ?_ | refine RQ_call rfl rfl (fun _ _ _ => entersF rfl rfl en46) (fun wq xq => c0 wq xq) ?_ | refine RQ_call rfl rfl (fun _ _ _ => entersF rfl rfl en46) (fun wq xq => c1 wq xq) ?_ | refine yV rfl rfl (fun _ _ _ => val_addW rfl rfl rfl) ?_ | (refine at_EL ?_; first | refine eN ?_ | refine eV rfl rfl (zB rfl rfl) ?_ | refine eV rfl rfl (zH rfl rfl) ?_) | (refine at_K ?_; first | refine K_then ?_ | refine K_then_ret ?_ | refine K_in_ret ?_) | (refine at_E ?_; first | refine E_seq ?_ | refine E_region ?_ | refine E_cond_t rfl ?_ | refine E_cond_f rfl ?_ | refine E_block ?_ | refine E_ret ?_ | refine E_dq mixedOk (by kernel_rfl) rfl ?_) | (refine at_RQ ?_; first | refine yN rfl (fun wq xq => ?_) | refine yV rfl rfl (fun _ _ _ => zB rfl rfl) ?_ | refine yV rfl rfl (fun _ _ _ => zH rfl rfl) ?_)))
      exact ret_1 rfl rfl ⟨by rw [bnd_2], hX.trans xq⟩
    · (repeat' (first | refine eV (v := .bool false) rfl rfl (eql_is rfl rfl rfl rfl) ?_ | refine eV rfl rfl (val_load rfl rfl rfl (rQ.cellAt (j := 0) rfl)) ?_ | refine yV rfl rfl (fun wq _ xq => val_loadA (cs := [.slice sa xs.length sc]) rfl rfl rfl (rX.ext xq).at rfl) ?_ | refine yV rfl rfl (fun wq _ xq => val_load rfl rfl rfl ((rQ.ext xq).cellAt (j := 3) rfl)) ?_ | refine yV rfl rfl (fun _ _ _ => val_indexAddr (m := 0) rfl rfl rfl rfl (two_lt _ _).1) ?_ | refine yV rfl rfl (fun wq _ xq => val_loadA rfl rfl rfl (hat0.ext xq) rfl) ?_ | refine RQ_call rfl rfl (fun _ _ _ => entersF rfl rfl en46) (fun wq xq => c0 wq xq) ?_ | (refine at_EL ?_; first | refine eN ?_ | refine eV rfl rfl (zB rfl rfl) ?_ | refine eV rfl rfl (zH rfl rfl) ?_) | (refine at_K ?_; first | refine K_then ?_ | refine K_in ?_) | (refine at_E ?_; first | refine E_seq ?_ | refine E_region ?_ | refine E_cond_f rfl ?_ | refine E_block ?_ | refine E_skip ?_ | refine E_ret ?_ | refine E_dq mixedOk (by kernel_rfl) rfl ?_) | (refine at_RQ ?_; first | refine yN rfl (fun wq xq => ?_) | refine yV rfl rfl (fun _ _ _ => zB rfl rfl) ?_ | refine yV rfl rfl (fun _ _ _ => zH rfl rfl) ?_)))
      exact ret_1 rfl rfl ⟨by rw [bnd_4 xs r t a b (.inl rfl)], hX.trans xq⟩
    · (repeat' (first | refine eV (v := .bool false) rfl rfl (eql_is rfl rfl rfl rfl) ?_ | refine eV rfl rfl (val_load rfl rfl rfl (rQ.cellAt (j := 0) rfl)) ?_ | refine yV rfl rfl (fun wq _ xq => val_loadA (cs := [.slice sa xs.length sc]) rfl rfl rfl (rX.ext xq).at rfl) ?_ | refine yV rfl rfl (fun wq _ xq => val_load rfl rfl rfl ((rQ.ext xq).cellAt (j := 3) rfl)) ?_ | refine yV rfl rfl (fun _ _ _ => val_indexAddr (m := 0) rfl rfl rfl rfl (two_lt _ _).1) ?_ | refine yV rfl rfl (fun wq _ xq => val_loadA rfl rfl rfl (hat0.ext xq) rfl) ?_ | refine RQ_call rfl rfl (fun _ _ _ => entersF rfl rfl en46) (fun wq xq => c0 wq xq) ?_ | (refine at_EL ?_; first | refine eN ?_ | refine eV rfl rfl (zB rfl rfl) ?_ | refine eV rfl rfl (zH rfl rfl) ?_) | (refine at_K ?_; first | refine K_then ?_ | refine K_in ?_) | (refine at_E ?_; first | refine E_seq ?_ | refine E_region ?_ | refine E_cond_f rfl ?_ | refine E_block ?_ | refine E_skip ?_ | refine E_ret ?_ | refine E_dq mixedOk (by kernel_rfl) rfl ?_) | (refine at_RQ ?_; first | refine yN rfl (fun wq xq => ?_) | refine yV rfl rfl (fun _ _ _ => zB rfl rfl) ?_ | refine yV rfl rfl (fun _ _ _ => zH rfl rfl) ?_)))
      exact ret_1 rfl rfl ⟨by rw [bnd_4 xs r t a b (.inr (.inl rfl))], hX.trans xq⟩
    · (repeat' (first | refine eV (v := .bool false) rfl rfl (eql_is rfl rfl rfl rfl) ?_ | refine eV rfl rfl (val_load rfl rfl rfl (rQ.cellAt (j := 0) rfl)) ?_ | refine yV rfl rfl (fun wq _ xq => val_loadA (cs := [.slice sa xs.length sc]) rfl rfl rfl (rX.ext xq).at rfl) ?_ | refine yV rfl rfl (fun wq _ xq => val_load rfl rfl rfl ((rQ.ext xq).cellAt (j := 3) rfl)) ?_ | refine yV rfl rfl (fun _ _ _ => val_indexAddr (m := 0) rfl rfl rfl rfl (two_lt _ _).1) ?_ | refine yV rfl rfl (fun wq _ xq => val_loadA rfl rfl rfl (hat0.ext xq) rfl) ?_ | refine RQ_call rfl rfl (fun _ _ _ => entersF rfl rfl en46) (fun wq xq => c0 wq xq) ?_ | (refine at_EL ?_; first | refine eN ?_ | refine eV rfl rfl (zB rfl rfl) ?_ | refine eV rfl rfl (zH rfl rfl) ?_) | (refine at_K ?_; first | refine K_then ?_ | refine K_in ?_) | (refine at_E ?_; first | refine E_seq ?_ | refine E_region ?_ | refine E_cond_f rfl ?_ | refine E_block ?_ | refine E_skip ?_ | refine E_ret ?_ | refine E_dq mixedOk (by kernel_rfl) rfl ?_) | (refine at_RQ ?_; first | refine yN rfl (fun wq xq => ?_) | refine yV rfl rfl (fun _ _ _ => zB rfl rfl) ?_ | refine yV rfl rfl (fun _ _ _ => zH rfl rfl) ?_)))
      exact ret_1 rfl rfl ⟨by rw [bnd_4 xs r t a b (.inr (.inr rfl))], hX.trans xq⟩
theorem bound46_any {xs : List Ix.Post} (hf : Fits xs) (q : Qy) (hok : okQ q) (s qv : Value) (w : World) (hs : Sl w s xs) (hq : QAt w qv q) (hT : Tabs w) : Calls Tryz.prog 46 #[.agg #[s], qv] w (Rt fun u w' => u = int (bndF xs q) ∧ Ext w w') := bound46_sz hf _ q (Nat.lt_succ_self _) hok s qv w hs hq hT
end Go.Proofs.YtnifmbbpfdghmaaGreatDoor
