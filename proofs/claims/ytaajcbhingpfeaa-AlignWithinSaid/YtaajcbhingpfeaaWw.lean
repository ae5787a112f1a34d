/-
  Walks of align: the law's example and awake.
-/
import Derived.Test.YtaajcbhingpfeaaWv
import Derived.Test.YtaajcbhingpfeaaY4
set_option linter.all false
namespace Go.Proofs.Ytaajcbhingpfeaa
open Go.RowKit Go.En
theorem ex_words : wordsF exD 1 1 = [⟨[98, 97]⟩, ⟨[109, 105]⟩] := by kernel_rfl
attribute [local irreducible] E EL K Val Enters Rt Calls bodyPost Code.wp RQ
set_option maxRecDepth 8000 in
theorem standard_any (w : World) : Calls Try.prog 52 #[] w (Rt fun u w' => Ext w w' ∧ SlG (fun b => w.heap.size ≤ b) w' u exT) := by
  refine calls_E (n := 7) (args := []) Try.func52 rfl Try.ntmps52 (by simp) ?_
  (repeat' (first | refine eV rfl rfl (val_build (vs := [(0, str [116, 101, 120, 116]), (1, int 0), (2, int 1), (3, int (-1))]) (tierC ⟨[116, 101, 120, 116], 0, 1, -1⟩) rfl rfl rfl) ?_ | refine eV rfl rfl (val_build (vs := [(0, str [119, 111, 114, 100]), (1, int 2), (2, int 2), (3, int 0)]) (tierC ⟨[119, 111, 114, 100], 2, 2, 0⟩) rfl rfl rfl) ?_ | refine eV rfl rfl (val_build (vs := [(0, str [109, 111, 114, 112, 104]), (1, int 3), (2, int 3), (3, int 1)]) (tierC ⟨[109, 111, 114, 112, 104], 3, 3, 1⟩) rfl rfl rfl) ?_ | refine eV rfl rfl (val_build (vs := [(0, str [103, 108, 111, 115, 115]), (1, int 4), (2, int 4), (3, int 2)]) (tierC ⟨[103, 108, 111, 115, 115], 4, 4, 2⟩) rfl rfl rfl) ?_ | refine eV rfl rfl (val_build (vs := [(0, str [102, 114, 101, 101]), (1, int 4), (2, int 5), (3, int 0)]) (tierC ⟨[102, 114, 101, 101], 4, 5, 0⟩) rfl rfl rfl) ?_ | (refine at_EL ?_; first | refine eN ?_ | refine eV rfl rfl (zB rfl rfl) ?_ | refine eL rfl rfl rfl rfl rfl rfl rfl rfl (fun bS wS xS hbS rS => ?_)) | (refine at_K ?_; first | refine K_then ?_) | (refine at_E ?_; first | refine E_seq ?_ | refine E_region ?_ | refine E_ret ?_)))
  exact ret_1 rfl rfl ⟨xS, row_SlG (css := exT.map tierC) rS (tiers_ats _ _) (by omega) (Nat.le_refl _) (by decide)⟩
set_option maxRecDepth 8000 in
theorem example_any (w : World) : Calls Try.prog 36 #[] w (Rt fun u w' => Ext w w' ∧ DcAt w' u exD) := by
  refine calls_E (n := 13) (args := []) Try.func36 rfl Try.ntmps36 (by simp) ?_
  refine E_seq ?_
  refine E_region ?_
  refine EL_alloc rfl rfl rfl (fun bA wA xA hbA rA => ?_)
  have c := standard_any wA
  (repeat' (first | (refine EL_call rfl rfl (entersF rfl rfl en52) c (fun vC wC hC => ?_); obtain ⟨xC, sC⟩ := hC) | refine eV rfl rfl (val_build (vs := [(0, int 1), (2, int 1000)]) [int 1, str [], int 1000, int 0, .slice none 0 0] rfl rfl rfl) ?_ | refine eV rfl rfl (val_build (vs := [(0, int 0), (1, int 900)]) [int 0, int 900] rfl rfl rfl) ?_ | refine eV rfl rfl (val_build (vs := [(0, int 400), (1, int 900)]) [int 400, int 900] rfl rfl rfl) ?_ | refine eV rfl rfl (val_build (vs := [(0, int 0), (1, int 300)]) [int 0, int 300] rfl rfl rfl) ?_ | refine eV rfl rfl (val_build (vs := [(0, int 1), (1, int 0), (3, .agg #[int 0, int 900]), (5, str [98, 97, 32, 109, 105])]) (noteC ⟨1, 0, 0, 0, 900, 0, [98, 97, 32, 109, 105]⟩) rfl rfl rfl) ?_ | refine eV rfl rfl (val_build (vs := [(0, int 2), (1, int 1), (2, int 1), (3, .agg #[int 400, int 900]), (5, str [109, 105])]) (noteC ⟨2, 1, 1, 400, 900, 0, [109, 105]⟩) rfl rfl rfl) ?_ | refine eV rfl rfl (val_build (vs := [(0, int 3), (1, int 1), (2, int 1), (3, .agg #[int 0, int 300]), (5, str [98, 97])]) (noteC ⟨3, 1, 1, 0, 300, 0, [98, 97]⟩) rfl rfl rfl) ?_ | refine eV rfl rfl (val_build (vs := [(0, int 4), (1, int 2), (2, int 3), (5, str [98, 97])]) (noteC ⟨4, 2, 3, 0, 0, 0, [98, 97]⟩) rfl rfl rfl) ?_ | refine eV rfl rfl (val_build (vs := [(0, int 5), (1, int 3), (2, int 4), (5, str [100, 111, 103])]) (noteC ⟨5, 3, 4, 0, 0, 0, [100, 111, 103]⟩) rfl rfl rfl) ?_ | (refine at_EL ?_; first | refine eN ?_ | refine eL rfl rfl rfl rfl rfl rfl rfl rfl (fun bS wS xS hbS rS => ?_)) | (refine at_K ?_; first | refine K_then ?_) | (refine at_E ?_; first | refine E_seq ?_ | refine E_region ?_)))
  have sT := sC.ext xS
  obtain ⟨ta, tc, rfl, _, _, _⟩ := sC.sl
  (repeat' (first | refine eV rfl rfl (val_build (vs := [(0, .agg #[int 1, str [], int 1000, int 0, .slice none 0 0]), (1, .slice ta exT.length tc), (2, .slice (some ⟨bS, 0, none⟩) 5 5)]) [int 1, str [], int 1000, int 0, .slice none 0 0, .slice ta exT.length tc, .slice (some ⟨bS, 0, none⟩) 5 5] rfl rfl rfl) ?_))
  refine EL_storeP (cs := [int 1, str [], int 1000, int 0, .slice none 0 0, .slice ta exT.length tc, .slice (some ⟨bS, 0, none⟩) 5 5]) (rA.ext (xC.trans xS)) (xA.trans (xC.trans xS)) (by omega) rfl rfl rfl rfl rfl rfl rfl rfl (Nat.le_refl _) (fun w9 r9 x9 k9 => ?_)
  have hbAC : bA < wA.heap.size := rA.lt
  have r9' : Row w9 bA 28 [int 1, str [], int 1000, int 0, .slice none 0 0, .slice ta exT.length tc, .slice (some ⟨bS, 0, none⟩) 5 5] := r9
  have sT9 : Sl w9 (.slice ta exT.length tc) exT := (sT.move (k9.mv (G := fun b => wA.heap.size ≤ b) (fun b hb e => by cases e; exact absurd hb (by omega)))).any
  have rS9 := k9.row rS (fun e => by cases e; have := xC.size; omega)
  have sN9 : Sl w9 (.slice (some ⟨bS, 0, none⟩) 5 5) exN := row_Sl (xs := exN) (css := exN.map noteC) rS9 (notes_ats _ _) (Nat.le_refl _) (by decide)
  (repeat' (first | (refine at_EL ?_; first | refine eN ?_) | (refine at_K ?_; first | refine K_then ?_) | (refine at_E ?_; first | refine E_ret ?_)))
  exact ret_c rfl rfl rfl r9'.at rfl ⟨x9, .slice none 0 0, _, _, rfl, SlG.nil, sT9, sN9⟩
theorem lit_ints {w : World} {b : Nat} (l : List Int) (hl : l.length ≤ 1000) (h : Row w b 3 (l.map int)) : Sl w (.slice (some ⟨b, 0, none⟩) l.length l.length) l :=
  row_Sl (css := l.map fun z => [int z]) (by rw [ints_flat]; exact h) (ints_ats _ _) (Nat.le_refl _) (by omega)
theorem lit_txts {w : World} {b : Nat} (l : List Txt) (hl : l.length ≤ 1000) (h : Row w b 9 (l.map fun z => str z.l)) : Sl w (.slice (some ⟨b, 0, none⟩) l.length l.length) l :=
  row_Sl (css := l.map fun z => [str z.l]) (by rw [txts_flat]; exact h) (txts_ats _ _) (Nat.le_refl _) (by omega)
set_option maxHeartbeats 8000000 in
set_option maxRecDepth 8000 in
theorem awake_any (w : World) : Calls Try.prog 12 #[] w (Rt fun u w' => u = .bool true ∧ Ext w w') := by
  refine calls_E (n := 78) (args := []) Try.func12 rfl Try.ntmps12 (by simp) ?_
  have ce := example_any w
  (repeat' (first | (refine EL_call rfl rfl (entersF rfl rfl en36) ce (fun vC wC hC => ?_); obtain ⟨xC, dC⟩ := hC) | (refine at_EL ?_; first | refine eN ?_ | refine eV rfl rfl (zB rfl rfl) ?_) | (refine at_K ?_; first | refine K_then ?_) | (refine at_E ?_; first | refine E_seq ?_ | refine E_region ?_)))
  have hD := dC
  obtain ⟨sv, tv, nv, rfl, q1, q2, q3⟩ := dC
  obtain ⟨a1, c1, rfl, _, _, _⟩ := q1.sl
  obtain ⟨a2, c2, rfl, _, _, _⟩ := q2.sl
  obtain ⟨a3, c3, rfl, _, _, _⟩ := q3.sl
  obtain ⟨V, hV⟩ : ∃ V, V = Value.agg #[int exD.rid, str exD.rname, int exD.len, int exD.day, .slice a1 exD.sp.length c1, .slice a2 exD.tiers.length c2, .slice a3 exD.notes.length c3] := ⟨_, rfl⟩
  have cW5 : ∀ wq, DcAt wq V exD → Calls Try.prog 18 #[V, int 5] wq (Rt fun u w' => u = .tuple #[.agg #[int 0, int 300], .bool true] ∧ Ext wq w') := fun wq hq => by
    have := where_any ex_light V 5 wq hq
    unfold whereV at this
    rw [ex_where, ex_where_ok] at this
    exact this
  have cW0 : ∀ wq, DcAt wq V exD → Calls Try.prog 18 #[V, int 0] wq (Rt fun u w' => u = .tuple #[.agg #[int 0, int 0], .bool false] ∧ Ext wq w') := fun wq hq => by
    have := where_any ex_light V 0 wq hq
    unfold whereV at this
    rw [ex_span0, ex_where_no] at this
    exact this
  have cCh : ∀ wq, DcAt wq V exD → Calls Try.prog 14 #[V, int 5] wq (Rt fun u w' => Ext wq w' ∧ Sl w' u ([5, 4, 3, 1] : List Int)) := fun wq hq => by
    have := chain_any ex_light V 5 wq hq
    rw [ex_chain] at this
    exact this
  have cUn : ∀ wq, DcAt wq V exD → Calls Try.prog 16 #[V, int 3] wq (Rt fun u w' => Ext wq w' ∧ Sl w' u ([4, 5] : List Int)) := fun wq hq => by
    have := under_any ex_light V 3 wq hq
    rw [ex_under] at this
    exact this
  have cN3 : ∀ wq, DcAt wq V exD → Calls Try.prog 20 #[V, int 3] wq (Rt fun u w' => u = int 2 ∧ Ext wq w') := fun wq hq => by
    have := next_any ex_light V 3 wq hq
    rw [ex_next3] at this
    exact this
  have cN2 : ∀ wq, DcAt wq V exD → Calls Try.prog 20 #[V, int 2] wq (Rt fun u w' => u = int 0 ∧ Ext wq w') := fun wq hq => by
    have := next_any ex_light V 2 wq hq
    rw [ex_next2] at this
    exact this
  have cA1 : ∀ wq, DcAt wq V exD → Calls Try.prog 24 #[V, int 1, int 400] wq (Rt fun u w' => u = int 2 ∧ Ext wq w') := fun wq hq => by
    have := at_any ex_light V 1 400 wq hq
    rw [ex_at1] at this
    exact this
  have cA2 : ∀ wq, DcAt wq V exD → Calls Try.prog 24 #[V, int 1, int 300] wq (Rt fun u w' => u = int 0 ∧ Ext wq w') := fun wq hq => by
    have := at_any ex_light V 1 300 wq hq
    rw [ex_at2] at this
    exact this
  have cOv : ∀ wq, DcAt wq V exD → Calls Try.prog 22 #[V, int 1, .agg #[int 299, int 401] ] wq (Rt fun u w' => Ext wq w' ∧ Sl w' u ([3, 2] : List Int)) := fun wq hq => by
    have := alover_any ex_light V 1 299 401 wq hq
    rw [ex_over] at this
    exact this
  have cOr : ∀ wq, DcAt wq V exD → Calls Try.prog 29 #[V] wq (Rt fun u w' => Ext wq w' ∧ Sl w' u ([1, 3, 2, 4, 5] : List Int)) := fun wq hq => by
    have := order29_any ex_light V wq hq
    rw [ex_order] at this
    exact this
  have cWo : ∀ wq, DcAt wq V exD → Calls Try.prog 27 #[V, int 1, int 1] wq (Rt fun u w' => Ext wq w' ∧ Sl w' u ([⟨[98, 97]⟩, ⟨[109, 105]⟩] : List Txt)) := fun wq hq => by
    have := words_any ex_light V 1 1 wq hq
    rw [ex_words] at this
    exact this
  have hVa : V = .agg [int exD.rid, str exD.rname, int exD.len, int exD.day, .slice a1 exD.sp.length c1, .slice a2 exD.tiers.length c2, .slice a3 exD.notes.length c3].toArray := hV
  rw [← hV] at hD ⊢
  refine EL_alloc rfl rfl rfl (fun b1 w1 x1 hb1 r1 => ?_)
  refine EL_storeP (cs := [int exD.rid, str exD.rname, int exD.len, int exD.day, .slice a1 exD.sp.length c1, .slice a2 exD.tiers.length c2, .slice a3 exD.notes.length c3]) r1 x1 (by omega) rfl rfl rfl rfl rfl (by rw [hV]; rfl) rfl rfl (Nat.le_refl _) (fun w2 r2 x2 k2 => ?_)
  have rD : Row w2 b1 28 [int exD.rid, str exD.rname, int exD.len, int exD.day, .slice a1 exD.sp.length c1, .slice a2 exD.tiers.length c2, .slice a3 exD.notes.length c3] := r2
  clear r1 r2 k2
  replace hD := hD.ext x2
  have hX := xC.trans x2
  (repeat' (first | refine eV (v := V) rfl rfl (by rw [hVa]; exact val_loadA rfl rfl rfl rD.at rfl) ?_ | (refine EL_call rfl rfl (entersF rfl rfl en18) (cW5 _ hD) (fun vE wE hE => ?_); obtain ⟨rfl, xE⟩ := hE) | (refine at_EL ?_; first | refine eN ?_ | refine eV rfl rfl (zA rfl rfl) ?_ | refine eV rfl rfl (zF rfl rfl rfl) ?_) | (refine at_K ?_; first | refine K_then ?_) | (refine at_E ?_; first | refine E_seq ?_ | refine E_region ?_)))
  refine EL_alloc rfl rfl rfl (fun b2 w3 x3 hb2 r3 => ?_)
  refine EL_storeP (cs := [int 0, int 300]) r3 (xE.trans x3) (by have := xE.size; omega) rfl rfl rfl rfl rfl rfl rfl rfl (Nat.le_refl _) (fun w4 r4 x4 k4 => ?_)
  have rS : Row w4 b2 35 [int 0, int 300] := r4
  clear r3 r4 k4
  replace hD := hD.ext x4
  replace hX := hX.trans x4
  replace rD := rD.ext x4
  (repeat' (first | refine eV (v := V) rfl rfl (by rw [hVa]; exact val_loadA rfl rfl rfl rD.at rfl) ?_ | (refine EL_call rfl rfl (entersF rfl rfl en18) (cW0 _ hD) (fun vE wE hE => ?_); obtain ⟨rfl, xE⟩ := hE) | (refine at_EL ?_; first | refine eN ?_ | refine eV rfl rfl (zA rfl rfl) ?_ | refine eV rfl rfl (zB rfl rfl) ?_ | refine eV rfl rfl (zF rfl rfl rfl) ?_) | (refine at_K ?_; first | refine K_then ?_) | (refine at_E ?_; first | refine E_seq ?_ | refine E_region ?_)))
  refine EL_alloc rfl rfl rfl (fun b3 w3 x3 hb3 r3 => ?_)
  refine EL_storeP (cs := [int 0, int 0]) r3 (xE.trans x3) (by have := xE.size; omega) rfl rfl rfl rfl rfl rfl rfl rfl (Nat.le_refl _) (fun w5 r5 x5 k5 => ?_)
  clear r3 r5 k5
  replace hD := hD.ext x5
  replace hX := hX.trans x5
  replace rD := rD.ext x5
  have rZ := rS.ext x5
  clear rS
  (repeat' (first | refine eV (v := V) rfl rfl (by rw [hVa]; exact val_loadA rfl rfl rfl rD.at rfl) ?_ | refine eV rfl rfl (val_loadA rfl rfl rfl rZ.at rfl) ?_ | refine eV rfl rfl (val_build (vs := [(0, int 0), (1, int 300)]) [int 0, int 300] rfl rfl rfl) ?_ | refine eV (v := .bool false) rfl rfl (val_ne_two_b (a := 0) (b := 300) (c := 0) (d := 300) span_two rfl rfl rfl rfl) ?_ | (refine EL_call rfl rfl (entersF rfl rfl en14) (cCh _ hD) (fun vE wE hE => ?_); obtain ⟨xE, sE⟩ := hE; replace hD := hD.ext xE; replace hX := hX.trans xE; replace rD := rD.ext xE) | (refine EL_call rfl rfl (entersF rfl rfl en13) (r1same_any [5, 4, 3, 1] [5, 4, 3, 1] _ _ _ (sE.ext xS) (lit_ints [5, 4, 3, 1] (by simp) rS)) (fun vG wG hG => ?_); obtain ⟨rfl, xG⟩ := hG; replace hD := hD.ext (xS.trans xG); replace hX := hX.trans (xS.trans xG); replace rD := rD.ext (xS.trans xG)) | (refine EL_call rfl rfl (entersF rfl rfl en16) (cUn _ hD) (fun vE wE hE => ?_); obtain ⟨xE, sE⟩ := hE; replace hD := hD.ext xE; replace hX := hX.trans xE; replace rD := rD.ext xE) | (refine EL_call rfl rfl (entersF rfl rfl en13) (r1same_any [4, 5] [4, 5] _ _ _ (sE.ext xS) (lit_ints [4, 5] (by simp) rS)) (fun vG wG hG => ?_); obtain ⟨rfl, xG⟩ := hG; replace hD := hD.ext (xS.trans xG); replace hX := hX.trans (xS.trans xG); replace rD := rD.ext (xS.trans xG)) | (refine EL_call rfl rfl (entersF rfl rfl en20) (cN3 _ hD) (fun vE wE hE => ?_); obtain ⟨rfl, xE⟩ := hE; replace hD := hD.ext xE; replace hX := hX.trans xE; replace rD := rD.ext xE) | (refine EL_call rfl rfl (entersF rfl rfl en20) (cN2 _ hD) (fun vE wE hE => ?_); obtain ⟨rfl, xE⟩ := hE; replace hD := hD.ext xE; replace hX := hX.trans xE; replace rD := rD.ext xE) | (refine EL_call rfl rfl (entersF rfl rfl en24) (cA1 _ hD) (fun vE wE hE => ?_); obtain ⟨rfl, xE⟩ := hE; replace hD := hD.ext xE; replace hX := hX.trans xE; replace rD := rD.ext xE) | (refine EL_call rfl rfl (entersF rfl rfl en24) (cA2 _ hD) (fun vE wE hE => ?_); obtain ⟨rfl, xE⟩ := hE; replace hD := hD.ext xE; replace hX := hX.trans xE; replace rD := rD.ext xE) | refine eV rfl rfl (val_build (vs := [(0, int 299), (1, int 401)]) [int 299, int 401] rfl rfl rfl) ?_ | (refine EL_call rfl rfl (entersF rfl rfl en22) (cOv _ hD) (fun vE wE hE => ?_); obtain ⟨xE, sE⟩ := hE; replace hD := hD.ext xE; replace hX := hX.trans xE; replace rD := rD.ext xE) | (refine EL_call rfl rfl (entersF rfl rfl en13) (r1same_any [3, 2] [3, 2] _ _ _ (sE.ext xS) (lit_ints [3, 2] (by simp) rS)) (fun vG wG hG => ?_); obtain ⟨rfl, xG⟩ := hG; replace hD := hD.ext (xS.trans xG); replace hX := hX.trans (xS.trans xG); replace rD := rD.ext (xS.trans xG)) | (refine EL_call rfl rfl (entersF rfl rfl en29) (cOr _ hD) (fun vE wE hE => ?_); obtain ⟨xE, sE⟩ := hE; replace hD := hD.ext xE; replace hX := hX.trans xE; replace rD := rD.ext xE) | (refine EL_call rfl rfl (entersF rfl rfl en13) (r1same_any [1, 3, 2, 4, 5] [1, 3, 2, 4, 5] _ _ _ (sE.ext xS) (lit_ints [1, 3, 2, 4, 5] (by simp) rS)) (fun vG wG hG => ?_); obtain ⟨rfl, xG⟩ := hG; replace hD := hD.ext (xS.trans xG); replace hX := hX.trans (xS.trans xG); replace rD := rD.ext (xS.trans xG)) | (refine EL_call rfl rfl (entersF rfl rfl en27) (cWo _ hD) (fun vE wE hE => ?_); obtain ⟨xE, sE⟩ := hE; replace hD := hD.ext xE; replace hX := hX.trans xE; replace rD := rD.ext xE) | (refine EL_call rfl rfl (entersF rfl rfl en26) (equal_any [⟨[98, 97]⟩, ⟨[109, 105]⟩] [⟨[98, 97]⟩, ⟨[109, 105]⟩] _ _ _ (sE.ext xS) (lit_txts [⟨[98, 97]⟩, ⟨[109, 105]⟩] (by simp) rS)) (fun vG wG hG => ?_); obtain ⟨rfl, xG⟩ := hG; replace hD := hD.ext (xS.trans xG); replace hX := hX.trans (xS.trans xG); replace rD := rD.ext (xS.trans xG)) | (refine at_EL ?_; first | refine eN ?_ | refine eO rfl rfl ?_ | refine eV rfl rfl (zA rfl rfl) ?_ | refine eV rfl rfl (zB rfl rfl) ?_ | (refine at_bin ?_; first | refine eD rfl rfl (zM rfl rfl rfl) (fun hh => ?_) (fun hh => ?_)) | refine eV rfl rfl (zC rfl rfl rfl) ?_ | refine eV rfl rfl (zD rfl rfl rfl) ?_ | refine eV rfl rfl (zE rfl rfl) ?_ | refine eL rfl rfl rfl rfl rfl rfl rfl rfl (fun bS wS xS hbS rS => ?_)) | (refine at_K ?_; first | refine K_then ?_) | (refine at_E ?_; first | refine E_seq ?_ | refine E_region ?_ | refine E_cond_f rfl ?_ | refine E_skip ?_ | refine E_ret ?_)))
  all_goals (first | (exfalso; omega) | skip)
  exact ret_1 rfl rfl ⟨by rw [decide_eq_true rfl], hX⟩
end Go.Proofs.Ytaajcbhingpfeaa
