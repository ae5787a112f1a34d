/-
  Walk: the law's awake: the examples of the chapter.
-/
import Derived.Test.YtjpjpgeeeigbkaaDoorWf
import Derived.Test.YtjpjpgeeeigbkaaDoorWg
import Derived.Test.YtjpjpgeeeigbkaaDoorWh
import Derived.Test.YtjpjpgeeeigbkaaDoorWi
set_option linter.all false
namespace Go.Proofs.YtjpjpgeeeigbkaaDoor
open Go.RowKit Go.En
theorem aw1 : putF [] 2 [98, 97] 5 = [⟨2, [98, 97], [5]⟩] := by decide +kernel
theorem aw2 : putF [⟨2, [98, 97], [5]⟩] 2 [98, 97] 3 = [⟨2, [98, 97], [3, 5]⟩] := by decide +kernel
theorem aw3 : putF [⟨2, [98, 97], [3, 5]⟩] 1 [109, 105] 4 = [⟨1, [109, 105], [4]⟩, ⟨2, [98, 97], [3, 5]⟩] := by decide +kernel
theorem aw4 : takeF [⟨1, [109, 105], [4]⟩, ⟨2, [98, 97], [3, 5]⟩] 2 [98, 97] 5 = [⟨1, [109, 105], [4]⟩, ⟨2, [98, 97], [3]⟩] := by decide +kernel
theorem aw5 : checkP [⟨2, [98, 97], [3, 5]⟩] = 0 := by decide +kernel
theorem aw6 : checkP [⟨2, [], []⟩] = 4 := by decide +kernel
theorem aw7 : findF [⟨2, [98, 97], [3, 5]⟩] 2 [98, 97] = [3, 5] := by decide +kernel
theorem aw8 : textsF [⟨2, [98, 97], [3, 5]⟩] 2 [98, 42] = [⟨[98, 97]⟩] := by decide +kernel
theorem aw9 : buildF [⟨[97], 0, 1, -1⟩] [⟨7, 0, 0, 0, 5, 0, [98, 97]⟩] = [⟨1, [98, 97], [7]⟩] := by decide +kernel
theorem aw10 : findF [⟨1, [98, 97], [7]⟩] 1 [98, 97] = [7] := by decide +kernel
theorem cells1 {w : World} {G : Nat → Prop} {s : Value} {xs : List Post} (h : SlG G w s xs) : [s].all Value.oneCell' = true := by obtain ⟨_, _, rfl, _⟩ := h; rfl
attribute [local irreducible] E EL K Val Enters Rt Calls bodyPost Code.wp RQ
set_option maxHeartbeats 4000000 in
theorem awake_any (w : World) (hT : Tabs w) : Calls Tryd.prog 17 #[] w (Rt fun u w' => u = .bool true ∧ Ext w w') := by
  refine calls_E (n := 73) (args := []) Tryd.func17 rfl Tryd.ntmps17 (by simp) ?_
  have hX := Ext.refl w
  (repeat' (first | refine eV rfl rfl (val_build (vs := []) [.slice none 0 0] rfl rfl rfl) ?_ | (refine at_EL ?_; first | refine eN ?_ | refine eV rfl rfl (zB rfl rfl) ?_) | (refine at_K ?_; first | refine K_then ?_) | (refine at_E ?_; first | refine E_seq ?_ | refine E_region ?_)))
  refine EL_call rfl rfl (entersF rfl rfl en30) (put_any (G := Tt) [] (.slice none 0 0) 2 [98, 97] 5 _ SlG.nil (by simp) (by simp)) (fun v7 w7 h7 => ?_)
  obtain ⟨x7, s7, rfl, S7⟩ := h7
  rw [aw1] at S7
  replace hX := hX.trans x7; replace hT := hT.ext x7
  skip
  refine EL_call rfl rfl (entersF rfl rfl en30) (put_any [⟨2, [98, 97], [5]⟩] s7 2 [98, 97] 3 _ S7 (by simp) (by simp)) (fun v8 w8 h8 => ?_)
  obtain ⟨x8, s8, rfl, S8⟩ := h8
  rw [aw2] at S8
  replace hX := hX.trans x8; replace hT := hT.ext x8
  replace S8 := SlG.any S8
  skip
  have hge1 := hX.size
  refine EL_alloc rfl rfl rfl (fun b1 wa xa hba ra => ?_)
  refine EL_storeP (cs := [s8]) ra xa (by omega) rfl rfl rfl rfl rfl rfl rfl (cells1 S8) (Nat.le_refl _) (fun wb R1 xb _ => ?_)
  replace hX := hX.trans xb; replace hT := hT.ext xb; replace S8 := S8.ext xb
  (repeat' (first | refine eV rfl rfl (val_loadA (cs := [s8]) rfl rfl rfl R1.at rfl) ?_ | (refine at_EL ?_; first | refine eN ?_) | (refine at_K ?_; first | refine K_then ?_) | (refine at_E ?_; first | refine E_seq ?_ | refine E_region ?_)))
  refine EL_call rfl rfl (entersF rfl rfl en30) (put_any [⟨2, [98, 97], [3, 5]⟩] s8 1 [109, 105] 4 _ S8 (by simp) (by simp)) (fun v10 w10 h10 => ?_)
  obtain ⟨x10, s10, rfl, S10⟩ := h10
  rw [aw3] at S10
  replace hX := hX.trans x10; replace hT := hT.ext x10; replace S8 := S8.ext x10; replace R1 := R1.ext x10
  skip
  refine EL_call rfl rfl (entersF rfl rfl en32) (take_any [⟨1, [109, 105], [4]⟩, ⟨2, [98, 97], [3, 5]⟩] s10 2 [98, 97] 5 _ S10 (by simp) (by simp)) (fun v11 w11 h11 => ?_)
  obtain ⟨x11, s11, rfl, S11⟩ := h11
  rw [aw4] at S11
  replace hX := hX.trans x11; replace hT := hT.ext x11; replace S8 := S8.ext x11; replace R1 := R1.ext x11
  replace S11 := SlG.any S11
  skip
  have hge2 := hX.size
  refine EL_alloc rfl rfl rfl (fun b2 wa xa hba ra => ?_)
  refine EL_storeP (cs := [s11]) ra xa (by omega) rfl rfl rfl rfl rfl rfl rfl (cells1 S11) (Nat.le_refl _) (fun wb R2 xb _ => ?_)
  replace hX := hX.trans xb; replace hT := hT.ext xb; replace S8 := S8.ext xb; replace R1 := R1.ext xb; replace S11 := S11.ext xb
  refine EL_nil ?_
  refine K_then ?_
  refine E_seq ?_
  refine E_region ?_
  refine eL rfl rfl rfl rfl rfl rfl rfl rfl (fun b12 wl xl hbl R12 => ?_)
  replace hX := hX.trans xl; replace hT := hT.ext xl; replace S8 := S8.ext xl; replace R1 := R1.ext xl; replace S11 := S11.ext xl; replace R2 := R2.ext xl
  refine eV rfl rfl (val_build (vs := [(0, int 2), (1, str [98, 97]), (2, .slice (some ⟨b12, 0, none⟩) 2 2)]) [int 2, str [98, 97], .slice (some ⟨b12, 0, none⟩) 2 2] rfl rfl rfl) ?_
  refine eL rfl rfl rfl rfl rfl rfl rfl rfl (fun b14 wl xl hbl R14 => ?_)
  replace hX := hX.trans xl; replace hT := hT.ext xl; replace S8 := S8.ext xl; replace R1 := R1.ext xl; replace S11 := S11.ext xl; replace R2 := R2.ext xl; replace R12 := R12.ext xl
  refine eV rfl rfl (val_build (vs := [(0, .slice (some ⟨b14, 0, none⟩) 1 1)]) [.slice (some ⟨b14, 0, none⟩) 1 1] rfl rfl rfl) ?_
  have S14 : Sl _ (.slice (some ⟨b14, 0, none⟩) 1 1) ([⟨2, [98, 97], [3, 5]⟩] : List Post) := row_Sl (α := Post) (xs := [⟨2, [98, 97], [3, 5]⟩]) (css := [[int 2, str [98, 97], .slice (some ⟨b12, 0, none⟩) 2 2]]) R14 ⟨⟨_, rfl, row_Sl (α := Int) (xs := [3, 5]) (css := [[int 3], [int 5]]) R12 ⟨rfl, rfl, trivial⟩ (Nat.le_refl _) (by simp)⟩, trivial⟩ (Nat.le_refl _) (by simp)
  skip
  have hge3 := hX.size
  refine EL_alloc rfl rfl rfl (fun b3 wa xa hba ra => ?_)
  refine EL_storeP (cs := [.slice (some ⟨b14, 0, none⟩) 1 1]) ra xa (by omega) rfl rfl rfl rfl rfl rfl rfl rfl (Nat.le_refl _) (fun wb R3 xb _ => ?_)
  replace hX := hX.trans xb; replace hT := hT.ext xb; replace S8 := S8.ext xb; replace R1 := R1.ext xb; replace S11 := S11.ext xb; replace R2 := R2.ext xb; replace S14 := S14.ext xb
  refine EL_nil ?_
  refine K_then ?_
  refine E_seq ?_
  refine E_region ?_
  refine eL rfl rfl rfl rfl rfl rfl rfl rfl (fun b16 wl xl hbl R16 => ?_)
  replace hX := hX.trans xl; replace hT := hT.ext xl; replace S8 := S8.ext xl; replace R1 := R1.ext xl; replace S11 := S11.ext xl; replace R2 := R2.ext xl; replace S14 := S14.ext xl; replace R3 := R3.ext xl
  refine eV rfl rfl (val_build (vs := [(0, int 1), (1, str [109, 105]), (2, .slice (some ⟨b16, 0, none⟩) 1 1)]) [int 1, str [109, 105], .slice (some ⟨b16, 0, none⟩) 1 1] rfl rfl rfl) ?_
  refine eL rfl rfl rfl rfl rfl rfl rfl rfl (fun b18 wl xl hbl R18 => ?_)
  replace hX := hX.trans xl; replace hT := hT.ext xl; replace S8 := S8.ext xl; replace R1 := R1.ext xl; replace S11 := S11.ext xl; replace R2 := R2.ext xl; replace S14 := S14.ext xl; replace R3 := R3.ext xl; replace R16 := R16.ext xl
  refine eV rfl rfl (val_build (vs := [(0, int 2), (1, str [98, 97]), (2, .slice (some ⟨b18, 0, none⟩) 1 1)]) [int 2, str [98, 97], .slice (some ⟨b18, 0, none⟩) 1 1] rfl rfl rfl) ?_
  refine eL rfl rfl rfl rfl rfl rfl rfl rfl (fun b20 wl xl hbl R20 => ?_)
  replace hX := hX.trans xl; replace hT := hT.ext xl; replace S8 := S8.ext xl; replace R1 := R1.ext xl; replace S11 := S11.ext xl; replace R2 := R2.ext xl; replace S14 := S14.ext xl; replace R3 := R3.ext xl; replace R16 := R16.ext xl; replace R18 := R18.ext xl
  refine eV rfl rfl (val_build (vs := [(0, .slice (some ⟨b20, 0, none⟩) 2 2)]) [.slice (some ⟨b20, 0, none⟩) 2 2] rfl rfl rfl) ?_
  have S20 : Sl _ (.slice (some ⟨b20, 0, none⟩) 2 2) ([⟨1, [109, 105], [4]⟩, ⟨2, [98, 97], [3]⟩] : List Post) := row_Sl (α := Post) (xs := [⟨1, [109, 105], [4]⟩, ⟨2, [98, 97], [3]⟩]) (css := [[int 1, str [109, 105], .slice (some ⟨b16, 0, none⟩) 1 1], [int 2, str [98, 97], .slice (some ⟨b18, 0, none⟩) 1 1]]) R20 ⟨⟨_, rfl, row_Sl (α := Int) (xs := [4]) (css := [[int 4]]) R16 ⟨rfl, trivial⟩ (Nat.le_refl _) (by simp)⟩, ⟨_, rfl, row_Sl (α := Int) (xs := [3]) (css := [[int 3]]) R18 ⟨rfl, trivial⟩ (Nat.le_refl _) (by simp)⟩, trivial⟩ (Nat.le_refl _) (by simp)
  skip
  have hge4 := hX.size
  refine EL_alloc rfl rfl rfl (fun b4 wa xa hba ra => ?_)
  refine EL_storeP (cs := [.slice (some ⟨b20, 0, none⟩) 2 2]) ra xa (by omega) rfl rfl rfl rfl rfl rfl rfl rfl (Nat.le_refl _) (fun wb R4 xb _ => ?_)
  replace hX := hX.trans xb; replace hT := hT.ext xb; replace S8 := S8.ext xb; replace R1 := R1.ext xb; replace S11 := S11.ext xb; replace R2 := R2.ext xb; replace S14 := S14.ext xb; replace R3 := R3.ext xb; replace S20 := S20.ext xb
  refine EL_nil ?_
  refine K_then ?_
  refine E_seq ?_
  refine E_region ?_
  refine eV rfl rfl (val_build (vs := [(2, int 9)]) [int 0, str [], int 9, int 0, .slice none 0 0] rfl rfl rfl) ?_
  refine eV rfl rfl (val_build (vs := [(0, str [97]), (2, int 1), (3, int (-1))]) [str [97], int 0, int 1, int (-1)] rfl rfl rfl) ?_
  refine eL rfl rfl rfl rfl rfl rfl rfl rfl (fun b24 wl xl hbl R24 => ?_)
  replace hX := hX.trans xl; replace hT := hT.ext xl; replace S8 := S8.ext xl; replace R1 := R1.ext xl; replace S11 := S11.ext xl; replace R2 := R2.ext xl; replace S14 := S14.ext xl; replace R3 := R3.ext xl; replace S20 := S20.ext xl; replace R4 := R4.ext xl
  refine eV rfl rfl (val_build (vs := [(1, int 5)]) [int 0, int 5] rfl rfl rfl) ?_
  refine eV rfl rfl (val_build (vs := [(0, int 7), (3, .agg #[int 0, int 5]), (5, str [98, 97])]) [int 7, int 0, int 0, int 0, int 5, int 0, str [98, 97]] rfl rfl rfl) ?_
  refine eL rfl rfl rfl rfl rfl rfl rfl rfl (fun b27 wl xl hbl R27 => ?_)
  replace hX := hX.trans xl; replace hT := hT.ext xl; replace S8 := S8.ext xl; replace R1 := R1.ext xl; replace S11 := S11.ext xl; replace R2 := R2.ext xl; replace S14 := S14.ext xl; replace R3 := R3.ext xl; replace S20 := S20.ext xl; replace R4 := R4.ext xl; replace R24 := R24.ext xl
  refine eV rfl rfl (val_build (vs := [(0, .agg #[int 0, str [], int 9, int 0, .slice none 0 0]), (1, .slice (some ⟨b24, 0, none⟩) 1 1), (2, .slice (some ⟨b27, 0, none⟩) 1 1)]) [int 0, str [], int 9, int 0, .slice none 0 0, .slice (some ⟨b24, 0, none⟩) 1 1, .slice (some ⟨b27, 0, none⟩) 1 1] rfl rfl rfl) ?_
  have S24 : Sl _ (.slice (some ⟨b24, 0, none⟩) 1 1) [(⟨[97], 0, 1, -1⟩ : Tier)] := row_Sl (xs := [(⟨[97], 0, 1, -1⟩ : Tier)]) (css := [[str [97], int 0, int 1, int (-1)]]) R24 ⟨rfl, trivial⟩ (Nat.le_refl _) (by simp)
  have S27 : Sl _ (.slice (some ⟨b27, 0, none⟩) 1 1) [(⟨7, 0, 0, 0, 5, 0, [98, 97]⟩ : Note)] := row_Sl (xs := [(⟨7, 0, 0, 0, 5, 0, [98, 97]⟩ : Note)]) (css := [[int 7, int 0, int 0, int 0, int 5, int 0, str [98, 97]]]) R27 ⟨rfl, trivial⟩ (Nat.le_refl _) (by simp)
  skip
  have hge5 := hX.size
  refine EL_alloc rfl rfl rfl (fun b5 wa xa hba ra => ?_)
  refine EL_storeP (cs := [int 0, str [], int 9, int 0, .slice none 0 0, .slice (some ⟨b24, 0, none⟩) 1 1, .slice (some ⟨b27, 0, none⟩) 1 1]) ra xa (by omega) rfl rfl rfl rfl rfl rfl rfl rfl (Nat.le_refl _) (fun wb R5 xb _ => ?_)
  replace hX := hX.trans xb; replace hT := hT.ext xb; replace S8 := S8.ext xb; replace R1 := R1.ext xb; replace S11 := S11.ext xb; replace R2 := R2.ext xb; replace S14 := S14.ext xb; replace R3 := R3.ext xb; replace S20 := S20.ext xb; replace R4 := R4.ext xb; replace S24 := S24.ext xb; replace S27 := S27.ext xb
  (repeat' (first | refine eV rfl rfl (val_loadA (cs := [s8]) rfl rfl rfl R1.at rfl) ?_ | refine eV rfl rfl (val_loadA (cs := [(.slice (some ⟨b14, 0, none⟩) 1 1)]) rfl rfl rfl R3.at rfl) ?_ | (refine at_EL ?_; first | refine eN ?_) | (refine at_K ?_; first | refine K_then ?_) | (refine at_E ?_; first | refine E_seq ?_ | refine E_region ?_)))
  have cC := rsame_any [⟨2, [98, 97], [3, 5]⟩] [⟨2, [98, 97], [3, 5]⟩] s8 (.slice (some ⟨b14, 0, none⟩) 1 1) _ S8 S14
  rw [decide_eq_true rfl] at cC
  refine EL_call rfl rfl (entersF rfl rfl en19) cC (fun vC wC hC => ?_)
  obtain ⟨rfl, xC⟩ := hC
  clear cC
  replace hX := hX.trans xC; replace hT := hT.ext xC; replace S8 := S8.ext xC; replace R1 := R1.ext xC; replace S11 := S11.ext xC; replace R2 := R2.ext xC; replace S14 := S14.ext xC; replace R3 := R3.ext xC; replace S20 := S20.ext xC; replace R4 := R4.ext xC; replace S24 := S24.ext xC; replace S27 := S27.ext xC; replace R5 := R5.ext xC
  (repeat' (first | refine eV rfl rfl (val_loadA (cs := [s11]) rfl rfl rfl R2.at rfl) ?_ | refine eV rfl rfl (val_loadA (cs := [(.slice (some ⟨b20, 0, none⟩) 2 2)]) rfl rfl rfl R4.at rfl) ?_ | (refine at_EL ?_; first | refine eV rfl rfl (zA rfl rfl) ?_)))
  have cC := rsame_any [⟨1, [109, 105], [4]⟩, ⟨2, [98, 97], [3]⟩] [⟨1, [109, 105], [4]⟩, ⟨2, [98, 97], [3]⟩] s11 (.slice (some ⟨b20, 0, none⟩) 2 2) _ S11 S20
  rw [decide_eq_true rfl] at cC
  refine EL_call rfl rfl (entersF rfl rfl en19) cC (fun vC wC hC => ?_)
  obtain ⟨rfl, xC⟩ := hC
  clear cC
  replace hX := hX.trans xC; replace hT := hT.ext xC; replace S8 := S8.ext xC; replace R1 := R1.ext xC; replace S11 := S11.ext xC; replace R2 := R2.ext xC; replace S14 := S14.ext xC; replace R3 := R3.ext xC; replace S20 := S20.ext xC; replace R4 := R4.ext xC; replace S24 := S24.ext xC; replace S27 := S27.ext xC; replace R5 := R5.ext xC
  (repeat' (first | refine eV rfl rfl (val_loadA (cs := [(.slice (some ⟨b14, 0, none⟩) 1 1)]) rfl rfl rfl R3.at rfl) ?_ | (refine at_EL ?_; first | refine eV rfl rfl (zA rfl rfl) ?_ | refine eV rfl rfl (zC rfl rfl rfl) ?_)))
  have cC := pcheck_any [⟨2, [98, 97], [3, 5]⟩] (.slice (some ⟨b14, 0, none⟩) 1 1) _ S14
  rw [aw5] at cC
  refine EL_call rfl rfl (entersF rfl rfl en14) cC (fun vC wC hC => ?_)
  obtain ⟨rfl, xC⟩ := hC
  clear cC
  replace hX := hX.trans xC; replace hT := hT.ext xC; replace S8 := S8.ext xC; replace R1 := R1.ext xC; replace S11 := S11.ext xC; replace R2 := R2.ext xC; replace S14 := S14.ext xC; replace R3 := R3.ext xC; replace S20 := S20.ext xC; replace R4 := R4.ext xC; replace S24 := S24.ext xC; replace S27 := S27.ext xC; replace R5 := R5.ext xC
  (repeat' (first | (refine at_EL ?_; first | refine eN ?_ | refine eO rfl rfl ?_ | refine eV rfl rfl (zA rfl rfl) ?_ | refine eV rfl rfl (zB rfl rfl) ?_ | (refine at_bin ?_; first | refine eD rfl rfl (zM rfl rfl rfl) (fun hh => ?_) (fun hh => ?_)) | refine eV rfl rfl (zC rfl rfl rfl) ?_ | refine eV rfl rfl (zD rfl rfl rfl) ?_) | (refine at_K ?_; first | refine K_then ?_) | (refine at_E ?_; first | refine E_ret ?_)))
  all_goals (first | (exact absurd rfl ‹_›) | skip)
  refine eV rfl rfl (val_build (vs := [(0, int 2)]) [int 2, str [], .slice none 0 0] rfl rfl rfl) ?_
  refine eL rfl rfl rfl rfl rfl rfl rfl rfl (fun b44 wl xl hbl R44 => ?_)
  replace hX := hX.trans xl; replace hT := hT.ext xl; replace S8 := S8.ext xl; replace R1 := R1.ext xl; replace S11 := S11.ext xl; replace R2 := R2.ext xl; replace S14 := S14.ext xl; replace R3 := R3.ext xl; replace S20 := S20.ext xl; replace R4 := R4.ext xl; replace S24 := S24.ext xl; replace S27 := S27.ext xl; replace R5 := R5.ext xl
  refine eV rfl rfl (val_build (vs := [(0, .slice (some ⟨b44, 0, none⟩) 1 1)]) [.slice (some ⟨b44, 0, none⟩) 1 1] rfl rfl rfl) ?_
  have S44 : Sl _ (.slice (some ⟨b44, 0, none⟩) 1 1) ([⟨2, [], []⟩] : List Post) := row_Sl (α := Post) (xs := [⟨2, [], []⟩]) (css := [[int 2, str [], .slice none 0 0]]) R44 ⟨⟨_, rfl, SlG.nil⟩, trivial⟩ (Nat.le_refl _) (by simp)
  have cC := pcheck_any [⟨2, [], []⟩] (.slice (some ⟨b44, 0, none⟩) 1 1) _ S44
  rw [aw6] at cC
  refine EL_call rfl rfl (entersF rfl rfl en14) cC (fun vC wC hC => ?_)
  obtain ⟨rfl, xC⟩ := hC
  clear cC
  replace hX := hX.trans xC; replace hT := hT.ext xC; replace S8 := S8.ext xC; replace R1 := R1.ext xC; replace S11 := S11.ext xC; replace R2 := R2.ext xC; replace S14 := S14.ext xC; replace R3 := R3.ext xC; replace S20 := S20.ext xC; replace R4 := R4.ext xC; replace S24 := S24.ext xC; replace S27 := S27.ext xC; replace R5 := R5.ext xC
  (repeat' (first | refine eV rfl rfl (val_loadA (cs := [s8]) rfl rfl rfl R1.at rfl) ?_ | (refine at_EL ?_; first | refine eN ?_ | refine eO rfl rfl ?_ | refine eV rfl rfl (zA rfl rfl) ?_ | refine eV rfl rfl (zB rfl rfl) ?_ | (refine at_bin ?_; first | refine eD rfl rfl (zM rfl rfl rfl) (fun hh => ?_) (fun hh => ?_)) | refine eV rfl rfl (zC rfl rfl rfl) ?_ | refine eV rfl rfl (zD rfl rfl rfl) ?_) | (refine at_K ?_; first | refine K_then ?_) | (refine at_E ?_; first | refine E_ret ?_)))
  all_goals (first | (exact absurd rfl ‹_›) | skip)
  refine EL_call rfl rfl (entersF rfl rfl en25) (find_any [⟨2, [98, 97], [3, 5]⟩] s8 2 [98, 97] _ S8) (fun u51 wC hC => ?_)
  obtain ⟨xC, S51⟩ := hC
  rw [aw7] at S51
  replace hX := hX.trans xC; replace hT := hT.ext xC; replace S8 := S8.ext xC; replace R1 := R1.ext xC; replace S11 := S11.ext xC; replace R2 := R2.ext xC; replace S14 := S14.ext xC; replace R3 := R3.ext xC; replace S20 := S20.ext xC; replace R4 := R4.ext xC; replace S24 := S24.ext xC; replace S27 := S27.ext xC; replace R5 := R5.ext xC
  refine eL rfl rfl rfl rfl rfl rfl rfl rfl (fun b52 wl xl hbl R52 => ?_)
  replace hX := hX.trans xl; replace hT := hT.ext xl; replace S8 := S8.ext xl; replace R1 := R1.ext xl; replace S11 := S11.ext xl; replace R2 := R2.ext xl; replace S14 := S14.ext xl; replace R3 := R3.ext xl; replace S20 := S20.ext xl; replace R4 := R4.ext xl; replace S24 := S24.ext xl; replace S27 := S27.ext xl; replace R5 := R5.ext xl; replace S51 := S51.ext xl
  have S52 : Sl _ (.slice (some ⟨b52, 0, none⟩) 2 2) [(3 : Int), 5] := row_Sl (xs := [(3 : Int), 5]) (css := [[int 3], [int 5]]) R52 ⟨rfl, rfl, trivial⟩ (Nat.le_refl _) (by simp)
  have cC := r1same_any [3, 5] [3, 5] u51 (.slice (some ⟨b52, 0, none⟩) 2 2) _ S51 S52
  rw [decide_eq_true rfl] at cC
  refine EL_call rfl rfl (entersF rfl rfl en24) cC (fun vC wC hC => ?_)
  obtain ⟨rfl, xC⟩ := hC
  clear cC
  replace hX := hX.trans xC; replace hT := hT.ext xC; replace S8 := S8.ext xC; replace R1 := R1.ext xC; replace S11 := S11.ext xC; replace R2 := R2.ext xC; replace S14 := S14.ext xC; replace R3 := R3.ext xC; replace S20 := S20.ext xC; replace R4 := R4.ext xC; replace S24 := S24.ext xC; replace S27 := S27.ext xC; replace R5 := R5.ext xC; replace S51 := S51.ext xC
  (repeat' (first | refine eV rfl rfl (val_loadA (cs := [s8]) rfl rfl rfl R1.at rfl) ?_ | (refine at_EL ?_; first | refine eV rfl rfl (zA rfl rfl) ?_ | refine eV rfl rfl (zC rfl rfl rfl) ?_)))
  refine EL_call rfl rfl (entersF rfl rfl en28) (texts_any [⟨2, [98, 97], [3, 5]⟩] s8 2 [98, 42] _ S8 (by simp) (by simp) hT) (fun u57 wC hC => ?_)
  obtain ⟨xC, S57⟩ := hC
  rw [aw8] at S57
  replace hX := hX.trans xC; replace hT := hT.ext xC; replace S8 := S8.ext xC; replace R1 := R1.ext xC; replace S11 := S11.ext xC; replace R2 := R2.ext xC; replace S14 := S14.ext xC; replace R3 := R3.ext xC; replace S20 := S20.ext xC; replace R4 := R4.ext xC; replace S24 := S24.ext xC; replace S27 := S27.ext xC; replace R5 := R5.ext xC
  refine eL rfl rfl rfl rfl rfl rfl rfl rfl (fun b58 wl xl hbl R58 => ?_)
  replace hX := hX.trans xl; replace hT := hT.ext xl; replace S8 := S8.ext xl; replace R1 := R1.ext xl; replace S11 := S11.ext xl; replace R2 := R2.ext xl; replace S14 := S14.ext xl; replace R3 := R3.ext xl; replace S20 := S20.ext xl; replace R4 := R4.ext xl; replace S24 := S24.ext xl; replace S27 := S27.ext xl; replace R5 := R5.ext xl; replace S57 := S57.ext xl
  have S58 : Sl _ (.slice (some ⟨b58, 0, none⟩) 1 1) [(⟨[98, 97]⟩ : Txt)] := row_Sl (xs := [(⟨[98, 97]⟩ : Txt)]) (css := [[str [98, 97]]]) R58 ⟨rfl, trivial⟩ (Nat.le_refl _) (by simp)
  have cC := r3same_any [⟨[98, 97]⟩] [⟨[98, 97]⟩] u57 (.slice (some ⟨b58, 0, none⟩) 1 1) _ S57 S58
  rw [decide_eq_true rfl] at cC
  refine EL_call rfl rfl (entersF rfl rfl en27) cC (fun vC wC hC => ?_)
  obtain ⟨rfl, xC⟩ := hC
  clear cC
  replace hX := hX.trans xC; replace hT := hT.ext xC; replace S8 := S8.ext xC; replace R1 := R1.ext xC; replace S11 := S11.ext xC; replace R2 := R2.ext xC; replace S14 := S14.ext xC; replace R3 := R3.ext xC; replace S20 := S20.ext xC; replace R4 := R4.ext xC; replace S24 := S24.ext xC; replace S27 := S27.ext xC; replace R5 := R5.ext xC; replace S57 := S57.ext xC
  (repeat' (first | refine eV rfl rfl (val_loadA (cs := [int 0, str [], int 9, int 0, .slice none 0 0, .slice (some ⟨b24, 0, none⟩) 1 1, .slice (some ⟨b27, 0, none⟩) 1 1]) rfl rfl rfl R5.at rfl) ?_ | (refine at_EL ?_; first | refine eV rfl rfl (zA rfl rfl) ?_ | refine eV rfl rfl (zC rfl rfl rfl) ?_)))
  refine EL_call rfl rfl (entersF rfl rfl en20) (build_any [⟨[97], 0, 1, -1⟩] [⟨7, 0, 0, 0, 5, 0, [98, 97]⟩] _ _ _ _ _ _ _ _ S24 S27 (by simp) (by simp)) (fun v63 wC hC => ?_)
  obtain ⟨xC, s63, rfl, S63⟩ := hC
  rw [aw9] at S63
  replace hX := hX.trans xC; replace hT := hT.ext xC; replace S8 := S8.ext xC; replace R1 := R1.ext xC; replace S11 := S11.ext xC; replace R2 := R2.ext xC; replace S14 := S14.ext xC; replace R3 := R3.ext xC; replace S20 := S20.ext xC; replace R4 := R4.ext xC; replace S24 := S24.ext xC; replace S27 := S27.ext xC; replace R5 := R5.ext xC
  refine EL_call rfl rfl (entersF rfl rfl en25) (find_any [⟨1, [98, 97], [7]⟩] s63 1 [98, 97] _ S63) (fun u64 wC hC => ?_)
  obtain ⟨xC, S64⟩ := hC
  rw [aw10] at S64
  replace hX := hX.trans xC; replace hT := hT.ext xC; replace S8 := S8.ext xC; replace R1 := R1.ext xC; replace S11 := S11.ext xC; replace R2 := R2.ext xC; replace S14 := S14.ext xC; replace R3 := R3.ext xC; replace S20 := S20.ext xC; replace R4 := R4.ext xC; replace S24 := S24.ext xC; replace S27 := S27.ext xC; replace R5 := R5.ext xC; replace S63 := S63.ext xC
  refine eL rfl rfl rfl rfl rfl rfl rfl rfl (fun b65 wl xl hbl R65 => ?_)
  replace hX := hX.trans xl; replace hT := hT.ext xl; replace S8 := S8.ext xl; replace R1 := R1.ext xl; replace S11 := S11.ext xl; replace R2 := R2.ext xl; replace S14 := S14.ext xl; replace R3 := R3.ext xl; replace S20 := S20.ext xl; replace R4 := R4.ext xl; replace S24 := S24.ext xl; replace S27 := S27.ext xl; replace R5 := R5.ext xl; replace S64 := S64.ext xl
  have S65 : Sl _ (.slice (some ⟨b65, 0, none⟩) 1 1) [(7 : Int)] := row_Sl (xs := [(7 : Int)]) (css := [[int 7]]) R65 ⟨rfl, trivial⟩ (Nat.le_refl _) (by simp)
  have cC := r1same_any [7] [7] u64 (.slice (some ⟨b65, 0, none⟩) 1 1) _ S64 S65
  rw [decide_eq_true rfl] at cC
  refine EL_call rfl rfl (entersF rfl rfl en24) cC (fun vC wC hC => ?_)
  obtain ⟨rfl, xC⟩ := hC
  clear cC
  replace hX := hX.trans xC; replace hT := hT.ext xC; replace S8 := S8.ext xC; replace R1 := R1.ext xC; replace S11 := S11.ext xC; replace R2 := R2.ext xC; replace S14 := S14.ext xC; replace R3 := R3.ext xC; replace S20 := S20.ext xC; replace R4 := R4.ext xC; replace S24 := S24.ext xC; replace S27 := S27.ext xC; replace R5 := R5.ext xC; replace S64 := S64.ext xC
  (repeat' (first | refine eV rfl rfl (val_loadA (cs := [s8]) rfl rfl rfl R1.at rfl) ?_ | refine eV rfl rfl (val_loadA (cs := [(.slice (some ⟨b14, 0, none⟩) 1 1)]) rfl rfl rfl R3.at rfl) ?_ | (refine at_EL ?_; first | refine eV rfl rfl (zA rfl rfl) ?_ | refine eV rfl rfl (zC rfl rfl rfl) ?_)))
  have cC := psame_any [⟨2, [98, 97], [3, 5]⟩] [⟨2, [98, 97], [3, 5]⟩] (.slice (some ⟨b14, 0, none⟩) 1 1) s8 _ S14 S8
  rw [decide_eq_true rfl] at cC
  refine EL_call rfl rfl (entersF rfl rfl en34) cC (fun vC wC hC => ?_)
  obtain ⟨rfl, xC⟩ := hC
  clear cC
  replace hX := hX.trans xC; replace hT := hT.ext xC; replace S8 := S8.ext xC; replace R1 := R1.ext xC; replace S11 := S11.ext xC; replace R2 := R2.ext xC; replace S14 := S14.ext xC; replace R3 := R3.ext xC; replace S20 := S20.ext xC; replace R4 := R4.ext xC; replace S24 := S24.ext xC; replace S27 := S27.ext xC; replace R5 := R5.ext xC
  (repeat' (first | (refine at_EL ?_; first | refine eN ?_ | refine eV rfl rfl (zB rfl rfl) ?_ | refine eV rfl rfl (zC rfl rfl rfl) ?_) | (refine at_K ?_; first | refine K_then ?_) | (refine at_E ?_; first | refine E_ret ?_)))
  exact ret_1 rfl rfl ⟨rfl, hX⟩
end Go.Proofs.YtjpjpgeeeigbkaaDoor
