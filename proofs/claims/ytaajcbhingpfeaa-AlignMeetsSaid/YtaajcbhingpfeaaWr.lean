/-
  Walks of align: Words, of both.
-/
import Derived.Test.YtaajcbhingpfeaaWq
set_option linter.all false
namespace Go.Proofs.Ytaajcbhingpfeaa
open Go.RowKit Go.En
def wordB (d : Dc) (id : Int) (n : Note) : Bool := !decide (n.text = []) && (decide (id = 0) || decide (id ∈ (chainF d n.id).map (fun x => x.id)))
def wordsF (d : Dc) (id k : Int) : List Txt := ((ofR d k).filter (wordB d id)).map fun n => (⟨n.text⟩ : Txt)
theorem txts_flat (ts : List Txt) : (ts.map fun z => [str z.l]).flatten = ts.map fun z => str z.l := by induction ts with | nil => rfl | cons z r ih => simp [ih]
theorem txts_ats {G : Nat → Prop} (w : World) : ∀ ts : List Txt, AtsG G w ts (ts.map fun z => [str z.l])
  | [] => trivial
  | z :: r => ⟨rfl, txts_ats w r⟩
attribute [local irreducible] E EL K Val Enters Rt Calls bodyPost Code.wp RQ
set_option maxHeartbeats 4000000 in
set_option maxRecDepth 8000 in
theorem words_any {d : Dc} (h : LightD d) (v : Value) (id k : Int) (w : World) (hv : DcAt w v d) : Calls Try.prog 27 #[v, int id, int k] w (Rt fun u w' => Ext w w' ∧ Sl w' u (wordsF d id k)) := by
  have hd0 := hv
  have hT := h.ntiers
  obtain ⟨sv, tv, nv, rfl, _, ht, hn⟩ := hv
  refine calls_E (n := 47) (args := [.agg #[int d.rid, str d.rname, int d.len, int d.day, sv, tv, nv], int id, int k]) Try.func27 rfl Try.ntmps27 (by simp) ?_
  refine E_seq ?_
  refine E_region ?_
  refine EL_box rfl rfl rfl rfl (fun bD wD xD hbD rD0 => ?_)
  have rD : Row wD bD 28 [int d.rid, str d.rname, int d.len, int d.day, sv, tv, nv] := rD0
  clear rD0
  have cg := of_any h _ (k.toNat + 1) k wD (by omega) (hd0.ext xD)
  obtain ⟨X, hX⟩ : ∃ X, X = ofR d k := ⟨_, rfl⟩
  obtain ⟨I, hI⟩ : ∃ I : List Int, I = X.map (fun n => n.id) := ⟨_, rfl⟩
  rw [← hX, ← hI] at cg
  have hIl : I.length = X.length := by rw [hI, List.length_map]
  have hXl : X.length ≤ 14 := hX ▸ ofR_len h k
  have hXm : ∀ m ∈ X, m ∈ d.notes := fun m hm => by rw [hX] at hm; exact (ofR_mem.1 hm).1
  unfold wordsF
  rw [← hX]
  (repeat' (first | refine eV rfl rfl (val_loadA rfl rfl rfl rD.at rfl) ?_ | (refine EL_call rfl rfl (entersF rfl rfl en45) cg (fun vC wC hC => ?_); obtain ⟨xC, sC⟩ := hC) | (refine at_EL ?_; first | refine eN ?_ | refine eV rfl rfl (zA rfl rfl) ?_ | refine eV rfl rfl (zB rfl rfl) ?_) | (refine at_K ?_; first | refine K_then ?_) | (refine at_E ?_; first | refine E_seq ?_ | refine E_region ?_)))
  have sC0 := sC
  obtain ⟨a, cap, rfl, hc, hm, hp⟩ := sC.sl
  (repeat' (first | (refine at_EL ?_; first | refine eN ?_ | refine eV rfl rfl (zA rfl rfl) ?_ | (refine at_call ?_; first | refine eV rfl rfl (zK rfl rfl) ?_)) | (refine at_K ?_; first | refine K_then ?_) | (refine at_E ?_; first | refine E_block ?_)))
  refine E_loop (ι := Nat × Value) (fun x => [(1, int id), (3, .pointer (some ⟨bD, 0, none⟩)), (7, x.2), (14, .slice a I.length cap), (15, int I.length), (16, int x.1)])
    (fun x wr => x.1 ≤ X.length ∧ Ext wC wr ∧ wr.ownsRow wC.heap.size 9 1 x.2 ((X.take x.1).filter (wordB d id)).length (((X.take x.1).filter (wordB d id)).map fun n => str n.text)) (fun x => X.length - x.1) (0, .slice none 0 0)
    ⟨rfl, rfl, rfl, rfl, rfl, rfl, trivial⟩ ⟨Nat.zero_le _, Ext.refl _, World.ownsRow_nil _ _ _ _⟩ ?_
  rintro ⟨i, vO⟩ wr ⟨hi, hx, hown⟩
  dsimp only at hi hx hown ⊢
  have rDr := rD.ext (xC.trans hx)
  have hXr := xD.trans (xC.trans hx)
  have hfl : ((X.take i).filter (wordB d id)).length ≤ i := Nat.le_trans (List.length_filter_le _ _) (by rw [List.length_take]; omega)
  by_cases hlt : i < X.length
  · obtain ⟨b, off, rfl⟩ := hp (by omega)
    obtain ⟨m, hm1⟩ : ∃ m, X[i]? = some m := ⟨_, List.getElem?_eq_getElem hlt⟩
    have hmn := hXm m (List.mem_of_getElem? hm1)
    have hcx := int_elem (sC0.ext hx) (show I[i]? = some m.id by rw [hI, List.getElem?_map, hm1]; rfl)
    have cget := tget_any d _ m.id wr (hd0.ext hXr)
    rw [getR_val (get_mem (ids_rise h) hmn)] at cget
    (repeat' (first | refine eV rfl rfl (val_indexAddr (m := i) rfl rfl rfl rfl (by omega)) ?_ | refine eV rfl rfl (val_load rfl rfl rfl hcx) ?_ | refine eV rfl rfl (val_loadA rfl rfl rfl rDr.at rfl) ?_ | (refine EL_call rfl rfl (entersF rfl rfl en37) cget (fun vE wE hE => ?_); obtain ⟨rfl, xE⟩ := hE) | (refine at_EL ?_; first | refine eN ?_ | refine eV rfl rfl (zA rfl rfl) ?_ | refine eV rfl rfl (zB rfl rfl) ?_ | (refine at_bin ?_; first | refine eD rfl rfl (zL rfl rfl rfl) (fun hh => ?_) (fun hh => ?_)) | refine eV rfl rfl (zF rfl rfl rfl) ?_) | (refine at_K ?_; first | refine K_then ?_ | refine K_then_exit ?_ | refine K_in_exit ?_) | (refine at_E ?_; first | refine E_seq ?_ | refine E_region ?_ | refine E_cond_t rfl ?_ | refine E_cond_f rfl ?_ | refine E_block ?_ | refine E_skip ?_ | refine E_ret ?_ | refine E_exit ?_)))
    all_goals (first | (exfalso; omega) | skip)
    refine EL_alloc rfl rfl rfl (fun b9 w9 x9 hb9 r9 => ?_)
    refine EL_storeP (cs := noteC m) r9 (xE.trans x9) (by have := xE.size; omega) rfl rfl rfl rfl rfl rfl rfl rfl (Nat.le_refl _) (fun w1 r1 x1 k1 => ?_)
    have r10 : Row w1 b9 48 (noteC m) := r1
    clear r1 r9 k1
    have rD1 := rDr.ext x1
    have hx1 := hx.trans x1
    have own1 := own_ext hown x1
    obtain ⟨C, hC⟩ : ∃ C : List Int, C = (chainF d m.id).map (fun n => n.id) := ⟨_, rfl⟩
    have hCl : C.length ≤ 7 := by rw [hC, List.length_map]; exact Nat.le_trans (chain_len _ _ _) (by omega)
    have cc := chain_any h _ m.id w1 (hd0.ext (hXr.trans x1))
    rw [← hC] at cc
    obtain ⟨bb, hbb⟩ : ∃ bb, bb = decide (id ∈ C) := ⟨_, rfl⟩
    have ch : ∀ (u : Value) (wq : World), Sl wq u C → Calls Try.prog 46 #[u, int id] wq (Rt fun u' w' => u' = .bool bb ∧ Ext wq w') := fun u wq hu => by
      rw [hbb]; exact has_any C id u wq hu
    have hwb : wordB d id m = (!decide (m.text = []) && (decide (id = 0) || bb)) := by unfold wordB; rw [hbb, hC]
    clear hbb
    by_cases ht0 : m.text = []
    · have hf : wordB d id m = false := by rw [hwb]; simp [ht0]
      (repeat' (first | refine eV rfl rfl (val_load rfl rfl rfl (r10.cellAt rfl)) ?_ | refine eD rfl rfl (zS (b := []) rfl rfl rfl) (fun hh => ?_) (fun hh => ?_) | (refine at_EL ?_; first | refine eN ?_ | refine eO rfl rfl ?_ | refine eV rfl rfl (zA rfl rfl) ?_ | refine eV rfl rfl (zB rfl rfl) ?_ | (refine at_bin ?_; first | refine eD rfl rfl (zM rfl rfl rfl) (fun hh => ?_) (fun hh => ?_) | refine eV rfl rfl (zU rfl rfl rfl (by omega) (by omega)) ?_) | refine eV rfl rfl (zC rfl rfl rfl) ?_ | refine eV rfl rfl (zD rfl rfl rfl) ?_ | refine eV rfl rfl (zH rfl rfl) ?_ | refine eL rfl rfl rfl rfl rfl rfl rfl rfl (fun bS wS xS hbS rS => ?_)) | (refine at_K ?_; first | refine K_then ?_ | refine K_in ?_) | (refine at_E ?_; first | refine E_seq ?_ | refine E_region ?_ | refine E_cond_t rfl ?_ | refine E_cond_f rfl ?_ | refine E_skip ?_)))
      all_goals (first | (exfalso; exact absurd ht0 ‹_›) | skip)
      refine K_rnd (i + 1, vO) ⟨rfl, rfl, rfl, rfl, rfl, rfl, trivial⟩ ⟨by dsimp only; omega, hx1, ?_⟩ (by dsimp only; omega)
      dsimp only
      rw [filter_no hm1 hf]
      exact own1
    · by_cases hid : id = 0
      · have hf : wordB d id m = true := by rw [hwb]; simp [ht0, hid]
        (repeat' (first | refine eV rfl rfl (val_load rfl rfl rfl (r10.cellAt rfl)) ?_ | refine eD rfl rfl (zS (b := []) rfl rfl rfl) (fun hh => ?_) (fun hh => ?_) | (refine EL_appO (news := [str m.text]) (own_ext own1 xS) (hx1.trans xS) (fun _ => ⟨_, _, rfl, rS.at⟩) rfl rfl rfl rfl rfl rfl rfl rfl rfl (by omega) (by omega) (fun vJ wJ oJ xJ kJ hJ => ?_)) | (refine at_EL ?_; first | refine eN ?_ | refine eO rfl rfl ?_ | refine eV rfl rfl (zA rfl rfl) ?_ | refine eV rfl rfl (zB rfl rfl) ?_ | (refine at_bin ?_; first | refine eD rfl rfl (zM rfl rfl rfl) (fun hh => ?_) (fun hh => ?_) | refine eV rfl rfl (zU rfl rfl rfl (by omega) (by omega)) ?_) | refine eV rfl rfl (zC rfl rfl rfl) ?_ | refine eV rfl rfl (zD rfl rfl rfl) ?_ | refine eV rfl rfl (zH rfl rfl) ?_ | refine eL rfl rfl rfl rfl rfl rfl rfl rfl (fun bS wS xS hbS rS => ?_)) | (refine at_K ?_; first | refine K_then ?_ | refine K_in ?_) | (refine at_E ?_; first | refine E_seq ?_ | refine E_region ?_ | refine E_cond_t rfl ?_ | refine E_cond_f rfl ?_ | refine E_skip ?_)))
        all_goals (first | (exfalso; omega) | (exfalso; exact (‹¬ (m.text ≠ [])› : ¬ (m.text ≠ [])) ht0) | skip)
        refine K_rnd (i + 1, vJ) ⟨rfl, rfl, rfl, rfl, rfl, rfl, trivial⟩ ⟨by dsimp only; omega, xJ, ?_⟩ (by dsimp only; omega)
        dsimp only
        rw [filter_yes hm1 hf, List.length_append, List.map_append]
        exact oJ
      · have hf : wordB d id m = bb := by rw [hwb]; simp [ht0, hid]
        cases bb
        · (repeat' (first | refine eV rfl rfl (val_load rfl rfl rfl (r10.cellAt rfl)) ?_ | refine eV rfl rfl (val_loadA rfl rfl rfl rD1.at rfl) ?_ | refine eD rfl rfl (zS (b := []) rfl rfl rfl) (fun hh => ?_) (fun hh => ?_) | (refine EL_call rfl rfl (entersF rfl rfl en14) cc (fun vE wE2 hE => ?_); obtain ⟨xE2, sE2⟩ := hE) | (refine EL_call rfl rfl (entersF rfl rfl en46) (ch _ _ sE2) (fun vF wF hF => ?_); obtain ⟨rfl, xF⟩ := hF) | (refine at_EL ?_; first | refine eN ?_ | refine eO rfl rfl ?_ | refine eV rfl rfl (zA rfl rfl) ?_ | refine eV rfl rfl (zB rfl rfl) ?_ | (refine at_bin ?_; first | refine eD rfl rfl (zM rfl rfl rfl) (fun hh => ?_) (fun hh => ?_) | refine eV rfl rfl (zU rfl rfl rfl (by omega) (by omega)) ?_) | refine eV rfl rfl (zC rfl rfl rfl) ?_ | refine eV rfl rfl (zD rfl rfl rfl) ?_ | refine eV rfl rfl (zH rfl rfl) ?_ | refine eL rfl rfl rfl rfl rfl rfl rfl rfl (fun bS wS xS hbS rS => ?_)) | (refine at_K ?_; first | refine K_then ?_ | refine K_in ?_) | (refine at_E ?_; first | refine E_seq ?_ | refine E_region ?_ | refine E_cond_t rfl ?_ | refine E_cond_f rfl ?_ | refine E_skip ?_)))
          all_goals (first | (exfalso; omega) | (exfalso; exact (‹¬ (m.text ≠ [])› : ¬ (m.text ≠ [])) ht0) | skip)
          refine K_rnd (i + 1, vO) ⟨rfl, rfl, rfl, rfl, rfl, rfl, trivial⟩ ⟨by dsimp only; omega, hx1.trans (xE2.trans xF), ?_⟩ (by dsimp only; omega)
          dsimp only
          rw [filter_no hm1 hf]
          exact own_ext own1 (xE2.trans xF)
        · (repeat' (first | refine eV rfl rfl (val_load rfl rfl rfl (r10.cellAt rfl)) ?_ | refine eV rfl rfl (val_loadA rfl rfl rfl rD1.at rfl) ?_ | refine eD rfl rfl (zS (b := []) rfl rfl rfl) (fun hh => ?_) (fun hh => ?_) | (refine EL_call rfl rfl (entersF rfl rfl en14) cc (fun vE wE2 hE => ?_); obtain ⟨xE2, sE2⟩ := hE) | (refine EL_call rfl rfl (entersF rfl rfl en46) (ch _ _ sE2) (fun vF wF hF => ?_); obtain ⟨rfl, xF⟩ := hF) | (refine at_EL ?_; first | refine eN ?_ | refine eO rfl rfl ?_ | refine eV rfl rfl (zA rfl rfl) ?_ | refine eV rfl rfl (zB rfl rfl) ?_ | (refine at_bin ?_; first | refine eD rfl rfl (zM rfl rfl rfl) (fun hh => ?_) (fun hh => ?_) | refine eV rfl rfl (zU rfl rfl rfl (by omega) (by omega)) ?_) | refine eV rfl rfl (zC rfl rfl rfl) ?_ | refine eV rfl rfl (zD rfl rfl rfl) ?_ | refine eV rfl rfl (zH rfl rfl) ?_ | refine eL rfl rfl rfl rfl rfl rfl rfl rfl (fun bS wS xS hbS rS => ?_)) | (refine at_K ?_; first | refine K_then ?_ | refine K_in ?_) | (refine at_E ?_; first | refine E_seq ?_ | refine E_region ?_ | refine E_cond_t rfl ?_ | refine E_cond_f rfl ?_ | refine E_skip ?_)))
          all_goals (first | (exfalso; omega) | (exfalso; exact (‹¬ (m.text ≠ [])› : ¬ (m.text ≠ [])) ht0) | skip)
          have r10F := r10.ext (xE2.trans xF)
          have hx2 := hx1.trans (xE2.trans xF)
          have own2 := own_ext own1 (xE2.trans xF)
          (repeat' (first | refine eV rfl rfl (val_load rfl rfl rfl (r10F.cellAt rfl)) ?_ | (refine EL_appO (news := [str m.text]) (own_ext own2 xS) (hx2.trans xS) (fun _ => ⟨_, _, rfl, rS.at⟩) rfl rfl rfl rfl rfl rfl rfl rfl rfl (by omega) (by omega) (fun vJ wJ oJ xJ kJ hJ => ?_)) | (refine at_EL ?_; first | refine eN ?_ | refine eV rfl rfl (zA rfl rfl) ?_ | refine eV rfl rfl (zB rfl rfl) ?_ | (refine at_bin ?_; first | refine eV rfl rfl (zU rfl rfl rfl (by omega) (by omega)) ?_) | refine eL rfl rfl rfl rfl rfl rfl rfl rfl (fun bS wS xS hbS rS => ?_)) | (refine at_K ?_; first | refine K_then ?_ | refine K_in ?_) | (refine at_E ?_; first | refine E_region ?_)))
          refine K_rnd (i + 1, vJ) ⟨rfl, rfl, rfl, rfl, rfl, rfl, trivial⟩ ⟨by dsimp only; omega, xJ, ?_⟩ (by dsimp only; omega)
          dsimp only
          rw [filter_yes hm1 hf, List.length_append, List.map_append]
          exact oJ
  · obtain rfl : i = X.length := by omega
    rw [List.take_length] at hown
    (repeat' (first | (refine at_EL ?_; first | refine eN ?_ | refine eV rfl rfl (zA rfl rfl) ?_ | refine eV rfl rfl (zB rfl rfl) ?_ | (refine at_bin ?_; first | refine eD rfl rfl (zL rfl rfl rfl) (fun hh => ?_) (fun hh => ?_))) | (refine at_K ?_; first | refine K_then ?_ | refine K_then_exit ?_ | refine K_in_exit ?_) | (refine at_E ?_; first | refine E_seq ?_ | refine E_region ?_ | refine E_cond_t rfl ?_ | refine E_cond_f rfl ?_ | refine E_block ?_ | refine E_skip ?_ | refine E_ret ?_ | refine E_exit ?_)))
    all_goals (first | (exfalso; omega) | skip)
    refine ret_1 rfl rfl ⟨hXr, ?_⟩
    exact own_Sl (css := ((X.filter (wordB d id)).map fun n => (⟨n.text⟩ : Txt)).map fun z => [str z.l]) (by rw [txts_flat, List.map_map]; exact hown) (txts_ats _ _) (by simp) (by rw [List.length_map]; have := List.length_filter_le (wordB d id) X; omega)
set_option maxHeartbeats 4000000 in
set_option maxRecDepth 8000 in
theorem refwords_any {d : Dc} (h : LightD d) (v : Value) (id k : Int) (w : World) (hv : DcAt w v d) : Calls Try.prog 28 #[v, int id, int k] w (Rt fun u w' => Ext w w' ∧ Sl w' u (wordsF d id k)) := by
  have hd0 := hv
  have hT := h.ntiers
  obtain ⟨sv, tv, nv, rfl, _, ht, hn⟩ := hv
  refine calls_E (n := 53) (args := [.agg #[int d.rid, str d.rname, int d.len, int d.day, sv, tv, nv], int id, int k]) Try.func28 rfl Try.ntmps28 (by simp) ?_
  refine E_seq ?_
  refine E_region ?_
  refine EL_box rfl rfl rfl rfl (fun bD wD xD hbD rD0 => ?_)
  have rD : Row wD bD 28 [int d.rid, str d.rname, int d.len, int d.day, sv, tv, nv] := rD0
  clear rD0
  have cg := refof_any h _ k wD (hd0.ext xD)
  obtain ⟨X, hX⟩ : ∃ X, X = ofR d k := ⟨_, rfl⟩
  obtain ⟨I, hI⟩ : ∃ I : List Int, I = X.map (fun n => n.id) := ⟨_, rfl⟩
  rw [← hX, ← hI] at cg
  have hIl : I.length = X.length := by rw [hI, List.length_map]
  have hXl : X.length ≤ 14 := hX ▸ ofR_len h k
  have hXm : ∀ m ∈ X, m ∈ d.notes := fun m hm => by rw [hX] at hm; exact (ofR_mem.1 hm).1
  unfold wordsF
  rw [← hX]
  (repeat' (first | refine eV rfl rfl (val_loadA rfl rfl rfl rD.at rfl) ?_ | (refine EL_call rfl rfl (entersF rfl rfl en43) cg (fun vC wC hC => ?_); obtain ⟨xC, sC⟩ := hC) | (refine at_EL ?_; first | refine eN ?_ | refine eV rfl rfl (zA rfl rfl) ?_ | refine eV rfl rfl (zB rfl rfl) ?_) | (refine at_K ?_; first | refine K_then ?_) | (refine at_E ?_; first | refine E_seq ?_ | refine E_region ?_ | refine E_block ?_)))
  have sC0 := sC
  obtain ⟨a, cap, rfl, hc, hm, hp⟩ := sC.sl
  refine E_loop (ι := Nat × Value) (fun x => [(1, int id), (3, .pointer (some ⟨bD, 0, none⟩)), (7, x.2), (8, .slice a I.length cap), (9, int x.1)])
    (fun x wr => x.1 ≤ X.length ∧ Ext wC wr ∧ wr.ownsRow wC.heap.size 9 1 x.2 ((X.take x.1).filter (wordB d id)).length (((X.take x.1).filter (wordB d id)).map fun n => str n.text)) (fun x => X.length - x.1) (0, .slice none 0 0)
    ⟨rfl, rfl, rfl, rfl, rfl, trivial⟩ ⟨Nat.zero_le _, Ext.refl _, World.ownsRow_nil _ _ _ _⟩ ?_
  rintro ⟨i, vO⟩ wr ⟨hi, hx, hown⟩
  dsimp only at hi hx hown ⊢
  have rDr := rD.ext (xC.trans hx)
  have hXr := xD.trans (xC.trans hx)
  have hfl : ((X.take i).filter (wordB d id)).length ≤ i := Nat.le_trans (List.length_filter_le _ _) (by rw [List.length_take]; omega)
  by_cases hlt : i < X.length
  · obtain ⟨b, off, rfl⟩ := hp (by omega)
    obtain ⟨m, hm1⟩ : ∃ m, X[i]? = some m := ⟨_, List.getElem?_eq_getElem hlt⟩
    have hmn := hXm m (List.mem_of_getElem? hm1)
    have hcx := int_elem (sC0.ext hx) (show I[i]? = some m.id by rw [hI, List.getElem?_map, hm1]; rfl)
    have cget : ∀ wq, Ext wr wq → Calls Try.prog 33 #[.agg #[int d.rid, str d.rname, int d.len, int d.day, sv, tv, nv], int m.id] wq (Rt fun u w' => u = .tuple #[.agg (noteC m).toArray, .bool true] ∧ Ext wq w') := fun wq xq => by
      have := get_any d _ m.id wq (hd0.ext (hXr.trans xq))
      rw [getR_val (get_mem (ids_rise h) hmn)] at this
      exact this
    (repeat' ((fail_if_success (refine E_seq (x := (Code.region 6 _ _)) ?_)); first | (refine at_EL ?_; first | refine eN ?_ | refine eV rfl rfl (zA rfl rfl) ?_ | refine eV rfl rfl (zB rfl rfl) ?_ | (refine at_bin ?_; first | refine eD rfl rfl (zL rfl rfl rfl) (fun hh => ?_) (fun hh => ?_)) | (refine at_call ?_; first | refine eV rfl rfl (zK rfl rfl) ?_)) | (refine at_K ?_; first | refine K_then ?_ | refine K_then_exit ?_ | refine K_in_exit ?_) | (refine at_E ?_; first | refine E_seq ?_ | refine E_region ?_ | refine E_cond_t rfl ?_ | refine E_cond_f rfl ?_ | refine E_block ?_ | refine E_skip ?_ | refine E_ret ?_ | refine E_exit ?_)))
    all_goals (first | (exfalso; omega) | skip)
    refine E_seq ?_
    refine E.sub (M := [(1, int id), (3, .pointer (some ⟨bD, 0, none⟩)), (7, vO), (8, .slice (some ⟨b, off, none⟩) I.length cap), (9, int i)]) ⟨rfl, rfl, rfl, rfl, rfl, trivial⟩ ?_
    refine E_one 9 10 10 28 (noteC m) [some (22, .agg #[int d.rid, str d.rname, int d.len, int d.day, sv, tv, nv]), some (23, .slice (some ⟨b, off, none⟩) I.length cap), some (24, int i), some (25, .pointer (some ⟨b, off + i * 1, none⟩)), some (26, int m.id),
      some (27, .tuple #[.agg (noteC m).toArray, .bool true]), some (21, .tuple #[.agg (noteC m).toArray, .bool true]), some (28, .agg (noteC m).toArray), some (29, .bool true), none, none, some (11, .bool true)] mixedOk (by kernel_rfl) rfl rfl rfl rfl rfl rfl rfl rfl (by decide) rfl rfl rfl rfl rfl
      ⟨vcV fun wq xq => val_loadA rfl rfl rfl (rDr.ext xq).at rfl, vcV fun _ _ => zA rfl rfl, vcV fun _ _ => zA rfl rfl, vcV fun _ _ => val_indexAddr (m := i) rfl rfl rfl rfl (by omega), vcV fun wq xq => val_load rfl rfl rfl (xq.cell hcx),
        vcC (fun _ _ => entersF rfl rfl en33) (fun wq xq => cget wq xq), vcV fun _ _ => zA rfl rfl, vcV fun _ _ => zF rfl rfl rfl, vcV fun _ _ => zF rfl rfl rfl, vcV fun _ _ => zB rfl rfl, trivial⟩ (fun b9 w1 x1 hge9 r10 => ?_)
    refine K.sub (M := [(1, int id), (3, .pointer (some ⟨bD, 0, none⟩)), (7, vO), (8, .slice (some ⟨b, off, none⟩) I.length cap), (9, int i), (10, .pointer (some ⟨b9, 0, none⟩))]) ⟨rfl, rfl, rfl, rfl, rfl, rfl, trivial⟩ ?_
    have rD1 := rDr.ext x1
    have hx1 := hx.trans x1
    have own1 := own_ext hown x1
    have hcx1 := x1.cell hcx
    obtain ⟨C, hC⟩ : ∃ C : List Int, C = (chainF d m.id).map (fun n => n.id) := ⟨_, rfl⟩
    have hCl : C.length ≤ 7 := by rw [hC, List.length_map]; exact Nat.le_trans (chain_len _ _ _) (by omega)
    have cc := fun wq (xq : Ext w1 wq) => refchain_any h _ m.id wq (hd0.ext (hXr.trans (x1.trans xq)))
    simp only [← hC] at cc
    obtain ⟨bb, hbb⟩ : ∃ bb, bb = decide (id ∈ C) := ⟨_, rfl⟩
    have ch : ∀ (u : Value) (wq : World), Sl wq u C → Calls Try.prog 40 #[u, int id] wq (Rt fun u' w' => u' = .bool bb ∧ Ext wq w') := fun u wq hu => by
      rw [hbb]; exact in_any C id u wq hu (by omega)
    have hwb : wordB d id m = (!decide (m.text = []) && (decide (id = 0) || bb)) := by unfold wordB; rw [hbb, hC]
    clear hbb
    by_cases ht0 : m.text = []
    · have hf : wordB d id m = false := by rw [hwb]; simp [ht0]
      (repeat' (first | refine yV rfl rfl (fun wq _ xq => val_load rfl rfl rfl ((r10.ext xq).cellAt rfl)) ?_ | refine yD rfl rfl (fun _ _ _ => zS (b := []) rfl rfl rfl) (fun hh => ?_) (fun hh => ?_) | (refine at_EL ?_; first | refine eN ?_ | refine eV rfl rfl (zA rfl rfl) ?_ | refine eV rfl rfl (zB rfl rfl) ?_ | (refine at_bin ?_; first | refine eV rfl rfl (zU rfl rfl rfl (by omega) (by omega)) ?_) | refine eV rfl rfl (zH rfl rfl) ?_) | (refine at_K ?_; first | refine K_then ?_ | refine K_in ?_) | (refine at_E ?_; first | refine E_seq ?_ | refine E_region ?_ | refine E_cond_t rfl ?_ | refine E_cond_f rfl ?_ | refine E_skip ?_ | refine E_dq mixedOk (by kernel_rfl) rfl ?_) | (refine at_RQ ?_; first | refine yN rfl (fun wq xq => ?_) | refine yO rfl rfl ?_ | refine yV rfl rfl (fun _ _ _ => zA rfl rfl) ?_ | (refine at_binR ?_; first | refine yD rfl rfl (fun _ _ _ => zM rfl rfl rfl) (fun hh => ?_) (fun hh => ?_)) | refine yV rfl rfl (fun _ _ _ => zC rfl rfl rfl) ?_ | refine yV rfl rfl (fun _ _ _ => zD rfl rfl rfl) ?_ | refine yV rfl rfl (fun _ _ _ => zH rfl rfl) ?_)))
      all_goals (first | (exfalso; exact absurd ht0 ‹_›) | skip)
      refine K_rnd (i + 1, vO) ⟨rfl, rfl, rfl, rfl, rfl, trivial⟩ ⟨by dsimp only; omega, hx1.trans xq, ?_⟩ (by dsimp only; omega)
      dsimp only
      rw [filter_no hm1 hf]
      exact own_ext own1 xq
    · by_cases hid : id = 0
      · have hf : wordB d id m = true := by rw [hwb]; simp [ht0, hid]
        (repeat' (first | refine yV rfl rfl (fun wq _ xq => val_load rfl rfl rfl ((r10.ext xq).cellAt rfl)) ?_ | refine yD rfl rfl (fun _ _ _ => zS (b := []) rfl rfl rfl) (fun hh => ?_) (fun hh => ?_) | (refine at_EL ?_; first | refine eN ?_ | refine eV rfl rfl (zA rfl rfl) ?_ | refine eV rfl rfl (zB rfl rfl) ?_ | (refine at_bin ?_; first | refine eV rfl rfl (zU rfl rfl rfl (by omega) (by omega)) ?_) | refine eV rfl rfl (zH rfl rfl) ?_) | (refine at_K ?_; first | refine K_then ?_ | refine K_in ?_) | (refine at_E ?_; first | refine E_seq ?_ | refine E_region ?_ | refine E_cond_t rfl ?_ | refine E_cond_f rfl ?_ | refine E_skip ?_ | refine E_dq mixedOk (by kernel_rfl) rfl ?_) | (refine at_RQ ?_; first | refine yN rfl (fun wq xq => ?_) | refine yO rfl rfl ?_ | refine yV rfl rfl (fun _ _ _ => zA rfl rfl) ?_ | (refine at_binR ?_; first | refine yD rfl rfl (fun _ _ _ => zM rfl rfl rfl) (fun hh => ?_) (fun hh => ?_)) | refine yV rfl rfl (fun _ _ _ => zC rfl rfl rfl) ?_ | refine yV rfl rfl (fun _ _ _ => zD rfl rfl rfl) ?_ | refine yV rfl rfl (fun _ _ _ => zH rfl rfl) ?_)))
        all_goals (first | (exfalso; omega) | (exfalso; exact (‹¬ (m.text ≠ [])› : ¬ (m.text ≠ [])) ht0) | skip)
        have r10F := r10.ext xq
        have hx2 := hx1.trans xq
        have own2 := own_ext own1 xq
        (repeat' (first | refine eV rfl rfl (val_load rfl rfl rfl (r10F.cellAt rfl)) ?_ | (refine EL_appO (news := [str m.text]) (own_ext own2 xS) (hx2.trans xS) (fun _ => ⟨_, _, rfl, rS.at⟩) rfl rfl rfl rfl rfl rfl rfl rfl rfl (by omega) (by omega) (fun vJ wJ oJ xJ kJ hJ => ?_)) | (refine at_EL ?_; first | refine eN ?_ | refine eV rfl rfl (zA rfl rfl) ?_ | refine eV rfl rfl (zB rfl rfl) ?_ | (refine at_bin ?_; first | refine eV rfl rfl (zU rfl rfl rfl (by omega) (by omega)) ?_) | refine eL rfl rfl rfl rfl rfl rfl rfl rfl (fun bS wS xS hbS rS => ?_)) | (refine at_K ?_; first | refine K_then ?_ | refine K_in ?_) | (refine at_E ?_; first | refine E_region ?_)))
        refine K_rnd (i + 1, vJ) ⟨rfl, rfl, rfl, rfl, rfl, trivial⟩ ⟨by dsimp only; omega, xJ, ?_⟩ (by dsimp only; omega)
        dsimp only
        rw [filter_yes hm1 hf, List.length_append, List.map_append]
        exact oJ
      · have hf : wordB d id m = bb := by rw [hwb]; simp [ht0, hid]
        cases bb
        · (repeat' (first | refine yV rfl rfl (fun wq _ xq => val_load rfl rfl rfl ((r10.ext xq).cellAt rfl)) ?_ | refine yV rfl rfl (fun wq _ xq => val_loadA rfl rfl rfl (rD1.ext xq).at rfl) ?_ | refine yV rfl rfl (fun _ _ _ => val_indexAddr (m := i) rfl rfl rfl rfl (by omega)) ?_ | refine yV rfl rfl (fun wq _ xq => val_load rfl rfl rfl (xq.cell hcx1)) ?_ | refine yD rfl rfl (fun _ _ _ => zS (b := []) rfl rfl rfl) (fun hh => ?_) (fun hh => ?_) | refine RQ_callR (fun u w' => Sl w' u C) (fun _ => #[.agg #[int d.rid, str d.rname, int d.len, int d.day, sv, tv, nv], int m.id]) rfl rfl (fun _ _ _ _ xe h => SlG.ext h xe) (fun _ _ _ => entersF rfl rfl en15) (fun wq _ xq _ => calls_mono (cc wq xq) fun _ _ h => ⟨h.2, h.1⟩) ?_ | refine RQ_callV (fun δ => #[δ 42, int id]) rfl rfl (fun _ _ _ => entersF rfl rfl en40) (fun wq δ xq hs => ch (δ 42) wq (hs 42 rfl _ rfl)) ?_ | refine RQ_end (fun wq δ xq hR => ?_) | (refine at_EL ?_; first | refine eN ?_ | refine eV rfl rfl (zA rfl rfl) ?_ | refine eV rfl rfl (zB rfl rfl) ?_ | (refine at_bin ?_; first | refine eV rfl rfl (zU rfl rfl rfl (by omega) (by omega)) ?_) | refine eV rfl rfl (zH rfl rfl) ?_) | (refine at_K ?_; first | refine K_then ?_ | refine K_in ?_) | (refine at_E ?_; first | refine E_seq ?_ | refine E_region ?_ | refine E_cond_t rfl ?_ | refine E_cond_f rfl ?_ | refine E_skip ?_ | refine E_dq mixedOk (by kernel_rfl) rfl ?_) | (refine at_RQ ?_; first | refine yO rfl rfl ?_ | refine yV rfl rfl (fun _ _ _ => zA rfl rfl) ?_ | (refine at_binR ?_; first | refine yD rfl rfl (fun _ _ _ => zM rfl rfl rfl) (fun hh => ?_) (fun hh => ?_)) | refine yV rfl rfl (fun _ _ _ => zC rfl rfl rfl) ?_ | refine yV rfl rfl (fun _ _ _ => zD rfl rfl rfl) ?_ | refine yV rfl rfl (fun _ _ _ => zH rfl rfl) ?_)))
          all_goals (first | (exfalso; omega) | (exfalso; exact (‹¬ (m.text ≠ [])› : ¬ (m.text ≠ [])) ht0) | skip)
          refine K_rnd (i + 1, vO) ⟨rfl, rfl, rfl, rfl, rfl, trivial⟩ ⟨by dsimp only; omega, hx1.trans xq, ?_⟩ (by dsimp only; omega)
          dsimp only
          rw [filter_no hm1 hf]
          exact own_ext own1 xq
        · (repeat' (first | refine yV rfl rfl (fun wq _ xq => val_load rfl rfl rfl ((r10.ext xq).cellAt rfl)) ?_ | refine yV rfl rfl (fun wq _ xq => val_loadA rfl rfl rfl (rD1.ext xq).at rfl) ?_ | refine yV rfl rfl (fun _ _ _ => val_indexAddr (m := i) rfl rfl rfl rfl (by omega)) ?_ | refine yV rfl rfl (fun wq _ xq => val_load rfl rfl rfl (xq.cell hcx1)) ?_ | refine yD rfl rfl (fun _ _ _ => zS (b := []) rfl rfl rfl) (fun hh => ?_) (fun hh => ?_) | refine RQ_callR (fun u w' => Sl w' u C) (fun _ => #[.agg #[int d.rid, str d.rname, int d.len, int d.day, sv, tv, nv], int m.id]) rfl rfl (fun _ _ _ _ xe h => SlG.ext h xe) (fun _ _ _ => entersF rfl rfl en15) (fun wq _ xq _ => calls_mono (cc wq xq) fun _ _ h => ⟨h.2, h.1⟩) ?_ | refine RQ_callV (fun δ => #[δ 42, int id]) rfl rfl (fun _ _ _ => entersF rfl rfl en40) (fun wq δ xq hs => ch (δ 42) wq (hs 42 rfl _ rfl)) ?_ | refine RQ_end (fun wq δ xq hR => ?_) | (refine at_EL ?_; first | refine eN ?_ | refine eV rfl rfl (zA rfl rfl) ?_ | refine eV rfl rfl (zB rfl rfl) ?_ | (refine at_bin ?_; first | refine eV rfl rfl (zU rfl rfl rfl (by omega) (by omega)) ?_) | refine eV rfl rfl (zH rfl rfl) ?_) | (refine at_K ?_; first | refine K_then ?_ | refine K_in ?_) | (refine at_E ?_; first | refine E_seq ?_ | refine E_region ?_ | refine E_cond_t rfl ?_ | refine E_cond_f rfl ?_ | refine E_skip ?_ | refine E_dq mixedOk (by kernel_rfl) rfl ?_) | (refine at_RQ ?_; first | refine yO rfl rfl ?_ | refine yV rfl rfl (fun _ _ _ => zA rfl rfl) ?_ | (refine at_binR ?_; first | refine yD rfl rfl (fun _ _ _ => zM rfl rfl rfl) (fun hh => ?_) (fun hh => ?_)) | refine yV rfl rfl (fun _ _ _ => zC rfl rfl rfl) ?_ | refine yV rfl rfl (fun _ _ _ => zD rfl rfl rfl) ?_ | refine yV rfl rfl (fun _ _ _ => zH rfl rfl) ?_)))
          all_goals (first | (exfalso; omega) | (exfalso; exact (‹¬ (m.text ≠ [])› : ¬ (m.text ≠ [])) ht0) | skip)
          have r10F := r10.ext xq
          have hx2 := hx1.trans xq
          have own2 := own_ext own1 xq
          (repeat' (first | refine eV rfl rfl (val_load rfl rfl rfl (r10F.cellAt rfl)) ?_ | (refine EL_appO (news := [str m.text]) (own_ext own2 xS) (hx2.trans xS) (fun _ => ⟨_, _, rfl, rS.at⟩) rfl rfl rfl rfl rfl rfl rfl rfl rfl (by omega) (by omega) (fun vJ wJ oJ xJ kJ hJ => ?_)) | (refine at_EL ?_; first | refine eN ?_ | refine eV rfl rfl (zA rfl rfl) ?_ | refine eV rfl rfl (zB rfl rfl) ?_ | (refine at_bin ?_; first | refine eV rfl rfl (zU rfl rfl rfl (by omega) (by omega)) ?_) | refine eL rfl rfl rfl rfl rfl rfl rfl rfl (fun bS wS xS hbS rS => ?_)) | (refine at_K ?_; first | refine K_then ?_ | refine K_in ?_) | (refine at_E ?_; first | refine E_region ?_)))
          refine K_rnd (i + 1, vJ) ⟨rfl, rfl, rfl, rfl, rfl, trivial⟩ ⟨by dsimp only; omega, xJ, ?_⟩ (by dsimp only; omega)
          dsimp only
          rw [filter_yes hm1 hf, List.length_append, List.map_append]
          exact oJ
  · obtain rfl : i = X.length := by omega
    rw [List.take_length] at hown
    (repeat' (first | (refine at_EL ?_; first | refine eN ?_ | refine eV rfl rfl (zA rfl rfl) ?_ | refine eV rfl rfl (zB rfl rfl) ?_ | (refine at_bin ?_; first | refine eD rfl rfl (zL rfl rfl rfl) (fun hh => ?_) (fun hh => ?_)) | (refine at_call ?_; first | refine eV rfl rfl (zK rfl rfl) ?_)) | (refine at_K ?_; first | refine K_then ?_ | refine K_then_exit ?_ | refine K_in_exit ?_) | (refine at_E ?_; first | refine E_seq ?_ | refine E_region ?_ | refine E_cond_t rfl ?_ | refine E_cond_f rfl ?_ | refine E_block ?_ | refine E_skip ?_ | refine E_ret ?_ | refine E_exit ?_)))
    all_goals (first | (exfalso; omega) | skip)
    refine ret_1 rfl rfl ⟨hXr, ?_⟩
    exact own_Sl (css := ((X.filter (wordB d id)).map fun n => (⟨n.text⟩ : Txt)).map fun z => [str z.l]) (by rw [txts_flat, List.map_map]; exact hown) (txts_ats _ _) (by simp) (by rw [List.length_map]; have := List.length_filter_le (wordB d id) X; omega)
end Go.Proofs.Ytaajcbhingpfeaa
