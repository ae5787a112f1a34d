/-
  Walks: the program's Find and Put.
-/
import Derived.Test.YtjpjpgeeeigbkaaDoorWb
set_option linter.all false
namespace Go.Proofs.YtjpjpgeeeigbkaaDoor
open Go.RowKit Go.En

theorem place_ok {xs : List Post} {r : Int} {t : List UInt8} (h : placeB xs r t = true) : ∃ p, xs[placeN xs r t]? = some p ∧ p.role = r ∧ p.text = t := by
  unfold placeB at h
  split at h
  · cases h
  · rename_i p hp; exact ⟨p, hp, of_decide_eq_true h⟩
theorem place_no {xs : List Post} {r : Int} {t : List UInt8} (h : placeB xs r t = false) : ∀ p, xs[placeN xs r t]? = some p → ¬ (p.role = r ∧ p.text = t) := by
  intro p hp
  unfold placeB at h
  rw [hp] at h
  exact of_decide_eq_false h
theorem find_ok {xs : List Post} {r : Int} {t : List UInt8} {p : Post} (hp : xs[placeN xs r t]? = some p) (h : p.role = r ∧ p.text = t) : findF xs r t = p.ids := by
  unfold findF; rw [hp]; exact if_pos h
theorem find_no {xs : List Post} {r : Int} {t : List UInt8} (h : placeB xs r t = false) : findF xs r t = [] := by
  unfold findF
  split
  · rfl
  · rename_i p hp; exact if_neg (place_no h p hp)
theorem put_out {xs : List Post} {r : Int} {t : List UInt8} {id : Int} (h : r < 1 ∨ 5 < r) : putF xs r t id = xs := by
  unfold putF isRole; rw [if_neg (by simp; omega)]
theorem put_old {xs : List Post} {r : Int} {t : List UInt8} {id : Int} {p : Post} (h1 : ¬ r < 1) (h2 : ¬ 5 < r) (hp : xs[placeN xs r t]? = some p) (h : p.role = r ∧ p.text = t) : putF xs r t id = xs.set (placeN xs r t) ⟨p.role, p.text, withF p.ids id⟩ := by
  unfold putF isRole; rw [if_pos (by simp; omega), hp]; exact if_pos h
theorem put_new {xs : List Post} {r : Int} {t : List UInt8} {id : Int} (h1 : ¬ r < 1) (h2 : ¬ 5 < r) (h : placeB xs r t = false) : putF xs r t id = xs.take (placeN xs r t) ++ ⟨r, t, [id]⟩ :: xs.drop (placeN xs r t) := by
  unfold putF isRole; rw [if_pos (by simp; omega)]
  split
  · rename_i p hp; exact if_neg (place_no h p hp)
  · rfl
/-- an index: a struct of one slice -/
def IxG (G : Nat → Prop) (w : World) (v : Value) (xs : List Post) : Prop := ∃ s, v = .agg #[s] ∧ SlG G w s xs
abbrev Ix (w : World) (v : Value) (xs : List Post) : Prop := IxG Tt w v xs
theorem IxG.ext {G : Nat → Prop} {w w' : World} {v : Value} {xs : List Post} (h : IxG G w v xs) (x : Ext w w') : IxG G w' v xs := by
  obtain ⟨s, hs, h⟩ := h; exact ⟨s, hs, h.ext x⟩
theorem IxG.any {G : Nat → Prop} {w : World} {v : Value} {xs : List Post} (h : IxG G w v xs) : Ix w v xs := by
  obtain ⟨s, hs, h⟩ := h; exact ⟨s, hs, h.any⟩
/-- of 'G', and old -/
def GO (G : Nat → Prop) (w : World) : Nat → Prop := fun b => G b ∧ b < w.heap.size
theorem oldS {α : Type} [Rep α] {G : Nat → Prop} {w : World} {v : Value} {xs : List α} (h : SlG G w v xs) : SlG (GO G w) w v xs := h.move fun _ h1 h => ⟨⟨h1, h⟩, rfl⟩
theorem oldA {α : Type} [Rep α] {G : Nat → Prop} {w : World} {xs : List α} {css : List (List Value)} (h : AtsG G w xs css) : AtsG (GO G w) w xs css := AtsG.move h fun _ h1 h => ⟨⟨h1, h⟩, rfl⟩
theorem fr_of {G : Nat → Prop} {w w1 : World} (h : w.heap.size ≤ w1.heap.size) : ∀ b, Fr (GO G w) w1 b → Fr G w b := fun b hb => hb.elim (fun h => .inl h.1) (fun h' => .inr (Nat.le_trans h h'))
attribute [local irreducible] E EL K Val Enters Rt Calls bodyPost Code.wp RQ
theorem find_any (xs : List Post) (v : Value) (r : Int) (t : List UInt8) (w : World) (hv : Sl w v xs) : Calls Tryd.prog 25 #[.agg #[v], int r, str t] w (Rt fun u w' => Ext w w' ∧ Sl w' u (findF xs r t)) := by
  refine calls_E (n := 24) (args := [.agg #[v], int r, str t]) Tryd.func25 rfl Tryd.ntmps25 (by simp) ?_
  have hv0 := hv
  obtain ⟨a, cap, rfl, hc, hm, hp⟩ := hv.sl
  have c42 := fun w hv => place_any xs (.slice a xs.length cap) r t w hv
  cases hB : placeB xs r t with
  | false =>
    rw [hB] at c42
    (repeat' (first | refine EL_box rfl rfl rfl rfl (fun bB wB xB hbB rB => ?_) | refine eV rfl rfl (val_loadA rfl rfl rfl rB.at rfl) ?_ | (refine EL_call rfl rfl (entersF rfl rfl en42) (c42 _ (hv0.ext xB)) (fun vC wC hC => ?_); obtain ⟨rfl, xC⟩ := hC) | (refine at_EL ?_; first | refine eN ?_ | refine eV rfl rfl (zA rfl rfl) ?_ | refine eV rfl rfl (zB rfl rfl) ?_ | refine eV rfl rfl (zE rfl rfl) ?_ | refine eV rfl rfl (zF rfl rfl rfl) ?_) | (refine at_K ?_; first | refine K_then ?_ | refine K_then_ret ?_) | (refine at_E ?_; first | refine E_seq ?_ | refine E_region ?_ | refine E_cond_t rfl ?_ | refine E_ret ?_)))
    refine ret_1 rfl rfl ⟨xB.trans xC, ?_⟩
    rw [find_no hB]
    exact SlG.nil
  | true =>
    rw [hB] at c42
    obtain ⟨p, hpp, hk⟩ := place_ok hB
    have hlt := (List.getElem?_eq_some_iff.1 hpp).1
    obtain ⟨b, off, rfl⟩ := hp (by omega)
    obtain ⟨iv, hat, hids⟩ := post_elem hv0 hpp
    (repeat' (first | refine EL_box rfl rfl rfl rfl (fun bB wB xB hbB rB => ?_) | refine eV rfl rfl (val_loadA rfl rfl rfl rB.at rfl) ?_ | (refine EL_call rfl rfl (entersF rfl rfl en42) (c42 _ (hv0.ext xB)) (fun vC wC hC => ?_); obtain ⟨rfl, xC⟩ := hC) | refine eV rfl rfl (val_load rfl rfl rfl ((rB.ext xC).cellAt rfl)) ?_ | refine eV rfl rfl (val_indexAddr (m := placeN xs r t) rfl rfl rfl rfl hlt) ?_ | refine eV rfl rfl (val_load rfl rfl rfl ((hat.ext (xB.trans xC)).cellAt rfl)) ?_ | (refine at_EL ?_; first | refine eN ?_ | refine eV rfl rfl (zA rfl rfl) ?_ | refine eV rfl rfl (zB rfl rfl) ?_ | refine eV rfl rfl (zE rfl rfl) ?_ | refine eV rfl rfl (zF rfl rfl rfl) ?_ | refine eV rfl rfl (zH rfl rfl) ?_) | (refine at_K ?_; first | refine K_then ?_) | (refine at_E ?_; first | refine E_seq ?_ | refine E_region ?_ | refine E_cond_f rfl ?_ | refine E_skip ?_ | refine E_ret ?_)))
    refine ret_1 rfl rfl ⟨xB.trans xC, ?_⟩
    rw [find_ok hpp hk]
    exact hids.ext (xB.trans xC)
set_option maxHeartbeats 1000000 in
theorem put_any {G : Nat → Prop} (xs : List Post) (v : Value) (r : Int) (t : List UInt8) (id : Int) (w : World) (hv : SlG G w v xs) (hlen : xs.length ≤ 1099511627776) (hids : ∀ p ∈ xs, p.ids.length ≤ 1099511627776) :
    Calls Tryd.prog 30 #[.agg #[v], int r, str t, int id] w (Rt fun u w' => Ext w w' ∧ IxG (Fr G w) w' u (putF xs r t id)) := by
  refine calls_E (n := 79) (args := [.agg #[v], int r, str t, int id]) Tryd.func30 rfl Tryd.ntmps30 (by simp) ?_
  have hv0 := hv
  obtain ⟨a, cap, rfl, hc, hm, hp⟩ := hv.sl
  by_cases hr : r < 1 ∨ 5 < r
  · (repeat' (first | refine EL_box rfl rfl rfl rfl (fun bB wB xB hbB rB => ?_) | refine EL_alloc rfl rfl rfl (fun bA wA xA hbA rA => ?_) | refine eV rfl rfl (val_loadA rfl rfl rfl (rB.ext xA).at rfl) ?_ | (refine at_EL ?_; first | refine eN ?_ | refine eO rfl rfl ?_ | refine eV rfl rfl (zA rfl rfl) ?_ | (refine at_bin ?_; first | refine eD rfl rfl (zL rfl rfl rfl) (fun hh => ?_) (fun hh => ?_) | refine eD rfl rfl (zO rfl rfl rfl) (fun hh => ?_) (fun hh => ?_)) | refine eV rfl rfl (zC rfl rfl rfl) ?_ | refine eV rfl rfl (zD rfl rfl rfl) ?_) | (refine at_K ?_; first | refine K_then ?_) | (refine at_E ?_; first | refine E_seq ?_ | refine E_region ?_ | refine E_cond_t rfl ?_ | refine E_cond_f rfl ?_ | refine E_skip ?_)))
    all_goals (first | (exfalso; omega) | skip)
    all_goals
      refine EL_storeP (cs := [.slice a xs.length cap]) rA (xB.trans xA) (by have := xB.size; omega) rfl rfl rfl rfl rfl rfl rfl rfl (Nat.le_refl _) (fun w2 r2 x2 k2 => ?_)
      (repeat' (first | (refine at_EL ?_; first | refine eN ?_) | (refine at_K ?_; first | refine K_then ?_ | refine K_then_ret ?_) | (refine at_E ?_; first | refine E_ret ?_)))
      refine ret_c rfl rfl rfl r2.at rfl ⟨x2, _, rfl, ?_⟩
      rw [put_out hr]
      exact (hv0.ext x2).wk fun b h => .inl h
  have hr1 : ¬ r < 1 := fun h => hr (.inl h)
  have hr2 : ¬ 5 < r := fun h => hr (.inr h)
  have c42 := fun w (hv : SlG G w (.slice a xs.length cap) xs) => place_any xs (.slice a xs.length cap) r t w hv.any
  have hpl := placeN_le xs r t
  obtain ⟨n, hn⟩ : ∃ n, n = placeN xs r t := ⟨_, rfl⟩
  rw [← hn] at c42 hpl
  cases hB : placeB xs r t with
  | true =>
    rw [hB] at c42
    obtain ⟨p, hpp, hk⟩ := place_ok hB
    have hput := put_old (id := id) hr1 hr2 hpp hk
    rw [← hn] at hpp hput
    have hlt := (List.getElem?_eq_some_iff.1 hpp).1
    obtain ⟨b, off, rfl⟩ := hp (by omega)
    obtain ⟨css, hA, hcs⟩ := hv0.css
    obtain ⟨cp, hcp, iv, rfl, hiv⟩ := AllAt.get hA hpp
    have hfl := AtsG.flat hA
    have hfl' : css.flatten.length = xs.length * 3 := hfl
    (repeat' (first | refine EL_box rfl rfl rfl rfl (fun bB wB xB hbB rB => ?_) | refine EL_alloc rfl rfl rfl (fun bA wA xA hbA rA => ?_) | refine eV rfl rfl (val_loadA rfl rfl rfl (rB.ext xA).at rfl) ?_ | (refine EL_call rfl rfl (entersF rfl rfl en42) (c42 _ (hv0.ext (xB.trans xA))) (fun vC wC hC => ?_); obtain ⟨rfl, xC⟩ := hC) | refine eV rfl rfl (val_load rfl rfl rfl ((rB.ext (xA.trans xC)).cellAt rfl)) ?_ | refine EL_makeN (m := xs.length) rfl rfl rfl rfl rfl rfl rfl (by omega) (by omega) (fun bM wM cur hbM rM hcl xM => ?_) | refine eV rfl rfl (val_load rfl rfl rfl ((rB.ext (xA.trans (xC.trans xM))).cellAt rfl)) ?_ | (refine at_EL ?_; first | refine eN ?_ | refine eO rfl rfl ?_ | refine eV rfl rfl (zA rfl rfl) ?_ | refine eV rfl rfl (zB rfl rfl) ?_ | (refine at_bin ?_; first | refine eD rfl rfl (zL rfl rfl rfl) (fun hh => ?_) (fun hh => ?_) | refine eD rfl rfl (zO rfl rfl rfl) (fun hh => ?_) (fun hh => ?_)) | (refine at_call ?_; first | refine eV rfl rfl (zK rfl rfl) ?_) | refine eV rfl rfl (zC rfl rfl rfl) ?_ | refine eV rfl rfl (zD rfl rfl rfl) ?_ | refine eV rfl rfl (zF rfl rfl rfl) ?_ | refine eV rfl rfl (zH rfl rfl) ?_) | (refine at_K ?_; first | refine K_then ?_) | (refine at_E ?_; first | refine E_seq ?_ | refine E_region ?_ | refine E_cond_t rfl ?_ | refine E_cond_f rfl ?_ | refine E_skip ?_)))
    all_goals (first | (exfalso; omega) | skip)
    have x0 := xB.trans (xA.trans (xC.trans xM))
    have hge : w.heap.size ≤ bM := by have := (xB.trans (xA.trans xC)).size; omega
    refine EL_copy (cs := css.flatten) (off := 0) rM x0 hge rfl rfl rfl rfl rfl (q := xs.length) (by omega) hfl' (fun h0 => ⟨rfl, by obtain ⟨b, so, e1, _, e2⟩ := hcs h0; exact ⟨b, so, e1, e2.ext x0⟩⟩) (by omega) (by omega) (AtsG.ones hA) (fun w1 r1 x1 k1 => ?_)
    have r1' : Row w1 bM 42 css.flatten := by
      rw [List.take_zero, List.nil_append, List.drop_eq_nil_of_le (by omega), List.append_nil] at r1
      exact r1
    have hat1 : At w1 bM (0 + n * 3) [int p.role, str p.text, iv] := by
      obtain ⟨iv2, h1, h2⟩ := post_elem (row_Sl (cap := xs.length) r1' (AtsG.any (AtsG.ext hA x1)) (Nat.le_refl _) hm) hpp
      have h3 := h1.cellAt (j := 2) rfl
      have h4 := r1'.at.seg (n * 3) (n := 3)
      have he : (css.flatten.drop (n * 3)).take 3 = [int p.role, str p.text, iv] := by
        have hl := AtsG.lens hA
        have h5 := flat_drop2 n hl
        obtain ⟨hq, hq2⟩ := List.getElem?_eq_some_iff.1 hcp
        rw [show n * 3 = n * Rep.sz Post from rfl, ← h5, List.drop_eq_getElem_cons hq, hq2]
        rfl
      rw [he] at h4
      exact h4
    (repeat' (first | refine eV rfl rfl (val_indexAddr (m := n) rfl rfl rfl rfl hlt) ?_ | refine eV rfl rfl (val_load rfl rfl rfl (hat1.cellAt rfl)) ?_ | (refine EL_call rfl rfl (entersF rfl rfl en45) (with_any p.ids id iv _ ((oldS hiv).ext x1) (hids p (List.mem_of_getElem? hpp))) (fun vW wW hW => ?_); obtain ⟨xW, hW⟩ := hW) | (refine at_EL ?_; first | refine eN ?_ | refine eV rfl rfl (zA rfl rfl) ?_ | refine eV rfl rfl (zH rfl rfl) ?_) | (refine at_K ?_; first | refine K_then ?_) | (refine at_E ?_; first | refine E_seq ?_ | refine E_region ?_)))
    have hW0 := hW
    obtain ⟨aW, capW, rfl, _⟩ := hW
    refine EL_storeP (cs := [_]) (r1'.ext xW) (x1.trans xW) hge rfl rfl rfl rfl rfl rfl rfl rfl (by simp only [List.length_singleton]; omega) (fun w2 r2 x2 k2 => ?_)
    rw [set_seg (by omega), show 0 + n * 3 + 2 = n * 3 + 2 by omega, show css.flatten.set (n * 3 + 2) _ = _ from (flat_upd (AtsG.lens hA) hcp (by decide)).symm] at r2
    have hge2 : wM.heap.size ≤ w1.heap.size := by have := k1.size; omega
    have hAM : bA < bM := by have := rA.lt; have := xC.size; omega
    have hmv : ∀ b, Fr (GO G w) w1 b → b < wW.heap.size → Fr (GO G w) w1 b ∧ w2.heap[b]? = wW.heap[b]? := k2.mv (fun b hb he => by
      have := rM.lt
      cases he
      rcases hb with ⟨_, hb⟩ | hb <;> omega)
    have hW2 := hW0.move hmv
    have hA2 : AtsG (Fr (GO G w) w1) w2 (xs.set n ⟨p.role, p.text, withF p.ids id⟩) (css.set n [int p.role, str p.text, _]) := AllAt.set ⟨_, rfl, hW2⟩ n (AtsG.wk (AtsG.ext (oldA hA) x2) fun b h => .inl h)
    have hne : some bA ≠ some bM := fun h => by cases h; omega
    have rA2 : Row w2 bA 24 _ := k2.row ((k1.row (rA.ext (xC.trans xM)) hne).ext xW) hne
    (repeat' (first | refine eV rfl rfl (val_build (vs := [(0, .slice (some ⟨bM, 0, none⟩) xs.length xs.length)]) [.slice (some ⟨bM, 0, none⟩) xs.length xs.length] rfl rfl rfl) ?_ | (refine at_EL ?_; first | refine eN ?_ | refine eV rfl rfl (zA rfl rfl) ?_) | (refine at_K ?_; first | refine K_then ?_) | (refine at_E ?_; first | refine E_seq ?_ | refine E_region ?_)))
    refine EL_storeP (cs := [_]) rA2 x2 (by have := xB.size; omega) rfl rfl rfl rfl rfl rfl rfl rfl (Nat.le_refl _) (fun w3 r3 x3 k3 => ?_)
    (repeat' (first | (refine at_EL ?_; first | refine eN ?_) | (refine at_K ?_; first | refine K_then ?_ | refine K_then_ret ?_) | (refine at_E ?_; first | refine E_ret ?_)))
    refine ret_c rfl rfl rfl r3.at rfl ⟨x3, _, rfl, ?_⟩
    rw [hput]
    have hs := row_SlG (G := Fr G w) (cap := xs.length) (k3.row r2 hne.symm) (AtsG.wk (AtsG.move hA2 (k3.mv (fun b hb he => by
      have := rA.lt; have := xB.size; have := xC.size; have := xM.size
      cases he
      rcases hb with ⟨_, hb⟩ | hb <;> omega))) (fr_of x1.size)) (.inr hge) (by simp) (by simp; omega)
    rw [List.length_set] at hs
    exact hs
  | false =>
    rw [hB] at c42
    have hput := put_new (id := id) hr1 hr2 hB
    rw [← hn] at hput
    obtain ⟨css1, hA1, hcs1⟩ := (hv0.take hpl).css
    obtain ⟨css2, hA2, hcs2⟩ := (hv0.drop hpl).css
    have hf1 : css1.flatten.length = n * 3 := by rw [AtsG.flat hA1, List.length_take, Nat.min_eq_left hpl]; rfl
    have hf2 : css2.flatten.length = (xs.length - n) * 3 := by rw [AtsG.flat hA2, List.length_drop]; rfl
    (repeat' (first | refine EL_box rfl rfl rfl rfl (fun bB wB xB hbB rB => ?_) | refine EL_alloc rfl rfl rfl (fun bA wA xA hbA rA => ?_) | refine eV rfl rfl (val_loadA rfl rfl rfl (rB.ext xA).at rfl) ?_ | (refine EL_call rfl rfl (entersF rfl rfl en42) (c42 _ (hv0.ext (xB.trans xA))) (fun vC wC hC => ?_); obtain ⟨rfl, xC⟩ := hC) | refine eV rfl rfl (val_load rfl rfl rfl ((rB.ext (xA.trans xC)).cellAt rfl)) ?_ | refine EL_makeN (m := xs.length + 1) rfl rfl rfl rfl rfl (by omega) (by omega) (by omega) (by omega) (fun bM wM cur hbM rM hcl xM => ?_) | refine eV rfl rfl (val_load rfl rfl rfl ((rB.ext (xA.trans (xC.trans xM))).cellAt rfl)) ?_ | refine eV rfl rfl (val_slice_h (b := n) rfl rfl rfl rfl (by omega)) ?_ | (refine at_EL ?_; first | refine eN ?_ | refine eO rfl rfl ?_ | refine eV rfl rfl (zA rfl rfl) ?_ | refine eV rfl rfl (zB rfl rfl) ?_ | (refine at_bin ?_; first | refine eD rfl rfl (zL rfl rfl rfl) (fun hh => ?_) (fun hh => ?_) | refine eD rfl rfl (zO rfl rfl rfl) (fun hh => ?_) (fun hh => ?_) | refine eV rfl rfl (zU rfl rfl rfl (by omega) (by omega)) ?_) | (refine at_call ?_; first | refine eV rfl rfl (zK rfl rfl) ?_) | refine eV rfl rfl (zC rfl rfl rfl) ?_ | refine eV rfl rfl (zD rfl rfl rfl) ?_ | refine eV rfl rfl (zF rfl rfl rfl) ?_ | refine eV rfl rfl (zH rfl rfl) ?_) | (refine at_K ?_; first | refine K_then ?_) | (refine at_E ?_; first | refine E_seq ?_ | refine E_region ?_ | refine E_cond_t rfl ?_ | refine E_cond_f rfl ?_ | refine E_skip ?_)))
    all_goals (first | (exfalso; omega) | skip)
    have x0 := xB.trans (xA.trans (xC.trans xM))
    have hge : w.heap.size ≤ bM := by have := (xB.trans (xA.trans xC)).size; omega
    have hAM : bA < bM := by have := rA.lt; have := xC.size; omega
    have hne : some bA ≠ some bM := fun h => by cases h; omega
    have hBM : bB < bM := by have := rB.lt; have := xA.size; have := xC.size; omega
    have hneB : some bB ≠ some bM := fun h => by cases h; omega
    refine EL_copy (cs := css1.flatten) (off := 0) rM x0 hge rfl rfl rfl rfl rfl (q := n) (by omega) hf1 (fun h0 => ⟨rfl, by obtain ⟨b, so, e1, _, e2⟩ := hcs1 h0; exact ⟨b, so, e1, e2.ext x0⟩⟩) (by omega) (by omega) (AtsG.ones hA1) (fun w1 r1 x1 k1 => ?_)
    have rB1 := k1.row (rB.ext (xA.trans (xC.trans xM))) hneB
    have rA1 := k1.row (rA.ext (xC.trans xM)) hne
    (repeat' (first | refine eV rfl rfl (val_build (vs := [(0, int r), (1, str t), (2, .slice (some ⟨bS, 0, none⟩) 1 1)]) [int r, str t, .slice (some ⟨bS, 0, none⟩) 1 1] rfl rfl rfl) ?_ | refine eV rfl rfl (val_indexAddr (m := n) rfl rfl rfl rfl (by omega)) ?_ | (refine at_EL ?_; first | refine eN ?_ | refine eV rfl rfl (zA rfl rfl) ?_ | refine eL rfl rfl rfl rfl rfl rfl rfl rfl (fun bS wS xS hbS rS => ?_)) | (refine at_K ?_; first | refine K_then ?_) | (refine at_E ?_; first | refine E_seq ?_ | refine E_region ?_)))
    refine EL_storeP (cs := [_, _, _]) (r1.ext xS) (x1.trans xS) hge rfl rfl rfl rfl rfl rfl rfl rfl (by simp; omega) (fun w2 r2 x2 k2 => ?_)
    have rB2 := k2.row (rB1.ext xS) hneB
    have rA2 := k2.row (rA1.ext xS) hne
    (repeat' (first | refine yV rfl rfl (fun wq _ xq => val_load rfl rfl rfl ((rB2.ext xq).cellAt rfl)) ?_ | refine yV rfl rfl (fun _ _ _ => val_slice_l (b := n + 1) rfl rfl rfl (by omega) (by omega)) ?_ | refine yV rfl rfl (fun _ _ _ => val_slice_l (b := n) rfl rfl rfl rfl (by omega)) ?_ | (refine at_EL ?_; first | refine eN ?_) | (refine at_K ?_; first | refine K_then ?_) | (refine at_E ?_; first | refine E_seq ?_ | refine E_dq mixedOk (by kernel_rfl) rfl ?_) | (refine at_RQ ?_; first | refine yN rfl (fun wq xq => ?_) | refine yV rfl rfl (fun _ _ _ => zA rfl rfl) ?_ | (refine at_binR ?_; first | refine yV rfl rfl (fun _ _ _ => zU rfl rfl rfl (by omega) (by omega)) ?_) | refine yV rfl rfl (fun _ _ _ => zH rfl rfl) ?_)))
    refine EL_copy (cs := css2.flatten) (off := (n + 1) * 3) (r2.ext xq) (x2.trans xq) hge rfl rfl rfl rfl rfl (q := xs.length - n) (by omega) hf2 (fun h0 => ⟨?_, by obtain ⟨b, so, e1, _, e2⟩ := hcs2 h0; exact ⟨b, so, e1, e2.ext (x2.trans xq)⟩⟩) (by omega) (by first | omega | (simp only [List.length_append, List.length_take, List.length_drop, List.length_cons, List.length_nil, List.length_set]; omega)) (AtsG.ones hA2) (fun w3 r3 x3 k3 => ?_)
    · rw [if_neg (by omega), Option.map_some, addr_add, Nat.zero_add]
    have rA3 := k3.row (rA2.ext xq) hne
    (repeat' (first | refine eV rfl rfl (val_build (vs := [(0, .slice (some ⟨bM, 0, none⟩) (xs.length + 1) (xs.length + 1))]) [.slice (some ⟨bM, 0, none⟩) (xs.length + 1) (xs.length + 1)] rfl rfl rfl) ?_ | (refine at_EL ?_; first | refine eN ?_ | refine eV rfl rfl (zA rfl rfl) ?_) | (refine at_K ?_; first | refine K_then ?_) | (refine at_E ?_; first | refine E_seq ?_ | refine E_region ?_)))
    refine EL_storeP (cs := [_]) rA3 x3 (by have := xB.size; omega) rfl rfl rfl rfl rfl rfl rfl rfl (Nat.le_refl _) (fun w4 r4 x4 k4 => ?_)
    (repeat' (first | (refine at_EL ?_; first | refine eN ?_) | (refine at_K ?_; first | refine K_then ?_) | (refine at_E ?_; first | refine E_ret ?_)))
    refine ret_c rfl rfl rfl r4.at rfl ⟨x4, _, rfl, ?_⟩
    rw [hput]
    rw [show 0 + n * 3 = n * 3 by omega, ins3 hf1 (by first | omega | (simp only [List.length_append, List.length_take, List.length_drop, List.length_cons, List.length_nil, List.length_set]; omega)) (by first | omega | (simp only [List.length_append, List.length_take, List.length_drop, List.length_cons, List.length_nil, List.length_set]; omega))] at r3
    have hbS1 : w1.heap.size ≤ bS := by omega
    have rS4 : Row w4 bS 3 [int id] := k4.row (k3.row ((k2.row rS (fun h => by cases h; have := rM.lt; have := k1.size; omega)).ext xq) (fun h => by cases h; have := rM.lt; have := k1.size; omega)) (fun h => by cases h; have := rM.lt; have := k1.size; omega)
    have hs := row_SlG (G := Fr G w) (xs := xs.take n ++ ⟨r, t, [id]⟩ :: xs.drop n) (css := css1 ++ [int r, str t, .slice (some ⟨bS, 0, none⟩) 1 1] :: css2) (cap := xs.length + 1) (k4.row (by simpa using r3) hne.symm)
      (AllAt.append (AtsG.wk (AtsG.ext hA1 x4) fun b h => .inl h) ⟨⟨_, rfl, row_SlG (xs := [id]) (css := [[int id]]) rS4 ⟨rfl, trivial⟩ (.inr (by have := x1.size; omega)) (Nat.le_refl _) (by simp)⟩, AtsG.wk (AtsG.ext hA2 x4) fun b h => .inl h⟩) (.inr hge) (by simp; omega) (by simp; omega)
    rwa [show (xs.take n ++ ⟨r, t, [id]⟩ :: xs.drop n).length = xs.length + 1 by simp; omega] at hs
end Go.Proofs.YtjpjpgeeeigbkaaDoor
