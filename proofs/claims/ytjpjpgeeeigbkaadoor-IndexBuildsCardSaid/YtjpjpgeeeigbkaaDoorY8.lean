/-
  Walks: num's Minus, the reference's with. Walk: the reference's with. Walks: the reference's Put and Take.
-/
import Derived.Test.YtjpjpgeeeigbkaaDoorWo
import Derived.Test.YtjpjpgeeeigbkaaDoorWg
set_option linter.all false
namespace Go.Proofs.YtjpjpgeeeigbkaaDoor
open Go.RowKit Go.En
def mstep (b : List Int) : List Int → Int → List Int := fun acc z => if z ∈ b then acc else nputF acc z
theorem minus_len (b : List Int) : ∀ (l acc : List Int), (l.foldl (mstep b) acc).length ≤ acc.length + l.length
  | [], acc => by simp
  | z :: l, acc => by
    have h1 := minus_len b l (mstep b acc z)
    have h2 := nput_len acc z
    have h3 : (mstep b acc z).length ≤ acc.length + 1 := by unfold mstep; split <;> omega
    simp only [List.foldl_cons, List.length_cons]
    omega
theorem minus_take {b l acc : List Int} {i : Nat} {z : Int} (h : l[i]? = some z) : (l.take (i + 1)).foldl (mstep b) acc = mstep b ((l.take i).foldl (mstep b) acc) z := by
  obtain ⟨hi, rfl⟩ := List.getElem?_eq_some_iff.1 h
  rw [List.take_succ_eq_append_getElem hi, List.foldl_append]; rfl
attribute [local irreducible] E EL K Val Enters Rt Calls bodyPost Code.wp RQ
theorem minus_any (l m : List Int) (v v' : Value) (w : World) (hv : Sl w v l) (hv' : Sl w v' m) (hlen : l.length ≤ 1099511627776) : Calls Tryd.prog 48 #[v, v'] w (Rt fun u w' => Ext w w' ∧ Sl w' u (minusF l m)) := by
  refine calls_E (n := 27) (args := [v, v']) Tryd.func48 rfl Tryd.ntmps48 (by simp) ?_
  have hv0 := hv
  obtain ⟨a, cap, rfl, hc, hm, hp⟩ := hv.sl
  (repeat' (first | (refine at_EL ?_; first | refine eN ?_ | refine eV rfl rfl (zA rfl rfl) ?_ | refine eV rfl rfl (zB rfl rfl) ?_ | (refine at_call ?_; first | refine eV rfl rfl (zK rfl rfl) ?_)) | (refine at_K ?_; first | refine K_then ?_) | (refine at_E ?_; first | refine E_seq ?_ | refine E_region ?_ | refine E_block ?_)))
  refine E_loop (ι := Nat × Value) (fun x => [(0, .slice a l.length cap), (1, v'), (5, x.2), (8, int l.length), (9, int x.1)])
    (fun x wr => x.1 ≤ l.length ∧ Ext w wr ∧ Sl wr x.2 ((l.take x.1).foldl (mstep m) [])) (fun x => l.length - x.1) (0, .slice none 0 0)
    ⟨rfl, rfl, rfl, rfl, rfl, trivial⟩ ⟨Nat.zero_le _, Ext.refl _, SlG.nil⟩ ?_
  rintro ⟨i, vO⟩ wr ⟨hi, hx, hs⟩
  dsimp only at hi hx hs ⊢
  have hvr := hv0.ext hx
  have hfl := minus_len m (l.take i) []
  rw [List.length_take] at hfl
  simp only [List.length_nil] at hfl
  by_cases hlt : i < l.length
  · obtain ⟨b, off, rfl⟩ := hp (by omega)
    obtain ⟨z, hz⟩ : ∃ z, l[i]? = some z := ⟨_, List.getElem?_eq_getElem hlt⟩
    have hcell := int_elem hvr hz
    have c35 := has_any m z v' wr (hv'.ext hx)
    have hst := minus_take (b := m) (acc := []) hz
    by_cases hmem : z ∈ m
    · rw [decide_eq_true hmem] at c35
      have e : mstep m ((l.take i).foldl (mstep m) []) z = (l.take i).foldl (mstep m) [] := if_pos hmem
      rw [e] at hst
      (repeat' (first | refine eV rfl rfl (val_indexAddr (m := i) rfl rfl rfl rfl hlt) ?_ | refine eV rfl rfl (val_load rfl rfl rfl hcell) ?_ | (refine EL_call rfl rfl (entersF rfl rfl en35) c35 (fun vC wC hC => ?_); obtain ⟨rfl, xC⟩ := hC) | (refine at_EL ?_; first | refine eN ?_ | refine eV rfl rfl (zA rfl rfl) ?_ | refine eV rfl rfl (zB rfl rfl) ?_ | (refine at_bin ?_; first | refine eD rfl rfl (zL rfl rfl rfl) (fun hh => ?_) (fun hh => ?_) | refine eV rfl rfl (zU rfl rfl rfl (by omega) (by omega)) ?_) | refine eV rfl rfl (zE rfl rfl) ?_) | (refine at_K ?_; first | refine K_then ?_ | refine K_in ?_ | refine K_then_exit ?_ | refine K_in_exit ?_) | (refine at_E ?_; first | refine E_seq ?_ | refine E_region ?_ | refine E_cond_t rfl ?_ | refine E_cond_f rfl ?_ | refine E_block ?_ | refine E_skip ?_ | refine E_ret ?_ | refine E_exit ?_)))
      all_goals (first | (exfalso; omega) | skip)
      exact K_rnd (i + 1, vO) ⟨rfl, rfl, rfl, rfl, rfl, trivial⟩ ⟨by dsimp only; omega, hx.trans xC, by dsimp only; rw [hst]; exact hs.ext xC⟩ (by dsimp only; omega)
    · rw [decide_eq_false hmem] at c35
      have e : mstep m ((l.take i).foldl (mstep m) []) z = nputF ((l.take i).foldl (mstep m) []) z := if_neg hmem
      rw [e] at hst
      (repeat' (first | refine eV rfl rfl (val_indexAddr (m := i) rfl rfl rfl rfl hlt) ?_ | refine eV rfl rfl (val_load rfl rfl rfl hcell) ?_ | (refine EL_call rfl rfl (entersF rfl rfl en35) c35 (fun vC wC hC => ?_); obtain ⟨rfl, xC⟩ := hC; have hcell2 := xC.cell hcell) | refine eV rfl rfl (val_load rfl rfl rfl hcell2) ?_ | (refine EL_call rfl rfl (entersF rfl rfl en58) (nput_any _ z vO _ (hs.ext xC) (by omega)) (fun vD wD hD => ?_); obtain ⟨xD, hD⟩ := hD) | (refine at_EL ?_; first | refine eN ?_ | refine eV rfl rfl (zA rfl rfl) ?_ | refine eV rfl rfl (zB rfl rfl) ?_ | (refine at_bin ?_; first | refine eD rfl rfl (zL rfl rfl rfl) (fun hh => ?_) (fun hh => ?_) | refine eV rfl rfl (zU rfl rfl rfl (by omega) (by omega)) ?_) | refine eV rfl rfl (zE rfl rfl) ?_) | (refine at_K ?_; first | refine K_then ?_ | refine K_in ?_ | refine K_then_exit ?_ | refine K_in_exit ?_) | (refine at_E ?_; first | refine E_seq ?_ | refine E_region ?_ | refine E_cond_t rfl ?_ | refine E_cond_f rfl ?_ | refine E_block ?_ | refine E_skip ?_ | refine E_ret ?_ | refine E_exit ?_)))
      all_goals (first | (exfalso; omega) | skip)
      exact K_rnd (i + 1, vD) ⟨rfl, rfl, rfl, rfl, rfl, trivial⟩ ⟨by dsimp only; omega, hx.trans (xC.trans xD), by dsimp only; rw [hst]; exact hD⟩ (by dsimp only; omega)
  · obtain rfl : i = l.length := by omega
    rw [List.take_length] at hs
    (repeat' (first | (refine at_EL ?_; first | refine eN ?_ | refine eV rfl rfl (zA rfl rfl) ?_ | refine eV rfl rfl (zB rfl rfl) ?_ | (refine at_bin ?_; first | refine eD rfl rfl (zL rfl rfl rfl) (fun hh => ?_) (fun hh => ?_))) | (refine at_K ?_; first | refine K_then ?_ | refine K_then_exit ?_ | refine K_in_exit ?_) | (refine at_E ?_; first | refine E_seq ?_ | refine E_region ?_ | refine E_cond_t rfl ?_ | refine E_cond_f rfl ?_ | refine E_block ?_ | refine E_skip ?_ | refine E_ret ?_ | refine E_exit ?_)))
    all_goals (first | (exfalso; omega) | skip)
    exact ret_1 rfl rfl ⟨hx, hs⟩
/-- the reference's with, a step -/
theorem rw_step {xs : List Post} {p q : Post} {i : Nat} (h : xs[i]? = some q) (out : List Post) (done : Bool) :
    rwGo p (xs.drop i) out done = rwGo p (xs.drop (i + 1)) (if q.role ≠ p.role ∨ q.text ≠ p.text then (if !done && decide (ltK p.role p.text q.role q.text) then out ++ [p] else out) ++ [q] else (if !done && decide (ltK p.role p.text q.role q.text) then out ++ [p] else out)) (done || decide (ltK p.role p.text q.role q.text)) := by
  obtain ⟨hi, rfl⟩ := List.getElem?_eq_some_iff.1 h
  conv => lhs; rw [List.drop_eq_getElem_cons hi]
  rfl
end Go.Proofs.YtjpjpgeeeigbkaaDoor
namespace Go.Proofs.YtjpjpgeeeigbkaaDoor
open Go.RowKit Go.En
attribute [local irreducible] E EL K Val Enters Rt Calls bodyPost Code.wp RQ
set_option maxHeartbeats 4000000 in
theorem rwith_any (xs : List Post) (p : Post) (s pv : Value) (w : World) (hv : Sl w s xs) (hpv : Sl w pv p.ids) (hlen : xs.length ≤ 1099511627) :
    Calls Tryd.prog 47 #[.agg #[s], .agg #[int p.role, str p.text, pv]] w (Rt fun u w' => Ext w w' ∧ Ix w' u (rwithF xs p)) := by
  refine calls_E (n := 61) (args := [.agg #[s], .agg #[int p.role, str p.text, pv]]) Tryd.func47 rfl Tryd.ntmps47 (by simp) ?_
  have hv0 := hv
  obtain ⟨a, cap, rfl, hc, hm, hp⟩ := hv.sl
  have hpv0 := hpv
  obtain ⟨ap, capp, rfl, hcp, hmp, hpp⟩ := hpv.sl
  refine E_seq ?_
  refine E_region ?_
  refine EL_box rfl rfl rfl rfl (fun bB wB xB hbB rB0 => ?_)
  refine EL_box rfl rfl rfl rfl (fun bP wP0 xP0 hbP rP0 => ?_)
  refine EL_alloc rfl rfl rfl (fun bA wA xA hbA rA0 => ?_)
  have rB := rB0.ext (xP0.trans xA)
  have rP := rP0.ext xA
  have x0 := xB.trans (xP0.trans xA)
  have hBA : bA < wA.heap.size := rA0.lt
  have hwB : w.heap.size ≤ bA := by have := xB.size; have := xP0.size; omega
  obtain ⟨d0, hd0⟩ : ∃ d0, d0 = decide (p.ids = []) := ⟨_, rfl⟩
  refine EL_nil ?_
  refine K_then ?_
  refine E_seq ?_
  refine E_region ?_
  refine eL rfl rfl rfl rfl rfl rfl rfl rfl (fun bS wS xS hbS rS => ?_)
  have rPS := rP.ext xS
  (repeat' (first | refine eV rfl rfl (val_load rfl rfl rfl (rPS.cellAt rfl)) ?_ | (refine at_EL ?_; first | refine eN ?_ | refine eV rfl rfl (zB rfl rfl) ?_ | (refine at_bin ?_; first | refine eD rfl rfl (zM rfl rfl rfl) (fun hh => ?_) (fun hh => ?_)) | (refine at_call ?_; first | refine eV rfl rfl (zK rfl rfl) ?_) | refine eV rfl rfl (zH rfl rfl) ?_) | (refine at_K ?_; first | refine K_then ?_) | (refine at_E ?_; first | refine E_seq ?_ | refine E_region ?_ | refine E_block ?_)))
  all_goals
    refine E_loop (ι := Nat × Value × Bool) (fun x => [(2, .pointer (some ⟨bB, 0, none⟩)), (3, .pointer (some ⟨bP, 0, none⟩)), (4, .pointer (some ⟨bA, 0, none⟩)), (5, x.2.1), (6, .bool x.2.2), (7, int x.1)])
      (fun x wr => x.1 ≤ xs.length ∧ Ext wA wr ∧ ∃ ys css, rwGo p (xs.drop x.1) ys x.2.2 = rwGo p xs [] d0 ∧ Ats w ys css ∧ wr.ownsRow wA.heap.size 42 3 x.2.1 ys.length css.flatten ∧ ys.length ≤ 2 * x.1) (fun x => xs.length - x.1) (0, _, d0)
      ⟨rfl, rfl, rfl, rfl, by first | (rw [hd0, decide_eq_true (List.length_eq_zero_iff.1 (by omega))]; rfl) | (rw [hd0, decide_eq_false (fun e => absurd (show p.ids.length = 0 by rw [e]; rfl) (by omega))]; rfl), rfl, trivial⟩ ⟨Nat.zero_le _, xS, [], [], rfl, trivial, own_row (n := 0) (size := 3) rS rfl (by omega) (by omega), by simp⟩ ?_
    rintro ⟨i, vO, dn⟩ wr ⟨hi, hx, ys, css, heq, hA, hown, hyl⟩
    dsimp only at hi hx heq hA hown hyl ⊢
    have rBr := rB.ext hx
    have rPr := rP.ext hx
    have x0r := x0.trans hx
    by_cases hlt : i < xs.length
    · obtain ⟨b, off, rfl⟩ := hp (by omega)
      obtain ⟨q, hqq⟩ : ∃ q, xs[i]? = some q := ⟨_, List.getElem?_eq_getElem hlt⟩
      obtain ⟨ivq, hatq0, hivq⟩ := post_elem hv0 hqq
      have hatq := hatq0.ext x0r
      have hivq0 := hivq
      obtain ⟨aq, capq, rfl, _⟩ := hivq.sl
      rw [rw_step hqq] at heq
      (repeat' (first | refine eV rfl rfl (val_load rfl rfl rfl (rBr.cellAt rfl)) ?_ | refine eV rfl rfl (val_indexAddr (m := i) rfl rfl rfl rfl (by omega)) ?_ | refine eV rfl rfl (val_loadA rfl rfl rfl hatq rfl) ?_ | (refine at_EL ?_; first | refine eN ?_ | refine eV rfl rfl (zA rfl rfl) ?_ | (refine at_bin ?_; first | refine eD rfl rfl (zL rfl rfl rfl) (fun hh => ?_) (fun hh => ?_)) | (refine at_call ?_; first | refine eV rfl rfl (zK rfl rfl) ?_) | refine eV rfl rfl (zE rfl rfl) ?_ | refine eV rfl rfl (zH rfl rfl) ?_) | (refine at_K ?_; first | refine K_then ?_ | refine K_then_exit ?_ | refine K_in_exit ?_) | (refine at_E ?_; first | refine E_seq ?_ | refine E_region ?_ | refine E_cond_t rfl ?_ | refine E_cond_f rfl ?_ | refine E_block ?_ | refine E_skip ?_ | refine E_exit ?_)))
      all_goals (first | (exfalso; omega) | skip)
      refine EL_alloc rfl rfl rfl (fun b8 w5 x5 hb8 r8 => ?_)
      refine EL_storeP (cs := [int q.role, str q.text, .slice aq q.ids.length capq]) r8 x5 (by omega) rfl rfl rfl rfl rfl rfl rfl rfl (Nat.le_refl _) (fun w6 R8 x6 k6 => ?_)
      have r86 : Row w6 b8 42 [int q.role, str q.text, .slice aq q.ids.length capq] := R8
      clear R8
      have rP6 := rPr.ext x6
      have cl := less_any p q (.slice ap p.ids.length capp) (.slice aq q.ids.length capq)
      by_cases hcase : dn = false ∧ ltK p.role p.text q.role q.text
      · obtain ⟨rfl, hl⟩ := hcase
        have hk : q.role ≠ p.role ∨ q.text ≠ p.text := by
          by_cases h1 : q.role = p.role
          · refine .inr fun h2 => ?_
            rw [h1, h2] at hl; exact ltK_irrefl hl
          · exact .inl h1
        rw [decide_eq_true hl] at cl
        simp only [decide_eq_true hl, Bool.not_false, Bool.true_and, if_true, Bool.false_or, if_pos hk] at heq
        have hown2 : ∀ b', vO.ownBlock = some b' → b' < wr.heap.size := fun b' h => (hown.lt b' h).2
        (repeat' (first | refine eV rfl rfl (val_loadA rfl rfl rfl rP6.at rfl) ?_ | refine eV rfl rfl (val_loadA rfl rfl rfl r86.at rfl) ?_ | (refine EL_call rfl rfl (entersF rfl rfl en40) (cl _) (fun vC wC hC => ?_); obtain ⟨rfl, xC⟩ := hC; have rPC := rP6.ext xC; have r8C := r86.ext xC) | refine eV rfl rfl (val_loadA rfl rfl rfl rPC.at rfl) ?_ | (refine EL_appO (news := [int p.role, str p.text, .slice ap p.ids.length capp]) (own_ext hown (x6.trans (xC.trans xS))) (hx.trans (x6.trans (xC.trans xS))) (fun _ => ⟨_, _, rfl, rS.at⟩) rfl rfl rfl rfl rfl rfl rfl rfl rfl (by omega) (by omega) (fun vP wP oP xP kP hP => ?_); have r8P := kP.row (r8C.ext xS) (fun e => by have := hown2 b8 e.symm; omega); have rPP := rP.ext xP) | refine eV rfl rfl (val_load rfl rfl rfl (r8P.cellAt rfl)) ?_ | refine eV rfl rfl (val_load rfl rfl rfl (rPP.cellAt rfl)) ?_ | refine eV rfl rfl (val_loadA rfl rfl rfl r8P.at rfl) ?_ | (refine EL_appO (news := [int q.role, str q.text, .slice aq q.ids.length capq]) (own_ext oP xS) (xP.trans xS) (fun _ => ⟨_, _, rfl, rS.at⟩) rfl rfl rfl rfl rfl rfl rfl rfl rfl (by omega) (by omega) (fun vQ wQ oQ xQ kQ hQ => ?_)) | (refine at_EL ?_; first | refine eN ?_ | refine eO rfl rfl ?_ | refine eV rfl rfl (zA rfl rfl) ?_ | refine eV rfl rfl (zB rfl rfl) ?_ | (refine at_bin ?_; first | refine eD rfl rfl (zQ rfl rfl rfl) (fun hh => ?_) (fun hh => ?_) | refine eD rfl rfl (zS rfl rfl rfl) (fun hh => ?_) (fun hh => ?_) | refine eV rfl rfl (zU rfl rfl rfl (by omega) (by omega)) ?_) | refine eV rfl rfl (zC rfl rfl rfl) ?_ | refine eV rfl rfl (zD rfl rfl rfl) ?_ | refine eV rfl rfl (zE rfl rfl) ?_ | refine eV rfl rfl (zH rfl rfl) ?_ | refine eL rfl rfl rfl rfl rfl rfl rfl rfl (fun bS wS xS hbS rS => ?_)) | (refine at_K ?_; first | refine K_then ?_ | refine K_in ?_) | (refine at_E ?_; first | refine E_seq ?_ | refine E_region ?_ | refine E_cond_t rfl ?_ | refine E_cond_f rfl ?_ | refine E_skip ?_)))
        all_goals (first | (exfalso; omega) | (exact absurd ‹q.role = p.role› (hk.resolve_right (fun h => h ‹q.text = p.text›))) | skip)
        all_goals
          first
          | (refine K_rnd (i + 1, vQ, true) ⟨rfl, rfl, rfl, rfl, rfl, rfl, trivial⟩ ⟨by dsimp only; omega, xQ, ys ++ [p] ++ [q], css ++ [[int p.role, str p.text, .slice ap p.ids.length capp]] ++ [[int q.role, str q.text, .slice aq q.ids.length capq]], heq, AllAt.append (AllAt.append hA (AllAt.one ⟨_, rfl, hpv0⟩)) (AllAt.one ⟨_, rfl, hivq0⟩), ?_, by simp; omega⟩ (by dsimp only; omega); simpa [Value.cells] using oQ)
          | (exfalso; exact hk.elim (fun h => h (Classical.not_not.1 ‹_›)) (fun h => h (Classical.not_not.1 ‹_›)))
      · have hcf : (!dn && decide (ltK p.role p.text q.role q.text)) = false := by
          cases dn
          · simpa using hcase
          · rfl
        have hcd : (dn || decide (ltK p.role p.text q.role q.text)) = dn := by
          cases dn
          · simpa using hcase
          · rfl
        rw [hcf, hcd] at heq
        simp only [Bool.false_eq_true, if_false] at heq
        cases dn
        all_goals
          first | rw [decide_eq_false (fun h => hcase ⟨rfl, h⟩)] at cl | skip
          (repeat' (first | refine eV rfl rfl (val_loadA rfl rfl rfl rP6.at rfl) ?_ | refine eV rfl rfl (val_loadA rfl rfl rfl r86.at rfl) ?_ | (refine EL_call rfl rfl (entersF rfl rfl en40) (cl _) (fun vC wC hC => ?_); obtain ⟨rfl, xC⟩ := hC; replace x6 := x6.trans xC; replace rP6 := rP6.ext xC; replace r86 := r86.ext xC) | refine eV rfl rfl (val_load rfl rfl rfl (r86.cellAt rfl)) ?_ | refine eV rfl rfl (val_load rfl rfl rfl (rP6.cellAt rfl)) ?_ | (refine EL_appO (news := [int q.role, str q.text, .slice aq q.ids.length capq]) (own_ext hown (x6.trans xS)) (hx.trans (x6.trans xS)) (fun _ => ⟨_, _, rfl, rS.at⟩) rfl rfl rfl rfl rfl rfl rfl rfl rfl (by omega) (by omega) (fun vQ wQ oQ xQ kQ hQ => ?_)) | (refine at_EL ?_; first | refine eN ?_ | refine eO rfl rfl ?_ | refine eV rfl rfl (zA rfl rfl) ?_ | refine eV rfl rfl (zB rfl rfl) ?_ | (refine at_bin ?_; first | refine eD rfl rfl (zQ rfl rfl rfl) (fun hh => ?_) (fun hh => ?_) | refine eD rfl rfl (zS rfl rfl rfl) (fun hh => ?_) (fun hh => ?_) | refine eV rfl rfl (zU rfl rfl rfl (by omega) (by omega)) ?_) | refine eV rfl rfl (zC rfl rfl rfl) ?_ | refine eV rfl rfl (zD rfl rfl rfl) ?_ | refine eV rfl rfl (zE rfl rfl) ?_ | refine eV rfl rfl (zH rfl rfl) ?_ | refine eL rfl rfl rfl rfl rfl rfl rfl rfl (fun bS wS xS hbS rS => ?_)) | (refine at_K ?_; first | refine K_then ?_ | refine K_in ?_) | (refine at_E ?_; first | refine E_seq ?_ | refine E_region ?_ | refine E_cond_t rfl ?_ | refine E_cond_f rfl ?_ | refine E_skip ?_)))
          all_goals (first | (exfalso; omega) | skip)
          all_goals
            first
            | (rw [if_pos (by first | exact Or.inl ‹_› | exact Or.inr ‹_›)] at heq
               refine K_rnd (i + 1, vQ, _) ⟨rfl, rfl, rfl, rfl, rfl, rfl, trivial⟩ ⟨by dsimp only; omega, xQ, ys ++ [q], css ++ [[int q.role, str q.text, .slice aq q.ids.length capq]], heq, AllAt.append hA (AllAt.one ⟨_, rfl, hivq0⟩), ?_, by simp; omega⟩ (by dsimp only; omega)
               simpa [Value.cells] using oQ)
            | (rw [if_neg (by rintro (h | h) <;> exact h (Classical.not_not.1 ‹_›))] at heq
               exact K_rnd (i + 1, vO, _) ⟨rfl, rfl, rfl, rfl, rfl, rfl, trivial⟩ ⟨by dsimp only; omega, hx.trans x6, ys, css, heq, hA, own_ext hown x6, by omega⟩ (by dsimp only; omega))
    · have hdr : xs.drop i = [] := List.drop_eq_nil_of_le (by omega)
      rw [hdr] at heq
      have hres : rwithF xs p = if dn then ys else ys ++ [p] := by
        unfold rwithF
        rw [← hd0, ← heq]; rfl
      cases dn with
      | true =>
        have hS : SlG (fun b => b ≠ bA) wr vO ys := own_SlG (css := css) hown (AtsG.wk (AtsG.ext (AtsG.old hA) x0r) fun b h e => by subst e; omega) (fun b hb => by omega) rfl (by omega)
        have hS0 := hS
        obtain ⟨aO, capO, rfl, _⟩ := hS.sl
        (repeat' (first | refine eV rfl rfl (val_load rfl rfl rfl (rBr.cellAt rfl)) ?_ | refine eV rfl rfl (val_build (vs := [(0, .slice aO ys.length capO)]) [.slice aO ys.length capO] rfl rfl rfl) ?_ | (refine at_EL ?_; first | refine eN ?_ | refine eV rfl rfl (zA rfl rfl) ?_ | (refine at_bin ?_; first | refine eD rfl rfl (zL rfl rfl rfl) (fun hh => ?_) (fun hh => ?_)) | (refine at_call ?_; first | refine eV rfl rfl (zK rfl rfl) ?_) | refine eV rfl rfl (zE rfl rfl) ?_ | refine eV rfl rfl (zH rfl rfl) ?_) | (refine at_K ?_; first | refine K_then ?_ | refine K_then_exit ?_ | refine K_in_exit ?_) | (refine at_E ?_; first | refine E_seq ?_ | refine E_region ?_ | refine E_cond_t rfl ?_ | refine E_cond_f rfl ?_ | refine E_block ?_ | refine E_skip ?_ | refine E_exit ?_)))
        all_goals (first | (exfalso; omega) | skip)
        refine EL_storeP (cs := [_]) (rA0.ext hx) x0r hwB rfl rfl rfl rfl rfl rfl rfl rfl (Nat.le_refl _) (fun w9 r9 x9 k9 => ?_)
        (repeat' (first | (refine at_EL ?_; first | refine eN ?_) | (refine at_K ?_; first | refine K_then ?_) | (refine at_E ?_; first | refine E_ret ?_)))
        refine ret_c rfl rfl rfl r9.at rfl ⟨x9, _, rfl, ?_⟩
        rw [hres]
        exact (hS0.move (k9.mv fun b hb e => by cases e; exact hb rfl)).any
      | false =>
        (repeat' (first | refine eV rfl rfl (val_load rfl rfl rfl (rBr.cellAt rfl)) ?_ | refine eV rfl rfl (val_loadA rfl rfl rfl rPr.at rfl) ?_ | (refine EL_appO (news := [int p.role, str p.text, .slice ap p.ids.length capp]) (own_ext hown xS) (hx.trans xS) (fun _ => ⟨_, _, rfl, rS.at⟩) rfl rfl rfl rfl rfl rfl rfl rfl rfl (by omega) (by omega) (fun vP wP oP xP kP hP => ?_)) | (refine at_EL ?_; first | refine eN ?_ | refine eV rfl rfl (zA rfl rfl) ?_ | refine eV rfl rfl (zB rfl rfl) ?_ | (refine at_bin ?_; first | refine eD rfl rfl (zL rfl rfl rfl) (fun hh => ?_) (fun hh => ?_)) | (refine at_call ?_; first | refine eV rfl rfl (zK rfl rfl) ?_) | refine eV rfl rfl (zE rfl rfl) ?_ | refine eV rfl rfl (zH rfl rfl) ?_ | refine eL rfl rfl rfl rfl rfl rfl rfl rfl (fun bS wS xS hbS rS => ?_)) | (refine at_K ?_; first | refine K_then ?_ | refine K_then_exit ?_ | refine K_in_exit ?_) | (refine at_E ?_; first | refine E_seq ?_ | refine E_region ?_ | refine E_cond_t rfl ?_ | refine E_cond_f rfl ?_ | refine E_block ?_ | refine E_skip ?_ | refine E_exit ?_)))
        all_goals (first | (exfalso; omega) | skip)
        have hS : SlG (fun b => b ≠ bA) wP vP (ys ++ [p]) := own_SlG (css := css ++ [[int p.role, str p.text, .slice ap p.ids.length capp]]) (by simpa [show Rep.sz Post = 3 from rfl, Value.cells] using oP)
          (AtsG.wk (AtsG.ext (AtsG.old (AllAt.append hA (AllAt.one ⟨_, rfl, hpv0⟩))) (x0.trans xP)) fun b h e => by subst e; omega) (fun b hb => by omega) (by simp) (by simp; omega)
        have hS0 := hS
        obtain ⟨aO, capO, rfl, _⟩ := hS.sl
        (repeat' (first | refine eV rfl rfl (val_build (vs := [(0, .slice aO (ys ++ [p]).length capO)]) [.slice aO (ys ++ [p]).length capO] rfl rfl rfl) ?_))
        refine EL_storeP (cs := [_]) (rA0.ext xP) (x0.trans xP) hwB rfl rfl rfl rfl rfl rfl rfl rfl (Nat.le_refl _) (fun w9 r9 x9 k9 => ?_)
        (repeat' (first | (refine at_EL ?_; first | refine eN ?_) | (refine at_K ?_; first | refine K_then ?_) | (refine at_E ?_; first | refine E_ret ?_)))
        refine ret_c rfl rfl rfl r9.at rfl ⟨x9, _, rfl, ?_⟩
        rw [hres]
        exact (hS0.move (k9.mv fun b hb e => by cases e; exact hb rfl)).any
end Go.Proofs.YtjpjpgeeeigbkaaDoor
namespace Go.Proofs.YtjpjpgeeeigbkaaDoor
open Go.RowKit Go.En
/-- a cell of its own that holds no number holds no posting -/
theorem away_ints {w : World} {b : Nat} {v : Value} {ids : List Int} {x : Option Addr} {m c : Nat} (r : Row w b 24 [.slice x m c]) (h : Sl w v ids) : SlG (fun k => k ≠ b) w v ids := by
  obtain ⟨a, cap, hv, hc, hm, hp⟩ := h
  refine ⟨a, cap, hv, hc, hm, fun h0 => ?_⟩
  obtain ⟨k, off, ha, _, css, h1, h2⟩ := hp h0
  refine ⟨k, off, ha, fun e => ?_, css, by rw [ats_ints h1]; exact ints_ats _ _, h2⟩
  subst e
  rw [ats_ints h1, ints_flat] at h2
  cases ids with
  | nil => simp at h0
  | cons z l =>
    have h3 := h2.cell0 (v := int z) (r := l.map int)
    rw [r.cell] at h3
    cases off with
    | zero => simp at h3
    | succ o => simp at h3
theorem away_posts {w : World} {b : Nat} {v : Value} {xs : List Post} {x : Option Addr} {m c : Nat} (r : Row w b 24 [.slice x m c]) (h : Sl w v xs) : SlG (fun k => k ≠ b) w v xs := by
  obtain ⟨a, cap, hv, hc, hm, hp⟩ := h
  refine ⟨a, cap, hv, hc, hm, fun h0 => ?_⟩
  obtain ⟨k, off, ha, _, css, h1, h2⟩ := hp h0
  refine ⟨k, off, ha, fun e => ?_, css, AllAt.mono (fun p cs hpc => by obtain ⟨iv, e, hi⟩ := hpc; exact ⟨iv, e, away_ints r hi⟩) h1, h2⟩
  subst e
  cases xs with
  | nil => simp at h0
  | cons p l =>
    cases css with
    | nil => exact h1.elim
    | cons c0 cs =>
      obtain ⟨iv, e, _⟩ := h1.1
      subst e
      have h3 := h2 0 (int p.role) rfl
      rw [Nat.add_zero, r.cell] at h3
      cases off with
      | zero => simp at h3
      | succ o => simp at h3
theorem lit1 {w : World} {b : Nat} {id : Int} (r : Row w b 3 [int id]) : Sl w (.slice (some ⟨b, 0, none⟩) 1 1) [id] :=
  row_Sl (xs := [id]) (css := [id].map fun z => [int z]) r (ints_ats _ _) (Nat.le_refl _) (by simp)
theorem rfind_mem {xs : List Post} {r : Int} {t : List UInt8} {k : Nat} (h : ∀ p ∈ xs, p.ids.length ≤ k) : (rfindF xs r t).length ≤ k := by
  unfold rfindF
  split
  · simp
  · rename_i p hp; exact h p (List.mem_of_find?_eq_some hp)
attribute [local irreducible] E EL K Val Enters Rt Calls bodyPost Code.wp RQ
set_option maxHeartbeats 1000000 in
theorem rput_any (xs : List Post) (s : Value) (r : Int) (t : List UInt8) (id : Int) (w : World) (hv : Sl w s xs) (hlen : xs.length ≤ 1099511627) (hids : ∀ p ∈ xs, p.ids.length ≤ 1099511626) :
    Calls Tryd.prog 31 #[.agg #[s], int r, str t, int id] w (Rt fun u w' => Ext w w' ∧ Ix w' u (rputF xs r t id)) := by
  refine calls_E (n := 27) (args := [.agg #[s], int r, str t, int id]) Tryd.func31 rfl Tryd.ntmps31 (by simp) ?_
  have hv0 := hv
  obtain ⟨a, cap, rfl, hc, hm, hp⟩ := hv.sl
  refine E_seq ?_
  refine E_region ?_
  refine EL_box rfl rfl rfl rfl (fun bB wB xB hbB rB0 => ?_)
  refine EL_alloc rfl rfl rfl (fun bA wA xA hbA rA => ?_)
  have rB := rB0.ext xA
  have x0 := xB.trans xA
  have hwB : w.heap.size ≤ bA := by have := xB.size; omega
  have hvA := hv0.ext x0
  have c39 := role_any r
  cases hro : isRole r with
  | false =>
    rw [hro] at c39
    have hres : rputF xs r t id = xs := by unfold rputF; rw [hro]; rfl
    rw [hres]
    (repeat' (first | (refine EL_call rfl rfl (entersF rfl rfl en39) (c39 _) (fun vC wC hC => ?_); obtain ⟨rfl, xC⟩ := hC) | refine eV rfl rfl (val_loadA rfl rfl rfl (rB.ext xC).at rfl) ?_ | (refine at_EL ?_; first | refine eN ?_ | refine eV rfl rfl (zA rfl rfl) ?_ | refine eV rfl rfl (zE rfl rfl) ?_) | (refine at_K ?_; first | refine K_then ?_) | (refine at_E ?_; first | refine E_seq ?_ | refine E_region ?_ | refine E_cond_t rfl ?_)))
    have SQ' := away_posts (rA.ext xC) (hvA.ext xC)
    refine EL_storeP (cs := [_]) (rA.ext xC) (x0.trans xC) hwB rfl rfl rfl rfl rfl rfl rfl rfl (Nat.le_refl _) (fun w9 r9 x9 k9 => ?_)
    (repeat' (first | (refine at_EL ?_; first | refine eN ?_) | (refine at_K ?_; first | refine K_then ?_ | refine K_then_ret ?_) | (refine at_E ?_; first | refine E_ret ?_)))
    refine ret_c rfl rfl rfl r9.at rfl ⟨x9, _, rfl, ?_⟩
    exact (SQ'.move (k9.mv fun b hb e => by cases e; exact hb rfl)).any
  | true =>
    rw [hro] at c39
    have hres : rputF xs r t id = rwithF xs ⟨r, t, unionF (rfindF xs r t) [id]⟩ := by unfold rputF; rw [hro]; rfl
    rw [hres]
    (repeat' (first | (refine EL_call rfl rfl (entersF rfl rfl en39) (c39 _) (fun vC wC hC => ?_); obtain ⟨rfl, xC⟩ := hC) | refine eV rfl rfl (val_loadA rfl rfl rfl (rB.ext xC).at rfl) ?_ | (refine EL_call rfl rfl (entersF rfl rfl en26) (rfind_any xs _ r t _ (hvA.ext xC)) (fun vF wF hF => ?_); obtain ⟨xF, SF⟩ := hF) | (refine at_EL ?_; first | refine eN ?_ | refine eV rfl rfl (zA rfl rfl) ?_ | refine eV rfl rfl (zE rfl rfl) ?_ | refine eL rfl rfl rfl rfl rfl rfl rfl rfl (fun bS wS xS hbS rS => ?_)) | (refine at_K ?_; first | refine K_then ?_) | (refine at_E ?_; first | refine E_seq ?_ | refine E_region ?_ | refine E_cond_f rfl ?_ | refine E_skip ?_)))
    refine EL_call rfl rfl (entersF rfl rfl en46) (union_any _ [id] vF _ _ (SF.ext xS) (lit1 rS) (Nat.le_trans (rfind_mem hids) (by omega)) (by simp)) (fun vU wU hU => ?_)
    obtain ⟨xU, SU⟩ := hU
    have XX := xC.trans (xF.trans (xS.trans xU))
    (repeat' (first | refine eV rfl rfl (val_loadA rfl rfl rfl (rB.ext XX).at rfl) ?_ | (refine at_EL ?_; first | refine eN ?_ | refine eV rfl rfl (zA rfl rfl) ?_ | refine eV rfl rfl (zB rfl rfl) ?_) | (refine at_K ?_; first | refine K_then ?_) | (refine at_E ?_; first | refine E_seq ?_ | refine E_region ?_)))
    have SU2 := SU
    obtain ⟨aU, capU, rfl, _⟩ := SU2.sl
    (repeat' (first | refine eV rfl rfl (val_build (vs := [(0, int r), (1, str t), (2, .slice aU (unionF (rfindF xs r t) [id]).length capU)]) [int r, str t, .slice aU (unionF (rfindF xs r t) [id]).length capU] rfl rfl rfl) ?_ | refine EL_call rfl rfl (entersF rfl rfl en47) (rwith_any xs ⟨r, t, unionF (rfindF xs r t) [id]⟩ _ _ _ (hvA.ext XX) SU hlen) (fun vQ wQ hQ => ?_)))
    obtain ⟨xQ, sQ, rfl, SQ⟩ := hQ
    have SQ' := away_posts ((rA.ext XX).ext xQ) SQ
    have SQ2 := SQ
    obtain ⟨aQ, capQ, rfl, _⟩ := SQ2.sl
    refine EL_storeP (cs := [_]) ((rA.ext XX).ext xQ) (x0.trans (XX.trans xQ)) hwB rfl rfl rfl rfl rfl rfl rfl rfl (Nat.le_refl _) (fun w9 r9 x9 k9 => ?_)
    (repeat' (first | (refine at_EL ?_; first | refine eN ?_) | (refine at_K ?_; first | refine K_then ?_) | (refine at_E ?_; first | refine E_ret ?_)))
    refine ret_c rfl rfl rfl r9.at rfl ⟨x9, _, rfl, ?_⟩
    exact (SQ'.move (k9.mv fun b hb e => by cases e; exact hb rfl)).any
set_option maxHeartbeats 1000000 in
theorem rtake_any (xs : List Post) (s : Value) (r : Int) (t : List UInt8) (id : Int) (w : World) (hv : Sl w s xs) (hlen : xs.length ≤ 1099511627) (hids : ∀ p ∈ xs, p.ids.length ≤ 1099511626) :
    Calls Tryd.prog 33 #[.agg #[s], int r, str t, int id] w (Rt fun u w' => Ext w w' ∧ Ix w' u (rtakeF xs r t id)) := by
  refine calls_E (n := 23) (args := [.agg #[s], int r, str t, int id]) Tryd.func33 rfl Tryd.ntmps33 (by simp) ?_
  have hv0 := hv
  obtain ⟨a, cap, rfl, hc, hm, hp⟩ := hv.sl
  refine E_seq ?_
  refine E_region ?_
  refine EL_box rfl rfl rfl rfl (fun bB wB xB hbB rB0 => ?_)
  refine EL_alloc rfl rfl rfl (fun bA wA xA hbA rA => ?_)
  have rB := rB0.ext xA
  have x0 := xB.trans xA
  have hwB : w.heap.size ≤ bA := by have := xB.size; omega
  have hvA := hv0.ext x0
  have hres : rtakeF xs r t id = rwithF xs ⟨r, t, minusF (rfindF xs r t) [id]⟩ := rfl
  rw [hres]
  (repeat' (first | refine eV rfl rfl (val_loadA rfl rfl rfl rB.at rfl) ?_ | (refine EL_call rfl rfl (entersF rfl rfl en26) (rfind_any xs _ r t _ hvA) (fun vF wF hF => ?_); obtain ⟨xF, SF⟩ := hF) | (refine at_EL ?_; first | refine eN ?_ | refine eV rfl rfl (zA rfl rfl) ?_ | refine eL rfl rfl rfl rfl rfl rfl rfl rfl (fun bS wS xS hbS rS => ?_)) | (refine at_K ?_; first | refine K_then ?_) | (refine at_E ?_; first | refine E_seq ?_ | refine E_region ?_)))
  refine EL_call rfl rfl (entersF rfl rfl en48) (minus_any _ [id] vF _ _ (SF.ext xS) (lit1 rS) (Nat.le_trans (rfind_mem hids) (by omega))) (fun vU wU hU => ?_)
  obtain ⟨xU, SU⟩ := hU
  have XX := xF.trans (xS.trans xU)
  (repeat' (first | refine eV rfl rfl (val_loadA rfl rfl rfl (rB.ext XX).at rfl) ?_ | (refine at_EL ?_; first | refine eN ?_ | refine eV rfl rfl (zA rfl rfl) ?_ | refine eV rfl rfl (zB rfl rfl) ?_) | (refine at_K ?_; first | refine K_then ?_) | (refine at_E ?_; first | refine E_seq ?_ | refine E_region ?_)))
  have SU2 := SU
  obtain ⟨aU, capU, rfl, _⟩ := SU2.sl
  (repeat' (first | refine eV rfl rfl (val_build (vs := [(0, int r), (1, str t), (2, .slice aU (minusF (rfindF xs r t) [id]).length capU)]) [int r, str t, .slice aU (minusF (rfindF xs r t) [id]).length capU] rfl rfl rfl) ?_ | refine EL_call rfl rfl (entersF rfl rfl en47) (rwith_any xs ⟨r, t, minusF (rfindF xs r t) [id]⟩ _ _ _ (hvA.ext XX) SU hlen) (fun vQ wQ hQ => ?_)))
  obtain ⟨xQ, sQ, rfl, SQ⟩ := hQ
  have SQ' := away_posts ((rA.ext XX).ext xQ) SQ
  have SQ2 := SQ
  obtain ⟨aQ, capQ, rfl, _⟩ := SQ2.sl
  refine EL_storeP (cs := [_]) ((rA.ext XX).ext xQ) (x0.trans (XX.trans xQ)) hwB rfl rfl rfl rfl rfl rfl rfl rfl (Nat.le_refl _) (fun w9 r9 x9 k9 => ?_)
  (repeat' (first | (refine at_EL ?_; first | refine eN ?_) | (refine at_K ?_; first | refine K_then ?_) | (refine at_E ?_; first | refine E_ret ?_)))
  refine ret_c rfl rfl rfl r9.at rfl ⟨x9, _, rfl, ?_⟩
  exact (SQ'.move (k9.mv fun b hb e => by cases e; exact hb rfl)).any
end Go.Proofs.YtjpjpgeeeigbkaaDoor
