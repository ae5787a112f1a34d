/-
  Walks: num's Minus, the reference's with.
-/
import Derived.Test.YtjpjpgeeeigbkaaDoorWo
import Derived.Test.YtjpjpgeeeigbkaaDoorWg
set_option linter.all false
namespace Go.Proofs.YtjpjpgeeeigbkaaDoor
open Go.RowKit Go.En
def mstep (b : List Int) : List Int → Int → List Int := fun acc z => if z ∈ b then acc else nputF acc z
theorem minus_len (b : List Int) : ∀ (l acc : List Int), (l.foldl (mstep b) acc).length ≤ acc.length + l.length
  | [], acc => by simp
  | z :: l, acc => by
    have h1 := minus_len b l (mstep b acc z)
    have h2 := nput_len acc z
    have h3 : (mstep b acc z).length ≤ acc.length + 1 := by unfold mstep; split <;> omega
    simp only [List.foldl_cons, List.length_cons]
    omega
theorem minus_take {b l acc : List Int} {i : Nat} {z : Int} (h : l[i]? = some z) : (l.take (i + 1)).foldl (mstep b) acc = mstep b ((l.take i).foldl (mstep b) acc) z := by
  obtain ⟨hi, rfl⟩ := List.getElem?_eq_some_iff.1 h
  rw [List.take_succ_eq_append_getElem hi, List.foldl_append]; rfl
attribute [local irreducible] E EL K Val Enters Rt Calls bodyPost Code.wp RQ
theorem minus_any (l m : List Int) (v v' : Value) (w : World) (hv : Sl w v l) (hv' : Sl w v' m) (hlen : l.length ≤ 1099511627776) : Calls Tryd.prog 48 #[v, v'] w (Rt fun u w' => Ext w w' ∧ Sl w' u (minusF l m)) := by
  refine calls_E (n := 27) (args := [v, v']) Tryd.func48 rfl Tryd.ntmps48 (by simp) ?_
  have hv0 := hv
  obtain ⟨a, cap, rfl, hc, hm, hp⟩ := hv.sl
  (repeat' (first | (refine at_EL ?_; first | refine eN ?_ | refine eO rfl rfl ?_ | refine eV rfl rfl (zA rfl rfl) ?_ | refine eV rfl rfl (zB rfl rfl) ?_ | (refine at_bin ?_; first | refine eD rfl rfl (zL rfl rfl rfl) (fun hh => ?_) (fun hh => ?_) | refine eD rfl rfl (zM rfl rfl rfl) (fun hh => ?_) (fun hh => ?_) | refine eD rfl rfl (zN rfl rfl rfl) (fun hh => ?_) (fun hh => ?_) | refine eD rfl rfl (zO rfl rfl rfl) (fun hh => ?_) (fun hh => ?_) | refine eD rfl rfl (zP rfl rfl rfl) (fun hh => ?_) (fun hh => ?_) | refine eD rfl rfl (zQ rfl rfl rfl) (fun hh => ?_) (fun hh => ?_) | refine eD rfl rfl (zR rfl rfl rfl) (fun hh => ?_) (fun hh => ?_) | refine eD rfl rfl (zS rfl rfl rfl) (fun hh => ?_) (fun hh => ?_) | refine eD rfl rfl (zT rfl rfl rfl) (fun hh => ?_) (fun hh => ?_) | refine eV rfl rfl (zU rfl rfl rfl (by omega) (by omega)) ?_ | refine eV rfl rfl (zV rfl rfl rfl (by omega) (by omega)) ?_ | refine eV rfl rfl (zW rfl rfl rfl (by omega) (by omega)) ?_) | (refine at_call ?_; first | refine eV rfl rfl (zK rfl rfl) ?_ | refine eV rfl rfl (zJ rfl rfl) ?_) | refine eV rfl rfl (zC rfl rfl rfl) ?_ | refine eV rfl rfl (zD rfl rfl rfl) ?_ | refine eV rfl rfl (zE rfl rfl) ?_ | refine eV rfl rfl (zF rfl rfl rfl) ?_ | refine eV rfl rfl (zG rfl rfl) ?_ | refine eV rfl rfl (zH rfl rfl) ?_ | refine eV rfl rfl (zI rfl rfl rfl rfl) ?_ | refine eL rfl rfl rfl rfl rfl rfl rfl rfl (fun bS wS xS hbS rS => ?_) | (refine eG rfl rfl rfl (fun hg => ?_) (fun hg => ?_) <;> subst hg)) | (refine at_K ?_; first | refine K_then ?_ | refine K_in ?_ | refine K_then_ret ?_ | refine K_then_exit ?_ | refine K_in_ret ?_ | refine K_in_exit ?_ | refine K_in_exit' rfl ?_ | refine K_rnd_ret ?_ | refine K_rnd_exit ?_ | refine K_mid_ret ?_ | refine K_mid_exit ?_) | (refine at_E ?_; first | refine E_seq ?_ | refine E_region ?_ | refine E_cond_t rfl ?_ | refine E_cond_f rfl ?_ | refine E_block ?_ | refine E_skip ?_ | refine E_ret ?_ | refine E_exit ?_ | (refine E_cond rfl (fun hg => ?_) (fun hg => ?_) <;> subst hg))))
  refine E_loop (ι := Nat × Value) (fun x => [(0, .slice a l.length cap), (1, v'), (5, x.2), (8, int l.length), (9, int x.1)])
    (fun x wr => x.1 ≤ l.length ∧ Ext w wr ∧ Sl wr x.2 ((l.take x.1).foldl (mstep m) [])) (fun x => l.length - x.1) (0, .slice none 0 0)
    ⟨rfl, rfl, rfl, rfl, rfl, trivial⟩ ⟨Nat.zero_le _, Ext.refl _, SlG.nil⟩ ?_
  rintro ⟨i, vO⟩ wr ⟨hi, hx, hs⟩
  dsimp only at hi hx hs ⊢
  have hvr := hv0.ext hx
  have hfl := minus_len m (l.take i) []
  rw [List.length_take] at hfl
  simp only [List.length_nil] at hfl
  by_cases hlt : i < l.length
  · obtain ⟨b, off, rfl⟩ := hp (by omega)
    obtain ⟨z, hz⟩ : ∃ z, l[i]? = some z := ⟨_, List.getElem?_eq_getElem hlt⟩
    have hcell := int_elem hvr hz
    have c35 := has_any m z v' wr (hv'.ext hx)
    have hst := minus_take (b := m) (acc := []) hz
    by_cases hmem : z ∈ m
    · rw [decide_eq_true hmem] at c35
      have e : mstep m ((l.take i).foldl (mstep m) []) z = (l.take i).foldl (mstep m) [] := if_pos hmem
      rw [e] at hst
      (repeat' (first | refine eV rfl rfl (val_indexAddr (m := i) rfl rfl rfl rfl hlt) ?_ | refine eV rfl rfl (val_load rfl rfl rfl hcell) ?_ | (refine EL_call rfl rfl (entersF rfl rfl en35) c35 (fun vC wC hC => ?_); obtain ⟨rfl, xC⟩ := hC) | (refine at_EL ?_; first | refine eN ?_ | refine eO rfl rfl ?_ | refine eV rfl rfl (zA rfl rfl) ?_ | refine eV rfl rfl (zB rfl rfl) ?_ | (refine at_bin ?_; first | refine eD rfl rfl (zL rfl rfl rfl) (fun hh => ?_) (fun hh => ?_) | refine eD rfl rfl (zM rfl rfl rfl) (fun hh => ?_) (fun hh => ?_) | refine eD rfl rfl (zN rfl rfl rfl) (fun hh => ?_) (fun hh => ?_) | refine eD rfl rfl (zO rfl rfl rfl) (fun hh => ?_) (fun hh => ?_) | refine eD rfl rfl (zP rfl rfl rfl) (fun hh => ?_) (fun hh => ?_) | refine eD rfl rfl (zQ rfl rfl rfl) (fun hh => ?_) (fun hh => ?_) | refine eD rfl rfl (zR rfl rfl rfl) (fun hh => ?_) (fun hh => ?_) | refine eD rfl rfl (zS rfl rfl rfl) (fun hh => ?_) (fun hh => ?_) | refine eD rfl rfl (zT rfl rfl rfl) (fun hh => ?_) (fun hh => ?_) | refine eV rfl rfl (zU rfl rfl rfl (by omega) (by omega)) ?_ | refine eV rfl rfl (zV rfl rfl rfl (by omega) (by omega)) ?_ | refine eV rfl rfl (zW rfl rfl rfl (by omega) (by omega)) ?_) | (refine at_call ?_; first | refine eV rfl rfl (zK rfl rfl) ?_ | refine eV rfl rfl (zJ rfl rfl) ?_) | refine eV rfl rfl (zC rfl rfl rfl) ?_ | refine eV rfl rfl (zD rfl rfl rfl) ?_ | refine eV rfl rfl (zE rfl rfl) ?_ | refine eV rfl rfl (zF rfl rfl rfl) ?_ | refine eV rfl rfl (zG rfl rfl) ?_ | refine eV rfl rfl (zH rfl rfl) ?_ | refine eV rfl rfl (zI rfl rfl rfl rfl) ?_ | refine eL rfl rfl rfl rfl rfl rfl rfl rfl (fun bS wS xS hbS rS => ?_) | (refine eG rfl rfl rfl (fun hg => ?_) (fun hg => ?_) <;> subst hg)) | (refine at_K ?_; first | refine K_then ?_ | refine K_in ?_ | refine K_then_ret ?_ | refine K_then_exit ?_ | refine K_in_ret ?_ | refine K_in_exit ?_ | refine K_in_exit' rfl ?_ | refine K_rnd_ret ?_ | refine K_rnd_exit ?_ | refine K_mid_ret ?_ | refine K_mid_exit ?_) | (refine at_E ?_; first | refine E_seq ?_ | refine E_region ?_ | refine E_cond_t rfl ?_ | refine E_cond_f rfl ?_ | refine E_block ?_ | refine E_skip ?_ | refine E_ret ?_ | refine E_exit ?_ | (refine E_cond rfl (fun hg => ?_) (fun hg => ?_) <;> subst hg))))
      all_goals (first | (exfalso; omega) | skip)
      exact K_rnd (i + 1, vO) ⟨rfl, rfl, rfl, rfl, rfl, trivial⟩ ⟨by dsimp only; omega, hx.trans xC, by dsimp only; rw [hst]; exact hs.ext xC⟩ (by dsimp only; omega)
    · rw [decide_eq_false hmem] at c35
      have e : mstep m ((l.take i).foldl (mstep m) []) z = nputF ((l.take i).foldl (mstep m) []) z := if_neg hmem
      rw [e] at hst
      (repeat' (first | refine eV rfl rfl (val_indexAddr (m := i) rfl rfl rfl rfl hlt) ?_ | refine eV rfl rfl (val_load rfl rfl rfl hcell) ?_ | (refine EL_call rfl rfl (entersF rfl rfl en35) c35 (fun vC wC hC => ?_); obtain ⟨rfl, xC⟩ := hC; have hcell2 := xC.cell hcell) | refine eV rfl rfl (val_load rfl rfl rfl hcell2) ?_ | (refine EL_call rfl rfl (entersF rfl rfl en58) (nput_any _ z vO _ (hs.ext xC) (by omega)) (fun vD wD hD => ?_); obtain ⟨xD, hD⟩ := hD) | (refine at_EL ?_; first | refine eN ?_ | refine eO rfl rfl ?_ | refine eV rfl rfl (zA rfl rfl) ?_ | refine eV rfl rfl (zB rfl rfl) ?_ | (refine at_bin ?_; first | refine eD rfl rfl (zL rfl rfl rfl) (fun hh => ?_) (fun hh => ?_) | refine eD rfl rfl (zM rfl rfl rfl) (fun hh => ?_) (fun hh => ?_) | refine eD rfl rfl (zN rfl rfl rfl) (fun hh => ?_) (fun hh => ?_) | refine eD rfl rfl (zO rfl rfl rfl) (fun hh => ?_) (fun hh => ?_) | refine eD rfl rfl (zP rfl rfl rfl) (fun hh => ?_) (fun hh => ?_) | refine eD rfl rfl (zQ rfl rfl rfl) (fun hh => ?_) (fun hh => ?_) | refine eD rfl rfl (zR rfl rfl rfl) (fun hh => ?_) (fun hh => ?_) | refine eD rfl rfl (zS rfl rfl rfl) (fun hh => ?_) (fun hh => ?_) | refine eD rfl rfl (zT rfl rfl rfl) (fun hh => ?_) (fun hh => ?_) | refine eV rfl rfl (zU rfl rfl rfl (by omega) (by omega)) ?_ | refine eV rfl rfl (zV rfl rfl rfl (by omega) (by omega)) ?_ | refine eV rfl rfl (zW rfl rfl rfl (by omega) (by omega)) ?_) | (refine at_call ?_; first | refine eV rfl rfl (zK rfl rfl) ?_ | refine eV rfl rfl (zJ rfl rfl) ?_) | refine eV rfl rfl (zC rfl rfl rfl) ?_ | refine eV rfl rfl (zD rfl rfl rfl) ?_ | refine eV rfl rfl (zE rfl rfl) ?_ | refine eV rfl rfl (zF rfl rfl rfl) ?_ | refine eV rfl rfl (zG rfl rfl) ?_ | refine eV rfl rfl (zH rfl rfl) ?_ | refine eV rfl rfl (zI rfl rfl rfl rfl) ?_ | refine eL rfl rfl rfl rfl rfl rfl rfl rfl (fun bS wS xS hbS rS => ?_) | (refine eG rfl rfl rfl (fun hg => ?_) (fun hg => ?_) <;> subst hg)) | (refine at_K ?_; first | refine K_then ?_ | refine K_in ?_ | refine K_then_ret ?_ | refine K_then_exit ?_ | refine K_in_ret ?_ | refine K_in_exit ?_ | refine K_in_exit' rfl ?_ | refine K_rnd_ret ?_ | refine K_rnd_exit ?_ | refine K_mid_ret ?_ | refine K_mid_exit ?_) | (refine at_E ?_; first | refine E_seq ?_ | refine E_region ?_ | refine E_cond_t rfl ?_ | refine E_cond_f rfl ?_ | refine E_block ?_ | refine E_skip ?_ | refine E_ret ?_ | refine E_exit ?_ | (refine E_cond rfl (fun hg => ?_) (fun hg => ?_) <;> subst hg))))
      all_goals (first | (exfalso; omega) | skip)
      exact K_rnd (i + 1, vD) ⟨rfl, rfl, rfl, rfl, rfl, trivial⟩ ⟨by dsimp only; omega, hx.trans (xC.trans xD), by dsimp only; rw [hst]; exact hD⟩ (by dsimp only; omega)
  · obtain rfl : i = l.length := by omega
    rw [List.take_length] at hs
    (repeat' (first | (refine at_EL ?_; first | refine eN ?_ | refine eO rfl rfl ?_ | refine eV rfl rfl (zA rfl rfl) ?_ | refine eV rfl rfl (zB rfl rfl) ?_ | (refine at_bin ?_; first | refine eD rfl rfl (zL rfl rfl rfl) (fun hh => ?_) (fun hh => ?_) | refine eD rfl rfl (zM rfl rfl rfl) (fun hh => ?_) (fun hh => ?_) | refine eD rfl rfl (zN rfl rfl rfl) (fun hh => ?_) (fun hh => ?_) | refine eD rfl rfl (zO rfl rfl rfl) (fun hh => ?_) (fun hh => ?_) | refine eD rfl rfl (zP rfl rfl rfl) (fun hh => ?_) (fun hh => ?_) | refine eD rfl rfl (zQ rfl rfl rfl) (fun hh => ?_) (fun hh => ?_) | refine eD rfl rfl (zR rfl rfl rfl) (fun hh => ?_) (fun hh => ?_) | refine eD rfl rfl (zS rfl rfl rfl) (fun hh => ?_) (fun hh => ?_) | refine eD rfl rfl (zT rfl rfl rfl) (fun hh => ?_) (fun hh => ?_) | refine eV rfl rfl (zU rfl rfl rfl (by omega) (by omega)) ?_ | refine eV rfl rfl (zV rfl rfl rfl (by omega) (by omega)) ?_ | refine eV rfl rfl (zW rfl rfl rfl (by omega) (by omega)) ?_) | (refine at_call ?_; first | refine eV rfl rfl (zK rfl rfl) ?_ | refine eV rfl rfl (zJ rfl rfl) ?_) | refine eV rfl rfl (zC rfl rfl rfl) ?_ | refine eV rfl rfl (zD rfl rfl rfl) ?_ | refine eV rfl rfl (zE rfl rfl) ?_ | refine eV rfl rfl (zF rfl rfl rfl) ?_ | refine eV rfl rfl (zG rfl rfl) ?_ | refine eV rfl rfl (zH rfl rfl) ?_ | refine eV rfl rfl (zI rfl rfl rfl rfl) ?_ | refine eL rfl rfl rfl rfl rfl rfl rfl rfl (fun bS wS xS hbS rS => ?_) | (refine eG rfl rfl rfl (fun hg => ?_) (fun hg => ?_) <;> subst hg)) | (refine at_K ?_; first | refine K_then ?_ | refine K_in ?_ | refine K_then_ret ?_ | refine K_then_exit ?_ | refine K_in_ret ?_ | refine K_in_exit ?_ | refine K_in_exit' rfl ?_ | refine K_rnd_ret ?_ | refine K_rnd_exit ?_ | refine K_mid_ret ?_ | refine K_mid_exit ?_) | (refine at_E ?_; first | refine E_seq ?_ | refine E_region ?_ | refine E_cond_t rfl ?_ | refine E_cond_f rfl ?_ | refine E_block ?_ | refine E_skip ?_ | refine E_ret ?_ | refine E_exit ?_ | (refine E_cond rfl (fun hg => ?_) (fun hg => ?_) <;> subst hg))))
    all_goals (first | (exfalso; omega) | skip)
    exact ret_1 rfl rfl ⟨hx, hs⟩
/-- the reference's with, a step -/
theorem rw_step {xs : List Post} {p q : Post} {i : Nat} (h : xs[i]? = some q) (out : List Post) (done : Bool) :
    rwGo p (xs.drop i) out done = rwGo p (xs.drop (i + 1)) (if q.role ≠ p.role ∨ q.text ≠ p.text then (if !done && decide (ltK p.role p.text q.role q.text) then out ++ [p] else out) ++ [q] else (if !done && decide (ltK p.role p.text q.role q.text) then out ++ [p] else out)) (done || decide (ltK p.role p.text q.role q.text)) := by
  obtain ⟨hi, rfl⟩ := List.getElem?_eq_some_iff.1 h
  conv => lhs; rw [List.drop_eq_getElem_cons hi]
  rfl
end Go.Proofs.YtjpjpgeeeigbkaaDoor
