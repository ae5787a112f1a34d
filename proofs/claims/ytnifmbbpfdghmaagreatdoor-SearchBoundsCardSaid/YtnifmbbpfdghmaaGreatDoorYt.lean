/-
  Walks of the reference's match: notes, contains, Then, Within, Has. Walks of the reference's num: Union, Minus, Both; num.Has; the tier of a role.
-/
import Derived.Test.YtnifmbbpfdghmaaGreatDoorYr
set_option linter.all false
namespace Go.Proofs.YtnifmbbpfdghmaaGreatDoor
open Go.RowKit Go.En
attribute [local irreducible] E EL K Val Enters Rt Calls bodyPost Code.wp RQ
end Go.Proofs.YtnifmbbpfdghmaaGreatDoor
namespace Go.Proofs.YtnifmbbpfdghmaaGreatDoor
open Go.RowKit Go.En
attribute [local irreducible] E EL K Val Enters Rt Calls bodyPost Code.wp RQ
set_option maxHeartbeats 4000000 in
set_option maxRecDepth 8000 in
theorem runionW_any (a b : List Int) (u v : Value) (w : World) (hu : Sl w u a) (hv : Sl w v b) (hla : a.length ≤ 1099511627) (hlb : b.length ≤ 1099511627) :
    Calls Tryz.prog 58 #[u, v] w (Rt fun r w' => Ext w w' ∧ SlG (Nw w) w' r (unionS a b)) := by
  have hv0 := hv
  obtain ⟨sa, cap, rfl, hc, hm, hp⟩ := hv.sl
  refine calls_E (n := 22) (args := [u, .slice sa b.length cap]) Tryz.func58 rfl Tryz.ntmps58 (by simp) ?_
  have c1 := sortedW_any a u w hu (by omega)
  (repeat' (first | (refine EL_call rfl rfl (entersF rfl rfl en102) c1 (fun vC wC hC => ?_); obtain ⟨xC, sC⟩ := hC) | (refine at_EL ?_; first | refine eN ?_ | refine eV rfl rfl (zA rfl rfl) ?_ | refine eV rfl rfl (zB rfl rfl) ?_ | (refine at_call ?_; first | refine eV rfl rfl (zK rfl rfl) ?_)) | (refine at_K ?_; first | refine K_then ?_) | (refine at_E ?_; first | refine E_seq ?_ | refine E_region ?_ | refine E_block ?_)))
  have hsl := fold_len a []
  simp only [List.length_nil] at hsl
  refine E_loop (ι := Nat × Value) (fun s => [(1, .slice sa b.length cap), (5, s.2), (10, int b.length), (11, int s.1)])
    (fun s wr => s.1 ≤ b.length ∧ Ext wC wr ∧ SlG (Nw w) wr s.2 ((b.take s.1).foldl nputF (sortedF a))) (fun s => b.length - s.1) (0, vC)
    ⟨rfl, rfl, rfl, rfl, trivial⟩ ⟨Nat.zero_le _, Ext.refl _, sC⟩ ?_
  rintro ⟨i, vO⟩ wr ⟨hi, hx, hs⟩
  dsimp only at hi hx hs ⊢
  have hfl := fold_len (b.take i) (sortedF a)
  rw [List.length_take] at hfl
  have hsl2 : (sortedF a).length ≤ a.length := by unfold sortedF; omega
  have hX := xC.trans hx
  by_cases hlt : i < b.length
  · obtain ⟨bb, off, rfl⟩ := hp (by omega)
    obtain ⟨x, hx1⟩ : ∃ x, b[i]? = some x := ⟨_, List.getElem?_eq_getElem hlt⟩
    have hcx := int_elem (hv0.ext hX) hx1
    (repeat' (first | refine eV rfl rfl (val_indexAddr (m := i) rfl rfl rfl rfl hlt) ?_ | refine eV rfl rfl (val_load rfl rfl rfl hcx) ?_ | (refine EL_call rfl rfl (entersF rfl rfl en90) (nputW_any _ x vO _ hs.any (by omega)) (fun vP wP hP => ?_); obtain ⟨xP, sP⟩ := hP) | (refine at_EL ?_; first | refine eN ?_ | refine eV rfl rfl (zA rfl rfl) ?_ | refine eV rfl rfl (zB rfl rfl) ?_ | (refine at_bin ?_; first | refine eD rfl rfl (zL rfl rfl rfl) (fun hh => ?_) (fun hh => ?_) | refine eV rfl rfl (zU rfl rfl rfl (by omega) (by omega)) ?_)) | (refine at_K ?_; first | refine K_then ?_ | refine K_in ?_ | refine K_then_exit ?_ | refine K_in_exit ?_) | (refine at_E ?_; first | refine E_seq ?_ | refine E_region ?_ | refine E_cond_t rfl ?_ | refine E_cond_f rfl ?_ | refine E_block ?_ | refine E_skip ?_ | refine E_ret ?_ | refine E_exit ?_)))
    all_goals (first | (exfalso; omega) | skip)
    refine K_rnd (i + 1, vP) ⟨rfl, rfl, rfl, rfl, trivial⟩ ⟨by dsimp only; omega, hx.trans xP, ?_⟩ (by dsimp only; omega)
    dsimp only
    obtain ⟨hi2, rfl⟩ := List.getElem?_eq_some_iff.1 hx1
    rw [List.take_succ_eq_append_getElem hi2, List.foldl_append]
    exact SlG.wk sP (fun b hb => Nat.le_trans hX.size hb)
  · obtain rfl : i = b.length := by omega
    rw [List.take_length] at hs
    (repeat' (first | (refine at_EL ?_; first | refine eN ?_ | refine eV rfl rfl (zA rfl rfl) ?_ | refine eV rfl rfl (zB rfl rfl) ?_ | (refine at_bin ?_; first | refine eD rfl rfl (zL rfl rfl rfl) (fun hh => ?_) (fun hh => ?_))) | (refine at_K ?_; first | refine K_then ?_ | refine K_then_exit ?_ | refine K_in_exit ?_) | (refine at_E ?_; first | refine E_seq ?_ | refine E_region ?_ | refine E_cond_t rfl ?_ | refine E_cond_f rfl ?_ | refine E_block ?_ | refine E_skip ?_ | refine E_ret ?_ | refine E_exit ?_)))
    all_goals (first | (exfalso; omega) | skip)
    exact ret_1 rfl rfl ⟨hX, by unfold unionS sortedF at *; rw [List.foldl_append]; exact hs⟩
theorem runion_any (a b : List Int) (u v : Value) (w : World) (hu : Sl w u a) (hv : Sl w v b) (hla : a.length ≤ 1099511627) (hlb : b.length ≤ 1099511627) :
    Calls Tryz.prog 58 #[u, v] w (Rt fun r w' => Ext w w' ∧ Sl w' r (unionS a b)) := calls_mono (runionW_any a b u v w hu hv hla hlb) (fun _ _ h => ⟨h.1, h.2.any⟩)
end Go.Proofs.YtnifmbbpfdghmaaGreatDoor
