/-
  Walks of the layers runes and pattern.
-/
import Derived.Test.YtaajcbhingpfeaaQa
set_option linter.all false
namespace Go.Proofs.Ytaajcbhingpfeaa
open Go.RowKit Go.En
attribute [local irreducible] E EL K Val Enters Rt Calls bodyPost Code.wp RQ

theorem rPoints_any (l : List UInt8) (hl : l.length ≤ 16777216) (w : World) : Calls Try.prog 80 #[str l] w (Rt (PointsR w (points l))) := by
  refine calls_E (n := 28) (args := [str l]) Try.func80 rfl Try.ntmps80 (by simp) ?_
  (repeat' (first | (refine at_EL ?_; first | refine eN ?_ | refine eV rfl rfl (zB rfl rfl) ?_) | (refine at_K ?_; first | refine K_then ?_) | (refine at_E ?_; first | refine E_seq ?_ | refine E_region ?_ | refine E_block ?_)))
  refine E_loop (ι := Nat × Value × List Nat) (fun x => [(0, str l), (4, x.2.1), (5, int x.1)]) (fun x wr => x.1 ≤ l.length ∧ x.2.2.length ≤ x.1 ∧ points l = (points (l.drop x.1)).map (x.2.2 ++ ·) ∧ IntsOwn w wr x.2.1 x.2.2 ∧ Ext w wr) (fun x => l.length - x.1) (0, .slice none 0 0, [])
    ⟨rfl, rfl, rfl, trivial⟩ ⟨Nat.zero_le _, Nat.le_refl _, by simp, World.ownsRow_nil _ _ _ _, Ext.refl _⟩ ?_
  rintro ⟨i, v, zs⟩ wr ⟨hi, hz, hp, hown, hx⟩
  dsimp only at hi hz hp hown hx ⊢
  by_cases hlt : i < l.length
  · have hne : l.drop i ≠ [] := by intro h; have := congrArg List.length h; simp at this; omega
    have hf := first_any l i hlt (by omega) wr
    rw [points_step hne] at hp
    cases hfr : firstR (l.drop i) with
    | none =>
      rw [hfr] at hp
      simp only [fR, hfr] at hf
      (repeat' (first | (refine EL_call rfl rfl (entersF rfl rfl en89) hf (fun vC wC hC => ?_); obtain ⟨rfl, xC⟩ := hC) | (refine at_EL ?_; first | refine eN ?_ | refine eV rfl rfl (zA rfl rfl) ?_ | refine eV rfl rfl (zB rfl rfl) ?_ | (refine at_bin ?_; first | refine eD rfl rfl (zL rfl rfl rfl) (fun hh => ?_) (fun hh => ?_) | refine eD rfl rfl (zM rfl rfl rfl) (fun hh => ?_) (fun hh => ?_)) | (refine at_call ?_; first | refine eV rfl rfl (zJ rfl rfl) ?_) | refine eV rfl rfl (zF rfl rfl rfl) ?_ | refine eL rfl rfl rfl rfl rfl rfl rfl rfl (fun bS wS xS hbS rS => ?_)) | (refine at_K ?_; first | refine K_then ?_ | refine K_then_ret ?_ | refine K_then_exit ?_ | refine K_in_ret ?_ | refine K_in_exit ?_) | (refine at_E ?_; first | refine E_seq ?_ | refine E_region ?_ | refine E_cond_t rfl ?_ | refine E_cond_f rfl ?_ | refine E_block ?_ | refine E_skip ?_ | refine E_ret ?_ | refine E_exit ?_)))
      · refine ret_2 rfl rfl rfl ⟨hx.trans xC, ?_⟩
        rw [hp]; rfl
      all_goals omega
    | some q =>
      obtain ⟨p, n⟩ := q
      have hq := firstR_some hfr
      rw [List.length_drop] at hq
      rw [hfr] at hp
      simp only [fR, hfr] at hf
      (repeat' (first | (refine EL_call rfl rfl (entersF rfl rfl en89) hf (fun vC wC hC => ?_); obtain ⟨rfl, xC⟩ := hC) | (refine at_EL ?_; first | refine eN ?_ | refine eV rfl rfl (zA rfl rfl) ?_ | refine eV rfl rfl (zB rfl rfl) ?_ | (refine at_bin ?_; first | refine eD rfl rfl (zL rfl rfl rfl) (fun hh => ?_) (fun hh => ?_) | refine eD rfl rfl (zM rfl rfl rfl) (fun hh => ?_) (fun hh => ?_)) | (refine at_call ?_; first | refine eV rfl rfl (zJ rfl rfl) ?_) | refine eV rfl rfl (zF rfl rfl rfl) ?_ | refine eL rfl rfl rfl rfl rfl rfl rfl rfl (fun bS wS xS hbS rS => ?_)) | (refine at_K ?_; first | refine K_then ?_ | refine K_then_ret ?_ | refine K_then_exit ?_ | refine K_in_ret ?_ | refine K_in_exit ?_) | (refine at_E ?_; first | refine E_seq ?_ | refine E_region ?_ | refine E_cond_t rfl ?_ | refine E_cond_f rfl ?_ | refine E_block ?_ | refine E_skip ?_ | refine E_ret ?_ | refine E_exit ?_)))
      all_goals (first | (exfalso; omega) | skip)
      refine EL_app (own_ext hown (xC.trans xS)) ((hx.trans xC).trans xS) rS.at rfl rfl rfl rfl rfl rfl rfl rfl rfl (by omega) (by omega) (fun vA wA oA xA _ => ?_)
      (repeat' (first | (refine at_EL ?_; first | refine eN ?_ | refine eV rfl rfl (zA rfl rfl) ?_ | refine eV rfl rfl (zB rfl rfl) ?_ | (refine at_bin ?_; first | (refine eV rfl rfl (val_add rfl rfl rfl ?_ ?_) ?_; (first | omega | (simp only [kmin, kmax]; omega)); (first | omega | (simp only [kmin, kmax]; omega))))) | (refine at_K ?_; first | refine K_then ?_ | refine K_in ?_) | (refine at_E ?_; first | refine E_region ?_)))
      refine K_rnd (i + n, vA, zs ++ [p]) ⟨rfl, rfl, rfl, trivial⟩ ⟨by dsimp only; omega, by simp; omega, ?_, ?_, xA⟩ (by dsimp only; omega)
      · rw [hp]
        simp only [List.drop_drop]
        cases points (l.drop (i + n)) <;> simp
      · unfold IntsOwn
        simpa [Value.cells] using oA
  · have hil : i = l.length := by omega
    subst hil
    (repeat' (first | (refine at_EL ?_; first | refine eN ?_ | refine eV rfl rfl (zA rfl rfl) ?_ | refine eV rfl rfl (zB rfl rfl) ?_ | (refine at_bin ?_; first | refine eD rfl rfl (zL rfl rfl rfl) (fun hh => ?_) (fun hh => ?_)) | (refine at_call ?_; first | refine eV rfl rfl (zJ rfl rfl) ?_)) | (refine at_K ?_; first | refine K_then ?_ | refine K_then_exit ?_ | refine K_in_exit ?_) | (refine at_E ?_; first | refine E_seq ?_ | refine E_region ?_ | refine E_cond_t rfl ?_ | refine E_cond_f rfl ?_ | refine E_block ?_ | refine E_skip ?_ | refine E_ret ?_ | refine E_exit ?_)))
    all_goals (first | (exfalso; omega) | skip)
    rw [List.drop_length, points_nil] at hp
    simp only [Option.map_some, List.append_nil] at hp
    refine ret_2 rfl rfl rfl ⟨hx, ?_⟩
    rw [hp]
    exact ⟨v, rfl, hown⟩
end Go.Proofs.Ytaajcbhingpfeaa
