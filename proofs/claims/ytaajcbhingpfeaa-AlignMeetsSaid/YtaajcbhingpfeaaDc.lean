/-
  Walks: the reference's Text, Get, siblings, overlap, spans, ranked.
-/
import Derived.Test.YtaajcbhingpfeaaDb
import Derived.Test.YtaajcbhingpfeaaPn
set_option linter.all false
namespace Go.Proofs.Ytaajcbhingpfeaa
open Go.RowKit Go.En
attribute [local irreducible] E EL K Val Enters Rt Calls bodyPost Code.wp RQ
theorem text_any (s : List UInt8) (w : World) : Calls Try.prog 62 #[str s] w (Rt fun u w' => (∃ e : Int, u = int e ∧ (e = 0 → TextOK s)) ∧ Ext w w') := by
  refine calls_E (n := 34) (args := [str s]) Try.func62 rfl Try.ntmps62 (by simp) ?_
  by_cases h200 : s.length ≤ 200
  · have hf := rPoints_any s (by omega) w
    cases hp : points s with
    | none =>
      rw [hp] at hf
      (repeat' (first | (refine EL_call rfl rfl (entersF rfl rfl en80) hf (fun vC wC hC => ?_); obtain ⟨xC, hv⟩ := hC; obtain rfl := hv) | (refine at_EL ?_; first | refine eN ?_ | refine eV rfl rfl (zA rfl rfl) ?_ | refine eV rfl rfl (zB rfl rfl) ?_ | (refine at_bin ?_; first | refine eD rfl rfl (zO rfl rfl rfl) (fun hh => ?_) (fun hh => ?_)) | (refine at_call ?_; first | refine eV rfl rfl (zJ rfl rfl) ?_) | refine eV rfl rfl (zE rfl rfl) ?_ | refine eV rfl rfl (zF rfl rfl rfl) ?_) | (refine at_K ?_; first | refine K_then ?_ | refine K_then_ret ?_) | (refine at_E ?_; first | refine E_seq ?_ | refine E_region ?_ | refine E_cond_t rfl ?_ | refine E_cond_f rfl ?_ | refine E_skip ?_ | refine E_ret ?_)))
      all_goals (first | (exfalso; omega) | skip)
      exact ret_1 rfl rfl ⟨⟨_, rfl, fun h => by omega⟩, xC⟩
    | some zs =>
      rw [hp] at hf
      (repeat' ((fail_if_success (refine E_seq (x := (Code.region 6 _ _)) ?_)); first | (refine EL_call rfl rfl (entersF rfl rfl en80) hf (fun vC wC hC => ?_); obtain ⟨xC, v, hv, hown⟩ := hC; obtain rfl := hv) | (refine at_EL ?_; first | refine eN ?_ | refine eV rfl rfl (zA rfl rfl) ?_ | refine eV rfl rfl (zB rfl rfl) ?_ | (refine at_bin ?_; first | refine eD rfl rfl (zO rfl rfl rfl) (fun hh => ?_) (fun hh => ?_)) | (refine at_call ?_; first | refine eV rfl rfl (zJ rfl rfl) ?_) | refine eV rfl rfl (zE rfl rfl) ?_ | refine eV rfl rfl (zF rfl rfl rfl) ?_) | (refine at_K ?_; first | refine K_then ?_ | refine K_then_ret ?_) | (refine at_E ?_; first | refine E_seq ?_ | refine E_region ?_ | refine E_cond_t rfl ?_ | refine E_cond_f rfl ?_ | refine E_skip ?_ | refine E_ret ?_)))
      all_goals (first | (exfalso; omega) | skip)
      obtain ⟨a, cap, rfl, hc, hat⟩ := own_sl hown
      have hzl := (points_len _ s zs (Nat.le_refl _) hp).1
      (repeat' (first | (refine at_EL ?_; first | refine eN ?_ | refine eV rfl rfl (zB rfl rfl) ?_) | (refine at_K ?_; first | refine K_then ?_) | (refine at_E ?_; first | refine E_seq ?_ | refine E_region ?_ | refine E_block ?_)))
      refine E_loop (ι := Nat) (fun i => [(3, .slice a zs.length cap), (5, int i)]) (fun i wr => i ≤ zs.length ∧ Ext wC wr ∧ ∀ j, j < i → ∀ z, zs[j]? = some z → 32 ≤ z ∧ z ≠ 127) (fun i => zs.length - i) 0
        ⟨rfl, rfl, trivial⟩ ⟨Nat.zero_le _, Ext.refl _, fun j hj => by omega⟩ ?_
      rintro i wr ⟨hi, hx, hall⟩
      by_cases hlt : i < zs.length
      · obtain ⟨b, off, rfl, hat2⟩ := hat (by omega)
        obtain ⟨z, hz⟩ : ∃ z, zs[i]? = some z := ⟨_, List.getElem?_eq_getElem hlt⟩
        have hcell := (hat2.ext hx).ith hz
        (repeat' (first | refine eV rfl rfl (val_indexAddr (m := i) rfl rfl rfl rfl (by omega)) ?_ | refine eV rfl rfl (val_load rfl rfl rfl hcell) ?_ | (refine at_EL ?_; first | refine eN ?_ | refine eO rfl rfl ?_ | refine eV rfl rfl (zA rfl rfl) ?_ | refine eV rfl rfl (zB rfl rfl) ?_ | (refine at_bin ?_; first | refine eD rfl rfl (zL rfl rfl rfl) (fun hh => ?_) (fun hh => ?_) | refine eD rfl rfl (zM rfl rfl rfl) (fun hh => ?_) (fun hh => ?_) | refine eV rfl rfl (zU rfl rfl rfl (by omega) (by omega)) ?_) | (refine at_call ?_; first | refine eV rfl rfl (zK rfl rfl) ?_) | refine eV rfl rfl (zC rfl rfl rfl) ?_ | refine eV rfl rfl (zD rfl rfl rfl) ?_) | (refine at_K ?_; first | refine K_then ?_ | refine K_in ?_ | refine K_then_ret ?_ | refine K_then_exit ?_ | refine K_in_ret ?_ | refine K_in_exit ?_) | (refine at_E ?_; first | refine E_seq ?_ | refine E_region ?_ | refine E_cond_t rfl ?_ | refine E_cond_f rfl ?_ | refine E_block ?_ | refine E_skip ?_ | refine E_ret ?_ | refine E_exit ?_)))
        all_goals (first | (exfalso; omega) | skip)
        all_goals (first | exact ret_1 rfl rfl ⟨⟨_, rfl, fun h => by omega⟩, xC.trans hx⟩ | skip)
        refine K_rnd (i + 1) ⟨rfl, rfl, trivial⟩ ⟨by omega, hx, fun j hj z' hz' => ?_⟩ (by omega)
        by_cases hj2 : j < i
        · exact hall j hj2 z' hz'
        · obtain rfl : j = i := by omega
          rw [hz] at hz'; cases hz'; omega
      · (repeat' (first | (refine at_EL ?_; first | refine eN ?_ | refine eV rfl rfl (zA rfl rfl) ?_ | refine eV rfl rfl (zB rfl rfl) ?_ | (refine at_bin ?_; first | refine eD rfl rfl (zL rfl rfl rfl) (fun hh => ?_) (fun hh => ?_)) | (refine at_call ?_; first | refine eV rfl rfl (zK rfl rfl) ?_)) | (refine at_K ?_; first | refine K_then ?_ | refine K_then_exit ?_ | refine K_in_exit ?_) | (refine at_E ?_; first | refine E_seq ?_ | refine E_region ?_ | refine E_cond_t rfl ?_ | refine E_cond_f rfl ?_ | refine E_block ?_ | refine E_skip ?_ | refine E_ret ?_ | refine E_exit ?_)))
        all_goals (first | (exfalso; omega) | skip)
        refine ret_1 rfl rfl ⟨⟨_, rfl, fun _ => ⟨h200, zs, hp, fun z hz => ?_⟩⟩, xC.trans hx⟩
        obtain ⟨j, hj⟩ := List.getElem?_of_mem hz
        exact hall j (by have := (List.getElem?_eq_some_iff.1 hj).1; omega) z hj
  · (repeat' (first | (refine at_EL ?_; first | refine eN ?_ | refine eV rfl rfl (zA rfl rfl) ?_ | refine eV rfl rfl (zB rfl rfl) ?_ | (refine at_bin ?_; first | refine eD rfl rfl (zO rfl rfl rfl) (fun hh => ?_) (fun hh => ?_)) | (refine at_call ?_; first | refine eV rfl rfl (zJ rfl rfl) ?_)) | (refine at_K ?_; first | refine K_then ?_ | refine K_then_ret ?_) | (refine at_E ?_; first | refine E_seq ?_ | refine E_region ?_ | refine E_cond_t rfl ?_ | refine E_cond_f rfl ?_ | refine E_skip ?_ | refine E_ret ?_)))
    all_goals (first | (exfalso; omega) | skip)
    exact ret_1 rfl rfl ⟨⟨_, rfl, fun h => by omega⟩, Ext.refl _⟩
theorem get_any (d : Dc) (v : Value) (id : Int) (w : World) (hv : DcAt w v d) : Calls Try.prog 33 #[v, int id] w (Rt fun u w' => u = getR d.notes id ∧ Ext w w') := by
  obtain ⟨sv, tv, nv, rfl, _, _, hn⟩ := hv
  refine calls_E (n := 28) (args := [.agg #[int d.rid, str d.rname, int d.len, int d.day, sv, tv, nv], int id]) Try.func33 rfl Try.ntmps33 (by simp) ?_
  have hn0 := hn
  obtain ⟨a, cap, rfl, hc, hm, hp⟩ := hn.sl
  refine E_seq ?_
  refine E_region ?_
  refine EL_box rfl rfl rfl rfl (fun bB wB xB hbB rB0 => ?_)
  refine EL_alloc rfl rfl rfl (fun bA wA xA hbA rA0 => ?_)
  have rB := rB0.ext xA
  have x0 := xB.trans xA
  have hwB : w.heap.size ≤ bA := by have := xB.size; omega
  (repeat' (first | (refine at_EL ?_; first | refine eN ?_ | refine eV rfl rfl (zB rfl rfl) ?_) | (refine at_K ?_; first | refine K_then ?_) | (refine at_E ?_; first | refine E_seq ?_ | refine E_region ?_ | refine E_block ?_)))
  refine E_loop (ι := Nat) (fun i => [(1, int id), (2, .pointer (some ⟨bB, 0, none⟩)), (4, .pointer (some ⟨bA, 0, none⟩)), (6, int i)])
    (fun i wr => i ≤ d.notes.length ∧ Ext wA wr ∧ ∀ j, j < i → ∀ q, d.notes[j]? = some q → decide (q.id = id) = false) (fun i => d.notes.length - i) 0
    ⟨rfl, rfl, rfl, rfl, trivial⟩ ⟨Nat.zero_le _, Ext.refl _, fun j hj => by omega⟩ ?_
  rintro i wr ⟨hi, hx, hall⟩
  have rBr := rB.ext hx
  by_cases hlt : i < d.notes.length
  · obtain ⟨b, off, rfl⟩ := hp (by omega)
    obtain ⟨q, hq⟩ : ∃ q, d.notes[i]? = some q := ⟨_, List.getElem?_eq_getElem hlt⟩
    have hat := note_elem (hn0.ext (x0.trans hx)) hq
    (repeat' (first | refine eV rfl rfl (val_load rfl rfl rfl (rBr.cellAt rfl)) ?_ | refine eV rfl rfl (val_indexAddr (m := i) rfl rfl rfl rfl hlt) ?_ | refine eV rfl rfl (val_load rfl rfl rfl (hat.cellAt (j := 0) rfl)) ?_ | refine eV rfl rfl (val_loadA rfl rfl rfl hat rfl) ?_ | (refine at_EL ?_; first | refine eN ?_ | refine eV rfl rfl (zA rfl rfl) ?_ | refine eV rfl rfl (zB rfl rfl) ?_ | (refine at_bin ?_; first | refine eD rfl rfl (zL rfl rfl rfl) (fun hh => ?_) (fun hh => ?_) | refine eD rfl rfl (zM rfl rfl rfl) (fun hh => ?_) (fun hh => ?_) | refine eV rfl rfl (zU rfl rfl rfl (by omega) (by omega)) ?_) | (refine at_call ?_; first | refine eV rfl rfl (zK rfl rfl) ?_) | refine eV rfl rfl (zH rfl rfl) ?_) | (refine at_K ?_; first | refine K_then ?_ | refine K_in ?_ | refine K_then_exit ?_ | refine K_in_exit ?_) | (refine at_E ?_; first | refine E_seq ?_ | refine E_region ?_ | refine E_cond_t rfl ?_ | refine E_cond_f rfl ?_ | refine E_block ?_ | refine E_skip ?_ | refine E_exit ?_)))
    all_goals (first | (exfalso; omega) | skip)
    · refine EL_storeP (cs := noteC q) (rA0.ext hx) (x0.trans hx) hwB rfl rfl rfl rfl rfl rfl rfl rfl (Nat.le_refl _) (fun w9 r9 x9 k9 => ?_)
      (repeat' (first | (refine at_EL ?_; first | refine eN ?_ | refine eV rfl rfl (zB rfl rfl) ?_) | (refine at_K ?_; first | refine K_then ?_ | refine K_then_ret ?_ | refine K_in_ret ?_) | (refine at_E ?_; first | refine E_ret ?_)))
      refine ret_ct rfl rfl rfl r9.at rfl rfl ⟨?_, x9⟩
      unfold getR getF
      rw [find_here hall hq (by simpa using ‹q.id = id›)]
      rfl
    · refine K_rnd (i + 1) ⟨rfl, rfl, rfl, rfl, trivial⟩ ⟨by omega, hx, fun j hj q' hq' => ?_⟩ (by omega)
      by_cases hj2 : j < i
      · exact hall j hj2 q' hq'
      · obtain rfl : j = i := by omega
        rw [hq] at hq'; cases hq'
        exact decide_eq_false ‹_›
  · (repeat' (first | refine eV rfl rfl (val_load rfl rfl rfl (rBr.cellAt rfl)) ?_ | refine eV rfl rfl (val_build (vs := []) (noteC zeroN) rfl rfl rfl) ?_ | (refine at_EL ?_; first | refine eN ?_ | refine eV rfl rfl (zA rfl rfl) ?_ | (refine at_bin ?_; first | refine eD rfl rfl (zL rfl rfl rfl) (fun hh => ?_) (fun hh => ?_)) | (refine at_call ?_; first | refine eV rfl rfl (zK rfl rfl) ?_) | refine eV rfl rfl (zH rfl rfl) ?_) | (refine at_K ?_; first | refine K_then ?_ | refine K_then_exit ?_ | refine K_in_exit ?_) | (refine at_E ?_; first | refine E_seq ?_ | refine E_region ?_ | refine E_cond_t rfl ?_ | refine E_cond_f rfl ?_ | refine E_block ?_ | refine E_skip ?_ | refine E_exit ?_)))
    all_goals (first | (exfalso; omega) | skip)
    refine EL_storeP (cs := noteC zeroN) (rA0.ext hx) (x0.trans hx) hwB rfl rfl rfl rfl rfl rfl rfl rfl (Nat.le_refl _) (fun w9 r9 x9 k9 => ?_)
    (repeat' (first | (refine at_EL ?_; first | refine eN ?_ | refine eV rfl rfl (zB rfl rfl) ?_) | (refine at_K ?_; first | refine K_then ?_) | (refine at_E ?_; first | refine E_ret ?_)))
    refine ret_ct rfl rfl rfl r9.at rfl rfl ⟨?_, x9⟩
    unfold getR getF
    rw [List.find?_eq_none.2 fun q hq => ?_]
    · rfl
    · obtain ⟨j, hj⟩ := List.getElem?_of_mem hq
      have := (List.getElem?_eq_some_iff.1 hj).1
      simpa using hall j (by omega) q hj
end Go.Proofs.Ytaajcbhingpfeaa
