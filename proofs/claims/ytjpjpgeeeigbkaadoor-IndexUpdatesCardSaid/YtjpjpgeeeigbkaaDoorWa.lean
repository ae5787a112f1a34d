/-
  Walks: the program's compare and place.
-/
import Derived.Test.YtjpjpgeeeigbkaaDoorI
import Derived.Test.YtjpjpgeeeigbkaaDoorY1
import Derived.Test.YtjpjpgeeeigbkaaDoorMa
set_option linter.all false
namespace Go.Proofs.YtjpjpgeeeigbkaaDoor
open Go.RowKit Go.En

theorem post_elem {G : Nat → Prop} {w : World} {b off n cap : Nat} {xs : List Post} (h : SlG G w (.slice (some ⟨b, off, none⟩) n cap) xs) {i : Nat} {x : Post} (hx : xs[i]? = some x) : ∃ iv, At w b (off + i * 3) [int x.role, str x.text, iv] ∧ SlG G w iv x.ids := by
  obtain ⟨cs, ⟨iv, rfl, h1⟩, h2⟩ := h.elem hx
  exact ⟨iv, h2, h1⟩
theorem cmp_1 {p : Post} {r : Int} {t : List UInt8} (h : p.role < r) : cmpF p r t = -1 := by unfold cmpF; exact if_pos (Or.inl h)
theorem cmp_2 {p : Post} {r : Int} {t : List UInt8} (h1 : p.role = r) (h : p.text < t) : cmpF p r t = -1 := by unfold cmpF; exact if_pos (Or.inr ⟨h1, h⟩)
theorem cmp_3 {p : Post} {r : Int} {t : List UInt8} (h1 : p.role = r) (h : p.text = t) : cmpF p r t = 0 := cmp_eq.2 ⟨h1, h⟩
theorem cmp_4 {p : Post} {r : Int} {t : List UInt8} (h1 : ¬ p.role < r) (h : ¬ p.role = r) : cmpF p r t = 1 := by
  have h2 : ¬ ltK p.role p.text r t := by rintro (h3 | ⟨h3, _⟩) <;> contradiction
  unfold cmpF; rw [if_neg h2, if_neg (by rintro ⟨h, _⟩; contradiction)]
theorem cmp_5 {p : Post} {r : Int} {t : List UInt8} (h1 : p.role = r) (h : ¬ p.text < t) (h2 : ¬ p.text = t) : cmpF p r t = 1 := by
  have h3 : ¬ ltK p.role p.text r t := by
    rintro (h3 | ⟨_, h3⟩)
    · omega
    · contradiction
  unfold cmpF; rw [if_neg h3, if_neg (by rintro ⟨_, h⟩; contradiction)]
attribute [local irreducible] E EL K Val Enters Rt Calls bodyPost Code.wp RQ
theorem cmp_any (p : Post) (iv : Value) (r : Int) (t : List UInt8) (w : World) : Calls Tryd.prog 38 #[.agg #[int p.role, str p.text, iv], int r, str t] w (Rt fun u w' => u = int (cmpF p r t) ∧ Ext w w') := by
  refine calls_E (n := 35) (args := [.agg #[int p.role, str p.text, iv], int r, str t]) Tryd.func38 rfl Tryd.ntmps38 (by simp) ?_
  (repeat' (first | refine EL_box rfl rfl rfl rfl (fun bB wB xB hbB rB => ?_) | refine eV rfl rfl (val_load rfl rfl rfl (rB.cellAt rfl)) ?_ | (refine at_EL ?_; first | refine eN ?_ | refine eO rfl rfl ?_ | refine eV rfl rfl (zA rfl rfl) ?_ | refine eV rfl rfl (zB rfl rfl) ?_ | (refine at_bin ?_; first | refine eD rfl rfl (zL rfl rfl rfl) (fun hh => ?_) (fun hh => ?_) | refine eD rfl rfl (zM rfl rfl rfl) (fun hh => ?_) (fun hh => ?_) | refine eD rfl rfl (zR rfl rfl rfl) (fun hh => ?_) (fun hh => ?_) | refine eD rfl rfl (zT rfl rfl rfl) (fun hh => ?_) (fun hh => ?_)) | refine eV rfl rfl (zC rfl rfl rfl) ?_ | refine eV rfl rfl (zD rfl rfl rfl) ?_ | refine eV rfl rfl (zH rfl rfl) ?_) | (refine at_K ?_; first | refine K_then ?_ | refine K_in ?_ | refine K_then_ret ?_ | refine K_in_ret ?_) | (refine at_E ?_; first | refine E_seq ?_ | refine E_region ?_ | refine E_cond_t rfl ?_ | refine E_cond_f rfl ?_ | refine E_block ?_ | refine E_skip ?_ | refine E_ret ?_)))
  all_goals (first | (exfalso; omega) | skip)
  all_goals refine ret_1 rfl rfl ⟨?_, xB⟩
  all_goals (first | (rw [cmp_1 (by assumption)]; done) | (rw [cmp_2 (by assumption) (by assumption)]; done) | (rw [cmp_3 (by assumption) (by assumption)]; done) | (rw [cmp_4 (by assumption) (by assumption)]; done) | (rw [cmp_5 (by assumption) (by assumption) (by assumption)]; done))
theorem place_any (xs : List Post) (v : Value) (r : Int) (t : List UInt8) (w : World) (hv : Sl w v xs) :
    Calls Tryd.prog 42 #[.agg #[v], int r, str t] w (Rt fun u w' => u = .tuple #[int (placeN xs r t), .bool (placeB xs r t)] ∧ Ext w w') := by
  refine calls_E (n := 44) (args := [.agg #[v], int r, str t]) Tryd.func42 rfl Tryd.ntmps42 (by simp) ?_
  have hv0 := hv
  obtain ⟨a, cap, rfl, hc, hm, hp⟩ := hv.sl
  (repeat' (first | refine EL_box rfl rfl rfl rfl (fun bB wB xB hbB rB => ?_) | (refine at_EL ?_; first | refine eN ?_ | refine eV rfl rfl (zB rfl rfl) ?_) | (refine at_K ?_; first | refine K_then ?_) | (refine at_E ?_; first | refine E_seq ?_ | refine E_region ?_ | refine E_block ?_)))
  refine E_loop (ι := Nat) (fun i => [(1, int r), (2, str t), (3, .pointer (some ⟨bB, 0, none⟩)), (8, int i)])
    (fun i wr => i ≤ xs.length ∧ Ext wB wr ∧ ∀ j, j < i → ∀ q, xs[j]? = some q → decide (ltK q.role q.text r t) = true) (fun i => xs.length - i) 0
    ⟨rfl, rfl, rfl, rfl, trivial⟩ ⟨Nat.zero_le _, Ext.refl _, fun j hj => by omega⟩ ?_
  rintro i wr ⟨hi, hx, hall⟩
  have rR := rB.ext hx
  have hvr := hv0.ext (xB.trans hx)
  by_cases hlt : i < xs.length
  · obtain ⟨b, off, rfl⟩ := hp (by omega)
    obtain ⟨q, hq⟩ : ∃ q, xs[i]? = some q := ⟨_, List.getElem?_eq_getElem hlt⟩
    obtain ⟨iv, hat, _⟩ := post_elem hvr hq
    have hnone : ¬ ltK q.role q.text r t → placeN xs r t = i := fun h => takeWhile_stop2 hall hi (fun q' hq' => by rw [hq] at hq'; cases hq'; simpa using h)
    (repeat' (first | refine eV rfl rfl (val_load rfl rfl rfl (rR.cellAt rfl)) ?_ | refine eV rfl rfl (val_indexAddr (m := i) rfl rfl rfl rfl hlt) ?_ | refine eV rfl rfl (val_loadA rfl rfl rfl hat rfl) ?_ | (refine EL_call rfl rfl (entersF rfl rfl en38) (cmp_any q iv r t _) (fun vC wC hC => ?_); obtain ⟨rfl, xC⟩ := hC; replace rR := rR.ext xC; replace hat := hat.ext xC; replace hx := hx.trans xC) | (refine at_EL ?_; first | refine eN ?_ | refine eO rfl rfl ?_ | refine eV rfl rfl (zA rfl rfl) ?_ | refine eV rfl rfl (zB rfl rfl) ?_ | (refine at_bin ?_; first | refine eD rfl rfl (zL rfl rfl rfl) (fun hh => ?_) (fun hh => ?_) | refine eD rfl rfl (zM rfl rfl rfl) (fun hh => ?_) (fun hh => ?_) | refine eV rfl rfl (zU rfl rfl rfl (by omega) (by omega)) ?_) | (refine at_call ?_; first | refine eV rfl rfl (zK rfl rfl) ?_) | refine eV rfl rfl (zC rfl rfl rfl) ?_ | refine eV rfl rfl (zD rfl rfl rfl) ?_ | refine eV rfl rfl (zH rfl rfl) ?_) | (refine at_K ?_; first | refine K_then ?_ | refine K_in ?_ | refine K_then_exit ?_ | refine K_in_exit ?_) | (refine at_E ?_; first | refine E_seq ?_ | refine E_region ?_ | refine E_cond_t rfl ?_ | refine E_cond_f rfl ?_ | refine E_block ?_ | refine E_skip ?_ | refine E_ret ?_ | refine E_exit ?_)))
    all_goals (first | (exfalso; omega) | skip)
    · refine K_rnd (i + 1) ⟨rfl, rfl, rfl, rfl, trivial⟩ ⟨by omega, hx, fun j hj q' hq' => ?_⟩ (by omega)
      by_cases hj2 : j < i
      · exact hall j hj2 q' hq'
      · have : j = i := by omega
        subst this
        rw [hq] at hq'; cases hq'
        exact decide_eq_true (cmp_lt.1 (by assumption))
    · have hpl := hnone (fun h => by have := cmp_lt.2 h; contradiction)
      refine ret_2 rfl rfl rfl ⟨?_, xB.trans hx⟩
      rw [hpl]
      unfold placeB
      rw [hpl, hq]
      have := cmp_eq.1 ‹_›
      simp [this]
    · have hpl := hnone (fun h => by have := cmp_lt.2 h; contradiction)
      refine ret_2 rfl rfl rfl ⟨?_, xB.trans hx⟩
      rw [hpl]
      unfold placeB
      rw [hpl, hq]
      have : ¬ (q.role = r ∧ q.text = t) := fun h => by have := cmp_eq.2 h; contradiction
      simp [this]
  · have hpl : placeN xs r t = i := takeWhile_stop2 hall hi (fun q' hq' => by have := (List.getElem?_eq_some_iff.1 hq').1; omega)
    (repeat' (first | refine eV rfl rfl (val_load rfl rfl rfl (rR.cellAt rfl)) ?_ | (refine at_EL ?_; first | refine eN ?_ | refine eO rfl rfl ?_ | refine eV rfl rfl (zA rfl rfl) ?_ | refine eV rfl rfl (zB rfl rfl) ?_ | (refine at_bin ?_; first | refine eD rfl rfl (zL rfl rfl rfl) (fun hh => ?_) (fun hh => ?_)) | (refine at_call ?_; first | refine eV rfl rfl (zK rfl rfl) ?_) | refine eV rfl rfl (zD rfl rfl rfl) ?_ | refine eV rfl rfl (zH rfl rfl) ?_) | (refine at_K ?_; first | refine K_then ?_ | refine K_then_exit ?_ | refine K_in_exit ?_) | (refine at_E ?_; first | refine E_seq ?_ | refine E_region ?_ | refine E_cond_f rfl ?_ | refine E_ret ?_ | refine E_exit ?_)))
    all_goals (first | (exfalso; omega) | skip)
    refine ret_2 rfl rfl rfl ⟨?_, xB.trans hx⟩
    rw [hpl]
    unfold placeB
    rw [hpl, List.getElem?_eq_none (by omega)]
end Go.Proofs.YtjpjpgeeeigbkaaDoor
