/-
  Walks of align: Index, Contains, Has; the order of siblings.
-/
import Derived.Test.YtaajcbhingpfeaaWf
import Derived.Test.YtaajcbhingpfeaaY1
set_option linter.all false
namespace Go.Proofs.Ytaajcbhingpfeaa
open Go.RowKit Go.En
/-- the program's order, as a number -/
def ordI (a b : Note) : Int := orI [cmpI a.parent b.parent, cmpI a.frm b.frm, cmpI a.rank b.rank]
theorem ordI_neg (a b : Note) : decide (ordI a b < 0) = ordB a b := by
  have go : ∀ x y z : Int, orI [x, y, z] = if x ≠ 0 then x else if y ≠ 0 then y else z := by
    intro x y z
    unfold orI
    by_cases hx : x = 0
    · by_cases hy : y = 0
      · by_cases hz : z = 0 <;> simp [List.find?, hx, hy, hz]
      · simp [List.find?, hx, hy]
    · simp [List.find?, hx]
  unfold ordI ordB
  rw [go]
  unfold cmpI
  by_cases h1 : a.parent < b.parent <;> by_cases h2 : b.parent < a.parent <;> by_cases h3 : a.frm < b.frm <;> by_cases h4 : b.frm < a.frm <;> by_cases h5 : a.rank < b.rank <;> by_cases h6 : b.rank < a.rank <;> simp only [h1, h2, h3, h4, h5, h6, if_true, if_false] <;> (try omega) <;> simp <;> omega
attribute [local irreducible] E EL K Val Enters Rt Calls bodyPost Code.wp RQ
theorem index_any (l : List Int) (x : Int) (v : Value) (w : World) (hv : Sl w v l) : Calls Try.prog 76 #[v, int x] w (Rt fun u w' => (∃ z : Int, u = int z ∧ (0 ≤ z ↔ x ∈ l)) ∧ Ext w w') := by
  refine calls_E (n := 19) (args := [v, int x]) Try.func76 rfl Try.ntmps76 (by simp) ?_
  have hv0 := hv
  obtain ⟨a, cap, rfl, hc, hm, hp⟩ := hv.sl
  (repeat' (first | (refine at_EL ?_; first | refine eN ?_ | refine eV rfl rfl (zA rfl rfl) ?_ | refine eV rfl rfl (zB rfl rfl) ?_ | (refine at_call ?_; first | refine eV rfl rfl (zK rfl rfl) ?_)) | (refine at_K ?_; first | refine K_then ?_) | (refine at_E ?_; first | refine E_seq ?_ | refine E_region ?_ | refine E_block ?_)))
  refine E_loop (ι := Nat) (fun i => [(0, .slice a l.length cap), (1, int x), (7, int l.length), (8, int i)])
    (fun i wr => i ≤ l.length ∧ Ext w wr ∧ ∀ j, j < i → ∀ y, l[j]? = some y → y ≠ x) (fun i => l.length - i) 0
    ⟨rfl, rfl, rfl, rfl, trivial⟩ ⟨Nat.zero_le _, Ext.refl _, fun j hj => by omega⟩ ?_
  rintro i wr ⟨hi, hx, hall⟩
  by_cases hlt : i < l.length
  · obtain ⟨b, off, rfl⟩ := hp (by omega)
    obtain ⟨y, hyl⟩ : ∃ y, l[i]? = some y := ⟨_, List.getElem?_eq_getElem hlt⟩
    have hcx := int_elem (hv0.ext hx) hyl
    (repeat' (first | refine eV rfl rfl (val_indexAddr (m := i) rfl rfl rfl rfl hlt) ?_ | refine eV rfl rfl (val_load rfl rfl rfl hcx) ?_ | (refine at_EL ?_; first | refine eN ?_ | refine eV rfl rfl (zA rfl rfl) ?_ | refine eV rfl rfl (zB rfl rfl) ?_ | (refine at_bin ?_; first | refine eD rfl rfl (zL rfl rfl rfl) (fun hh => ?_) (fun hh => ?_) | refine eD rfl rfl (zM rfl rfl rfl) (fun hh => ?_) (fun hh => ?_) | refine eV rfl rfl (zU rfl rfl rfl (by omega) (by omega)) ?_)) | (refine at_K ?_; first | refine K_then ?_ | refine K_in ?_ | refine K_then_ret ?_ | refine K_then_exit ?_ | refine K_in_ret ?_ | refine K_in_exit ?_) | (refine at_E ?_; first | refine E_seq ?_ | refine E_region ?_ | refine E_cond_t rfl ?_ | refine E_cond_f rfl ?_ | refine E_block ?_ | refine E_skip ?_ | refine E_ret ?_ | refine E_exit ?_)))
    all_goals (first | (exfalso; omega) | skip)
    · refine ret_1 rfl rfl ⟨⟨_, rfl, ?_⟩, hx⟩
      have he : x = y := ‹_›
      exact ⟨fun _ => he ▸ List.mem_of_getElem? hyl, fun _ => by omega⟩
    · exact K_rnd (i + 1) ⟨rfl, rfl, rfl, rfl, trivial⟩ ⟨by omega, hx, fun j hj z hz => by
        by_cases hj2 : j < i
        · exact hall j hj2 z hz
        · obtain rfl : j = i := by omega
          rw [hyl] at hz; cases hz
          exact fun e => by omega⟩ (by omega)
  · (repeat' (first | (refine at_EL ?_; first | refine eN ?_ | refine eV rfl rfl (zA rfl rfl) ?_ | refine eV rfl rfl (zB rfl rfl) ?_ | (refine at_bin ?_; first | refine eD rfl rfl (zL rfl rfl rfl) (fun hh => ?_) (fun hh => ?_))) | (refine at_K ?_; first | refine K_then ?_ | refine K_then_exit ?_ | refine K_in_exit ?_) | (refine at_E ?_; first | refine E_seq ?_ | refine E_region ?_ | refine E_cond_t rfl ?_ | refine E_cond_f rfl ?_ | refine E_block ?_ | refine E_skip ?_ | refine E_ret ?_ | refine E_exit ?_)))
    all_goals (first | (exfalso; omega) | skip)
    refine ret_1 rfl rfl ⟨⟨_, rfl, ?_⟩, hx⟩
    constructor
    · intro h; exfalso; omega
    · intro hq
      obtain ⟨j, hj⟩ := List.getElem?_of_mem hq
      have := (List.getElem?_eq_some_iff.1 hj).1
      exact absurd rfl (hall j (by omega) x hj)
theorem contains_any (l : List Int) (x : Int) (v : Value) (w : World) (hv : Sl w v l) : Calls Try.prog 60 #[v, int x] w (Rt fun u w' => u = .bool (decide (x ∈ l)) ∧ Ext w w') := by
  refine calls_E (n := 9) (args := [v, int x]) Try.func60 rfl Try.ntmps60 (by simp) ?_
  have c1 := index_any l x v w hv
  (repeat' (first | (refine EL_call rfl rfl (entersF rfl rfl en76) c1 (fun vC wC hC => ?_); obtain ⟨⟨z, rfl, hz⟩, xC⟩ := hC) | (refine at_EL ?_; first | refine eN ?_ | refine eV rfl rfl (zA rfl rfl) ?_ | refine eV rfl rfl (zB rfl rfl) ?_ | (refine at_bin ?_; first | refine eD rfl rfl (zP rfl rfl rfl) (fun hh => ?_) (fun hh => ?_))) | (refine at_K ?_; first | refine K_then ?_) | (refine at_E ?_; first | refine E_seq ?_ | refine E_region ?_ | refine E_ret ?_)))
  all_goals exact ret_1 rfl rfl ⟨by congr 1; symm; first | exact decide_eq_true (hz.1 ‹_›) | exact decide_eq_false (fun e => ‹¬ _› (hz.2 e)), xC⟩
theorem has_any (l : List Int) (x : Int) (v : Value) (w : World) (hv : Sl w v l) : Calls Try.prog 46 #[v, int x] w (Rt fun u w' => u = .bool (decide (x ∈ l)) ∧ Ext w w') := by
  refine calls_E (n := 8) (args := [v, int x]) Try.func46 rfl Try.ntmps46 (by simp) ?_
  have c1 := contains_any l x v w hv
  (repeat' (first | (refine EL_call rfl rfl (entersF rfl rfl en60) c1 (fun vC wC hC => ?_); obtain ⟨rfl, xC⟩ := hC) | (refine at_EL ?_; first | refine eN ?_ | refine eV rfl rfl (zA rfl rfl) ?_ | refine eV rfl rfl (zB rfl rfl) ?_) | (refine at_K ?_; first | refine K_then ?_) | (refine at_E ?_; first | refine E_seq ?_ | refine E_region ?_ | refine E_ret ?_)))
  all_goals exact ret_1 rfl rfl ⟨rfl, xC⟩
set_option maxRecDepth 8000 in
theorem order_any (x y : Note) (w : World) : Calls Try.prog 58 #[.agg (noteC x).toArray, .agg (noteC y).toArray] w (Rt fun u w' => u = int (ordI x y) ∧ Ext w w') := by
  refine calls_E (n := 24) (args := [.agg (noteC x).toArray, .agg (noteC y).toArray]) Try.func58 rfl Try.ntmps58 (by simp) ?_
  refine E_seq ?_
  refine E_region ?_
  refine EL_box rfl rfl rfl rfl (fun bX wX xX hbX rX0 => ?_)
  refine EL_box rfl rfl rfl rfl (fun bY wY xY hbY rY0 => ?_)
  have rX : Row wY bX 48 (noteC x) := rX0.ext xY
  have rY : Row wY bY 48 (noteC y) := rY0
  have hX := xX.trans xY
  clear rX0 rY0
  (repeat' ((fail_if_success (refine E_seq (x := (Code.region 1 _ _)) ?_)); first | (refine at_EL ?_; first | refine eN ?_ | refine eV rfl rfl (zB rfl rfl) ?_) | (refine at_K ?_; first | refine K_then ?_)))
  refine E_seq ?_
  refine E.sub (M := [(2, .pointer (some ⟨bX, 0, none⟩)), (3, .pointer (some ⟨bY, 0, none⟩))]) ⟨rfl, rfl, trivial⟩ ?_
  refine E_dm 20 mixedOk (by kernel_rfl) rfl ?_
  (repeat' (first | refine yV rfl rfl (fun wq _ xq => val_load rfl rfl rfl ((rX.ext xq).cellAt rfl)) ?_ | refine yV rfl rfl (fun wq _ xq => val_load rfl rfl rfl ((rY.ext xq).cellAt rfl)) ?_ | refine RQ_call rfl rfl (fun _ _ _ => entersF rfl rfl en75) (fun wq _ => compare_any _ _ wq) ?_ | refine RQ_lit rfl rfl rfl (fun _ => rfl) rfl rfl rfl rfl ?_ | refine RQ_callV (fun δ => #[δ 22]) rfl rfl (fun _ _ _ => entersF rfl rfl en74) (fun wq δ xq hs => by obtain ⟨bb, he, _, hr⟩ := hs 22 rfl _ rfl; rw [he]; exact or_any [cmpI x.parent y.parent, cmpI x.frm y.frm, cmpI x.rank y.rank] _ wq (row_Sl (css := [[int (cmpI x.parent y.parent)], [int (cmpI x.frm y.frm)], [int (cmpI x.rank y.rank)] ]) hr (ints_ats _ [cmpI x.parent y.parent, cmpI x.frm y.frm, cmpI x.rank y.rank]) (Nat.le_refl _) (by simp))) ?_ | refine RQ_end (fun wq δ xq hR => ?_) | (refine at_EL ?_; first | refine eN ?_) | (refine at_K ?_; first | refine K_then ?_) | (refine at_E ?_; first | refine E_ret ?_) | (refine at_RQ ?_; first | refine yV rfl rfl (fun _ _ _ => zB rfl rfl) ?_ | refine yV rfl rfl (fun _ _ _ => zH rfl rfl) ?_)))
  exact ret_1 rfl rfl ⟨rfl, hX.trans xq⟩
end Go.Proofs.Ytaajcbhingpfeaa
