/-
  Walks of align: Where, of both.
-/
import Derived.Test.YtnifmbbpfdghmaaGreatDoorWl
import Derived.Test.YtnifmbbpfdghmaaGreatDoorY3
set_option linter.all false
namespace Go.Proofs.YtnifmbbpfdghmaaGreatDoor
open Go.RowKit Go.En
def whereV (d : Dc) (id : Int) : Value := .tuple #[.agg #[int (spanF d id).1, int (spanF d id).2], .bool (whereF d id).isSome]
theorem span_some {d : Dc} {id : Int} {p : Note} (h : whereF d id = some p) : whereV d id = .tuple #[.agg #[int p.frm, int p.til], .bool true] := by
  unfold whereV spanF; rw [h]; rfl
theorem span_none {d : Dc} {id : Int} (h : whereF d id = none) : whereV d id = .tuple #[.agg #[int 0, int 0], .bool false] := by
  unfold whereV spanF; rw [h]; rfl
attribute [local irreducible] E EL K Val Enters Rt Calls bodyPost Code.wp RQ
set_option maxHeartbeats 4000000 in
set_option maxRecDepth 8000 in
theorem where_any {d : Dc} (h : LightD d) (v : Value) (id : Int) (w : World) (hv : DcAt w v d) : Calls Tryz.prog 60 #[v, int id] w (Rt fun u w' => u = whereV d id ∧ Ext w w') := by
  have hd0 := hv
  obtain ⟨sv, tv, nv, rfl, _, ht, hn⟩ := hv
  refine calls_E (n := 35) (args := [.agg #[int d.rid, str d.rname, int d.len, int d.day, sv, tv, nv], int id]) Tryz.func60 rfl Tryz.ntmps60 (by simp) ?_
  refine E_seq ?_
  refine E_region ?_
  refine EL_box rfl rfl rfl rfl (fun bD wD xD hbD rD0 => ?_)
  refine EL_alloc rfl rfl rfl (fun bA wA xA hbA rA0 => ?_)
  have rD : Row wA bD 28 [int d.rid, str d.rname, int d.len, int d.day, sv, tv, nv] := rD0.ext xA
  have rA : Row wA bA 72 [int 0, int 0] := rA0
  have hX := xD.trans xA
  clear rD0 rA0
  have hbAw : w.heap.size ≤ bA := by have := xD.size; omega
  have cg := tget_any d _ id wA (hd0.ext hX)
  rw [getR_cur] at cg
  (repeat' (first | refine eV rfl rfl (val_loadA rfl rfl rfl rD.at rfl) ?_ | (refine EL_call rfl rfl (entersF rfl rfl en82) cg (fun vC wC hC => ?_); obtain ⟨rfl, xC⟩ := hC) | (refine at_EL ?_; first | refine eN ?_ | refine eV rfl rfl (zA rfl rfl) ?_ | refine eV rfl rfl (zB rfl rfl) ?_ | refine eV rfl rfl (zF rfl rfl rfl) ?_) | (refine at_K ?_; first | refine K_then ?_) | (refine at_E ?_; first | refine E_seq ?_ | refine E_region ?_)))
  refine EL_alloc rfl rfl rfl (fun bP wP xP hbP rP0 => ?_)
  refine EL_storeP (cs := noteC (curN d.notes id)) rP0 (xC.trans xP) (by have := xC.size; omega) rfl rfl rfl rfl rfl rfl rfl rfl (Nat.le_refl _) (fun w3 rP1 x3 k3 => ?_)
  have rP : Row w3 bP 74 (noteC (curN d.notes id)) := rP1
  have hbPA : wA.heap.size ≤ bP := by have := xC.size; omega
  clear rP0 rP1 k3 cg
  (repeat' (first | (refine at_EL ?_; first | refine eN ?_ | refine eV rfl rfl (zB rfl rfl) ?_) | (refine at_K ?_; first | refine K_then ?_) | (refine at_E ?_; first | refine E_seq ?_ | refine E_block ?_)))
  refine E_loop (ι := Int) (fun q => [(2, .pointer (some ⟨bD, 0, none⟩)), (4, .pointer (some ⟨bA, 0, none⟩)), (6, .pointer (some ⟨bP, 0, none⟩)), (7, .bool (getF d.notes q).isSome)])
    (fun q wr => Ext wA wr ∧ Row wr bP 74 (noteC (curN d.notes q)) ∧ whereF d q = whereF d id) (fun q => (chainF d q).length) id
    ⟨rfl, rfl, rfl, rfl, trivial⟩ ⟨x3, rP, rfl⟩ ?_
  rintro q wr ⟨hx, rPr, hwq⟩
  have rDr := rD.ext hx
  have rAr := rA.ext hx
  have hXr := hX.trans hx
  cases hg : getF d.notes q with
  | none =>
    (repeat' (first | refine eV rfl rfl (val_build (vs := []) [int 0, int 0] rfl rfl rfl) ?_ | (refine at_EL ?_; first | refine eN ?_ | refine eO rfl rfl ?_ | refine eV rfl rfl (zA rfl rfl) ?_ | refine eV rfl rfl (zD rfl rfl rfl) ?_ | refine eV rfl rfl (zE rfl rfl) ?_) | (refine at_K ?_; first | refine K_then ?_ | refine K_then_exit ?_ | refine K_in_exit ?_) | (refine at_E ?_; first | refine E_seq ?_ | refine E_region ?_ | refine E_cond_t rfl ?_ | refine E_cond_f rfl ?_ | refine E_exit ?_)))
    refine EL_storeP (cs := [int 0, int 0]) rAr hXr hbAw rfl rfl rfl rfl rfl rfl rfl rfl (Nat.le_refl _) (fun w9 r9 x9 k9 => ?_)
    (repeat' (first | (refine at_EL ?_; first | refine eN ?_ | refine eV rfl rfl (zB rfl rfl) ?_) | (refine at_K ?_; first | refine K_then ?_ | refine K_then_ret ?_) | (refine at_E ?_; first | refine E_ret ?_)))
    exact ret_ct rfl rfl rfl r9.at rfl rfl ⟨by rw [span_none (hwq ▸ where_none hg)]; rfl, x9⟩
  | some p =>
    obtain ⟨hpm, hpi⟩ := get_some hg
    have hcp : curN d.notes q = p := by unfold curN; rw [hg]; rfl
    rw [hcp] at rPr
    have ca := ttAligned_any d tv p.tier wr (ht.ext hXr)
    cases hal : alignedB d p.tier with
    | true =>
      rw [hal] at ca
      (repeat' (first | refine eV rfl rfl (val_load rfl rfl rfl (rDr.cellAt rfl)) ?_ | refine eV rfl rfl (val_load rfl rfl rfl (rPr.cellAt rfl)) ?_ | (refine EL_call rfl rfl (entersF rfl rfl en103) ca (fun vE wE hE => ?_); obtain ⟨rfl, xE⟩ := hE) | (refine at_EL ?_; first | refine eN ?_ | refine eV rfl rfl (zA rfl rfl) ?_ | refine eV rfl rfl (zC rfl rfl rfl) ?_ | refine eV rfl rfl (zE rfl rfl) ?_ | refine eV rfl rfl (zH rfl rfl) ?_) | (refine at_K ?_; first | refine K_then ?_ | refine K_then_exit ?_ | refine K_in_exit ?_) | (refine at_E ?_; first | refine E_seq ?_ | refine E_region ?_ | refine E_cond_f rfl ?_ | refine E_skip ?_ | refine E_exit ?_)))
      have rPe := rPr.ext xE
      have at3 : At wE bP (0 + 3) [int p.frm, int p.til] := rPe.at.seg 3 (n := 2)
      (repeat' (first | refine eV rfl rfl (val_loadA rfl rfl rfl at3 rfl) ?_))
      refine EL_storeP (cs := [int p.frm, int p.til]) (rAr.ext xE) (hXr.trans xE) hbAw rfl rfl rfl rfl rfl rfl rfl rfl (Nat.le_refl _) (fun w9 r9 x9 k9 => ?_)
      (repeat' (first | (refine at_EL ?_; first | refine eN ?_ | refine eV rfl rfl (zB rfl rfl) ?_) | (refine at_K ?_; first | refine K_then ?_) | (refine at_E ?_; first | refine E_ret ?_)))
      refine ret_ct rfl rfl rfl r9.at rfl rfl ⟨?_, x9⟩
      have := where_pos h hpm hal
      rw [hpi, hwq] at this
      rw [span_some this]; rfl
    | false =>
      rw [hal] at ca
      (repeat' (first | refine eV rfl rfl (val_load rfl rfl rfl (rDr.cellAt rfl)) ?_ | refine eV rfl rfl (val_load rfl rfl rfl (rPr.cellAt rfl)) ?_ | (refine EL_call rfl rfl (entersF rfl rfl en103) ca (fun vE wE hE => ?_); obtain ⟨rfl, xE⟩ := hE) | (refine at_EL ?_; first | refine eN ?_ | refine eV rfl rfl (zA rfl rfl) ?_ | refine eV rfl rfl (zC rfl rfl rfl) ?_ | refine eV rfl rfl (zE rfl rfl) ?_ | refine eV rfl rfl (zH rfl rfl) ?_) | (refine at_K ?_; first | refine K_then ?_) | (refine at_E ?_; first | refine E_seq ?_ | refine E_region ?_ | refine E_cond_t rfl ?_ | refine E_block ?_ | refine E_skip ?_)))
      have rPe := rPr.ext xE
      have rDe := rDr.ext xE
      have cg2 := tget_any d _ p.parent wE (hd0.ext (hXr.trans xE))
      rw [getR_cur] at cg2
      (repeat' (first | refine eV rfl rfl (val_loadA rfl rfl rfl rDe.at rfl) ?_ | refine eV rfl rfl (val_load rfl rfl rfl (rPe.cellAt rfl)) ?_ | (refine EL_call rfl rfl (entersF rfl rfl en82) cg2 (fun vC wC2 hC => ?_); obtain ⟨rfl, xC2⟩ := hC) | (refine at_EL ?_; first | refine eV rfl rfl (zA rfl rfl) ?_ | refine eV rfl rfl (zF rfl rfl rfl) ?_ | refine eV rfl rfl (zH rfl rfl) ?_)))
      refine EL_storeP (cs := noteC (curN d.notes p.parent)) (rPe.ext xC2) (hx.trans (xE.trans xC2)) hbPA rfl rfl rfl rfl rfl rfl rfl rfl (Nat.le_refl _) (fun w5 rP5 x5 k5 => ?_)
      have rP5' : Row w5 bP 74 (noteC (curN d.notes p.parent)) := rP5
      clear rP5
      (repeat' (first | (refine at_EL ?_; first | refine eN ?_ | refine eV rfl rfl (zB rfl rfl) ?_) | (refine at_K ?_; first | refine K_in ?_)))
      refine K_rnd p.parent ⟨rfl, rfl, rfl, rfl, trivial⟩ ⟨x5, rP5', ?_⟩ ?_
      · have := where_neg h hpm hal
        rw [hpi] at this
        rw [← this, hwq]
      · have := chain_cons h hpm
        rw [hpi] at this
        rw [this]; simp
end Go.Proofs.YtnifmbbpfdghmaaGreatDoor
