/-
  Walks: the reference's Copy of documents.
-/
import Derived.Test.YtjpjpgeeeigbkaaDoorDi
set_option linter.all false
namespace Go.Proofs.YtjpjpgeeeigbkaaDoor
open Go.RowKit Go.En
attribute [local irreducible] E EL K Val Enters Rt Calls bodyPost Code.wp RQ
set_option maxHeartbeats 2000000 in
theorem dcopy_any (d : Dc) (v : Value) (w : World) (hv : DcAt w v d) (h1 : d.sp.length ≤ 100) (h2 : d.tiers.length ≤ 100) (h3 : d.notes.length ≤ 300) :
    Calls Tryd.prog 21 #[v] w (Rt fun u w' => Ext w w' ∧ DcAt w' u d) := by
  obtain ⟨sv, tv, nv, rfl, hs, htv, hnv⟩ := hv
  refine calls_E (n := 21) (args := [.agg #[int d.rid, str d.rname, int d.len, int d.day, sv, tv, nv]]) Tryd.func21 rfl Tryd.ntmps21 (by simp) ?_
  have hs0 := hs
  have ht0 := htv
  have hn0 := hnv
  obtain ⟨aS, cs, rfl, hcs, hms, _⟩ := hs.sl
  obtain ⟨at_, ct, rfl, hct, hmt, _⟩ := htv.sl
  obtain ⟨an, cn, rfl, hcn, hmn, _⟩ := hnv.sl
  obtain ⟨ss, s1, s2⟩ := hs0.css
  obtain ⟨ts, t1, t2⟩ := ht0.css
  obtain ⟨ns, n1, n2⟩ := hn0.css
  have fs : ss.flatten.length = d.sp.length * 1 := AtsG.flat s1
  have ft : ts.flatten.length = d.tiers.length * 4 := AtsG.flat t1
  have fn : ns.flatten.length = d.notes.length * 7 := AtsG.flat n1
  refine E_seq ?_
  refine E_region ?_
  refine EL_box rfl rfl rfl rfl (fun bB wB xB hbB rB0 => ?_)
  refine EL_alloc rfl rfl rfl (fun bA wA xA hbA rA0 => ?_)
  have rB : Row wA bB 36 [int d.rid, str d.rname, int d.len, int d.day, .slice aS d.sp.length cs, .slice at_ d.tiers.length ct, .slice an d.notes.length cn] := rB0.ext xA
  have hBA : bB < bA := by have := rB0.lt; omega
  have hAA : bA < wA.heap.size := rA0.lt
  have hwB : w.heap.size ≤ bB := by omega
  have x0 := xB.trans xA
  -- the speakers
  refine EL_nil ?_
  refine K_then ?_
  refine E_seq ?_
  refine E_region ?_
  refine eL rfl rfl rfl rfl rfl rfl rfl rfl (fun b1 y1 x1 hb1 r1 => ?_)
  have rB1 := rB.ext x1
  (repeat' (first | refine eV rfl rfl (val_load rfl rfl rfl (rB1.cellAt rfl)) ?_ | (refine at_EL ?_; first | refine eV rfl rfl (zH rfl rfl) ?_)))
  refine EL_appO (w0 := wA) (news := ss.flatten) (own_row (n := 0) (size := 1) r1 rfl (by omega) (by omega)) x1 (fun h0 => ?_) rfl rfl rfl rfl rfl fs (AtsG.ones s1) rfl rfl (by omega) (by omega) (fun vJ wJ oJ xJ kJ hJ => ?_)
  · obtain ⟨b, so, e, _, hat⟩ := s2 (by omega)
    exact ⟨b, so, e, hat.ext (x0.trans x1)⟩
  have S1 : SlG (fun b => b ≠ bB ∧ b ≠ bA) wJ vJ d.sp := own_SlG (css := ss) (show wJ.ownsRow wA.heap.size 3 1 vJ d.sp.length ss.flatten by simpa using oJ) (AllAt.mono (fun _ _ h => h) s1) (fun b hb => by omega) rfl (by omega)
  have S1' := S1
  obtain ⟨a1, c1, rfl, _⟩ := S1.sl
  have rBJ := rB.ext xJ
  (repeat' (first | (refine at_EL ?_; first | refine eV rfl rfl (zH rfl rfl) ?_)))
  refine EL_storeP (cs := [_]) rBJ (x0.trans xJ) hwB rfl rfl rfl rfl rfl rfl rfl rfl (by simp) (fun u1 rU1 xU1 kU1 => ?_)
  replace S1' := S1'.move (kU1.mv fun b hb e => by cases e; exact hb.1 rfl)
  have rB2 : Row u1 bB 36 [int d.rid, str d.rname, int d.len, int d.day, .slice a1 d.sp.length c1, .slice at_ d.tiers.length ct, .slice an d.notes.length cn] := rU1
  have rA1 := kU1.row (rA0.ext xJ) (fun e => by cases e; omega)
  have hs1 : wA.heap.size ≤ u1.heap.size := by have := xJ.size; have := kU1.size; omega
  clear rU1 rB1 rBJ oJ kJ hJ
  refine EL_nil ?_
  refine K_then ?_
  refine E_seq ?_
  refine E_region ?_
  refine eL rfl rfl rfl rfl rfl rfl rfl rfl (fun b2 y2 x2 hb2 r2 => ?_)
  have rB1 := rB2.ext x2
  (repeat' (first | refine eV rfl rfl (val_load rfl rfl rfl (rB1.cellAt rfl)) ?_ | (refine at_EL ?_; first | refine eV rfl rfl (zH rfl rfl) ?_)))
  refine EL_appO (w0 := u1) (news := ts.flatten) (own_row (n := 0) (size := 4) r2 rfl (by omega) (by omega)) x2 (fun h0 => ?_) rfl rfl rfl rfl rfl ft (AtsG.ones t1) rfl rfl (by omega) (by omega) (fun vJ wJ oJ xJ kJ hJ => ?_)
  · obtain ⟨b, so, e, _, hat⟩ := t2 (by omega)
    exact ⟨b, so, e, hat.ext (xU1.trans x2)⟩
  have S2 : SlG (fun b => b ≠ bB ∧ b ≠ bA) wJ vJ d.tiers := own_SlG (css := ts) (show wJ.ownsRow u1.heap.size 53 4 vJ d.tiers.length ts.flatten by simpa using oJ) (AllAt.mono (fun _ _ h => h) t1) (fun b hb => by omega) rfl (by omega)
  have S2' := S2
  obtain ⟨a2, c2, rfl, _⟩ := S2.sl
  have rBJ := rB2.ext xJ
  (repeat' (first | (refine at_EL ?_; first | refine eV rfl rfl (zH rfl rfl) ?_)))
  refine EL_storeP (cs := [_]) rBJ (xU1.trans xJ) hwB rfl rfl rfl rfl rfl rfl rfl rfl (by simp) (fun u2 rU xU2 kU => ?_)
  replace S2' := S2'.move (kU.mv fun b hb e => by cases e; exact hb.1 rfl)
  replace S1' := (S1'.ext xJ).move (kU.mv fun b hb e => by cases e; exact hb.1 rfl)
  have rB3 : Row u2 bB 36 [int d.rid, str d.rname, int d.len, int d.day, .slice a1 d.sp.length c1, .slice a2 d.tiers.length c2, .slice an d.notes.length cn] := rU
  have rA2 := kU.row (rA1.ext xJ) (fun e => by cases e; omega)
  have hs2 : wA.heap.size ≤ u2.heap.size := by have := xJ.size; have := kU.size; omega
  clear rU rB1 rBJ oJ kJ hJ
  refine EL_nil ?_
  refine K_then ?_
  refine E_seq ?_
  refine E_region ?_
  refine eL rfl rfl rfl rfl rfl rfl rfl rfl (fun b3 y3 x3 hb3 r3 => ?_)
  have rB1 := rB3.ext x3
  (repeat' (first | refine eV rfl rfl (val_load rfl rfl rfl (rB1.cellAt rfl)) ?_ | (refine at_EL ?_; first | refine eV rfl rfl (zH rfl rfl) ?_)))
  refine EL_appO (w0 := u2) (news := ns.flatten) (own_row (n := 0) (size := 7) r3 rfl (by omega) (by omega)) x3 (fun h0 => ?_) rfl rfl rfl rfl rfl fn (AtsG.ones n1) rfl rfl (by omega) (by omega) (fun vJ wJ oJ xJ kJ hJ => ?_)
  · obtain ⟨b, so, e, _, hat⟩ := n2 (by omega)
    exact ⟨b, so, e, hat.ext (xU2.trans x3)⟩
  have S3 : SlG (fun b => b ≠ bB ∧ b ≠ bA) wJ vJ d.notes := own_SlG (css := ns) (show wJ.ownsRow u2.heap.size 57 7 vJ d.notes.length ns.flatten by simpa using oJ) (AllAt.mono (fun _ _ h => h) n1) (fun b hb => by omega) rfl (by omega)
  have S3' := S3
  obtain ⟨a3, c3, rfl, _⟩ := S3.sl
  have rBJ := rB3.ext xJ
  (repeat' (first | (refine at_EL ?_; first | refine eV rfl rfl (zH rfl rfl) ?_)))
  refine EL_storeP (cs := [_]) rBJ (xU2.trans xJ) hwB rfl rfl rfl rfl rfl rfl rfl rfl (by simp) (fun u3 rU xU3 kU => ?_)
  replace S3' := S3'.move (kU.mv fun b hb e => by cases e; exact hb.1 rfl)
  replace S1' := (S1'.ext xJ).move (kU.mv fun b hb e => by cases e; exact hb.1 rfl)
  replace S2' := (S2'.ext xJ).move (kU.mv fun b hb e => by cases e; exact hb.1 rfl)
  have rB4 : Row u3 bB 36 [int d.rid, str d.rname, int d.len, int d.day, .slice a1 d.sp.length c1, .slice a2 d.tiers.length c2, .slice a3 d.notes.length c3] := rU
  have rA3 := kU.row (rA2.ext xJ) (fun e => by cases e; omega)
  have hs3 : wA.heap.size ≤ u3.heap.size := by have := xJ.size; have := kU.size; omega
  clear rU rB1 rBJ oJ kJ hJ
  (repeat' (first | refine eV rfl rfl (val_loadA rfl rfl rfl rB4.at rfl) ?_ | (refine at_EL ?_; first | refine eN ?_) | (refine at_K ?_; first | refine K_then ?_) | (refine at_E ?_; first | refine E_seq ?_ | refine E_region ?_)))
  refine EL_storeP (cs := [int d.rid, str d.rname, int d.len, int d.day, .slice a1 d.sp.length c1, .slice a2 d.tiers.length c2, .slice a3 d.notes.length c3]) rA3 xU3 (by omega) rfl rfl rfl rfl rfl rfl rfl rfl (Nat.le_refl _) (fun w9 r9 x9 k9 => ?_)
  (repeat' (first | (refine at_EL ?_; first | refine eN ?_) | (refine at_K ?_; first | refine K_then ?_) | (refine at_E ?_; first | refine E_ret ?_)))
  have mv := k9.mv (G := fun b => b ≠ bB ∧ b ≠ bA) fun b hb e => by cases e; exact hb.2 rfl
  exact ret_c rfl rfl rfl r9.at rfl ⟨x9, _, _, _, rfl, (S1'.move mv).any, (S2'.move mv).any, (S3'.move mv).any⟩
end Go.Proofs.YtjpjpgeeeigbkaaDoor
