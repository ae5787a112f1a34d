/-
  Walks of the law of match: its example, its small functions, awake.
-/
import Derived.Test.YtnifmbbpfdghmaaGreatDoorNl
import Derived.Test.YtnifmbbpfdghmaaGreatDoorMF
set_option linter.all false
namespace Go.Proofs.YtnifmbbpfdghmaaGreatDoor
open Go.RowKit Go.En
theorem RQ_valV {P : Program} {n : Nat} {ops : List Oper} {Q : Post} {o : Oper} {rest tl : List Oper} {G : List (Nat × Ent)} {w0 : World} {d : Nat} {v : Value} (hg : ggst ops G o = some true) (hd : odst n o.dst = some d)
    (h : ∀ w δ, Ext w0 w → SatO o δ G w → Val P (mat δ G) w o v) (k : RQ P n ops w0 Q rest tl ((d, .v v) :: G)) : RQ P n ops w0 Q (o :: rest) tl G :=
  RW_op (T := .v v) hg (odst_eq hd).2 (fun _ _ _ _ _ h => h) (fun w δ hw hs ρ ha => .inl ⟨v, w, h w δ hw hs ρ ha, rfl, Ext.refl w⟩) (by rw [(odst_eq hd).1]; exact k)
attribute [local irreducible] E EL K Val Enters Rt Calls bodyPost Code.wp RQ
set_option maxRecDepth 8000 in
theorem standard_any (w : World) : Calls Tryz.prog 112 #[] w (Rt fun u w' => Ext w w' ∧ SlG (fun b => w.heap.size ≤ b) w' u exT) := by
  refine calls_E (n := 7) (args := []) Tryz.func112 rfl Tryz.ntmps112 (by simp) ?_
  (repeat' (first | refine eV rfl rfl (val_build (vs := [(0, str [116, 101, 120, 116]), (1, int 0), (2, int 1), (3, int (-1))]) (tierC ⟨[116, 101, 120, 116], 0, 1, -1⟩) rfl rfl rfl) ?_ | refine eV rfl rfl (val_build (vs := [(0, str [119, 111, 114, 100]), (1, int 2), (2, int 2), (3, int 0)]) (tierC ⟨[119, 111, 114, 100], 2, 2, 0⟩) rfl rfl rfl) ?_ | refine eV rfl rfl (val_build (vs := [(0, str [109, 111, 114, 112, 104]), (1, int 3), (2, int 3), (3, int 1)]) (tierC ⟨[109, 111, 114, 112, 104], 3, 3, 1⟩) rfl rfl rfl) ?_ | refine eV rfl rfl (val_build (vs := [(0, str [103, 108, 111, 115, 115]), (1, int 4), (2, int 4), (3, int 2)]) (tierC ⟨[103, 108, 111, 115, 115], 4, 4, 2⟩) rfl rfl rfl) ?_ | refine eV rfl rfl (val_build (vs := [(0, str [102, 114, 101, 101]), (1, int 4), (2, int 5), (3, int 0)]) (tierC ⟨[102, 114, 101, 101], 4, 5, 0⟩) rfl rfl rfl) ?_ | (refine at_EL ?_; first | refine eN ?_ | refine eV rfl rfl (zB rfl rfl) ?_ | refine eL rfl rfl rfl rfl rfl rfl rfl rfl (fun bS wS xS hbS rS => ?_)) | (refine at_K ?_; first | refine K_then ?_) | (refine at_E ?_; first | refine E_seq ?_ | refine E_region ?_ | refine E_ret ?_)))
  exact ret_1 rfl rfl ⟨xS, row_SlG (css := exT.map tierC) rS (tiers_ats _ _) (by omega) (Nat.le_refl _) (by decide)⟩
set_option maxRecDepth 8000 in
theorem example_any (w : World) : Calls Tryz.prog 66 #[] w (Rt fun u w' => Ext w w' ∧ DcAt w' u exD) := by
  refine calls_E (n := 13) (args := []) Tryz.func66 rfl Tryz.ntmps66 (by simp) ?_
  refine E_seq ?_
  refine E_region ?_
  refine EL_alloc rfl rfl rfl (fun bA wA xA hbA rA => ?_)
  have c := standard_any wA
  (repeat' (first | (refine EL_call rfl rfl (entersF rfl rfl en112) c (fun vC wC hC => ?_); obtain ⟨xC, sC⟩ := hC) | refine eV rfl rfl (val_build (vs := [(0, int 1), (2, int 1000)]) [int 1, str [], int 1000, int 0, .slice none 0 0] rfl rfl rfl) ?_ | refine eV rfl rfl (val_build (vs := [(0, int 0), (1, int 900)]) [int 0, int 900] rfl rfl rfl) ?_ | refine eV rfl rfl (val_build (vs := [(0, int 400), (1, int 900)]) [int 400, int 900] rfl rfl rfl) ?_ | refine eV rfl rfl (val_build (vs := [(0, int 0), (1, int 300)]) [int 0, int 300] rfl rfl rfl) ?_ | refine eV rfl rfl (val_build (vs := [(0, int 1), (1, int 0), (3, .agg #[int 0, int 900]), (5, str [98, 97, 32, 109, 105])]) (noteC ⟨1, 0, 0, 0, 900, 0, [98, 97, 32, 109, 105]⟩) rfl rfl rfl) ?_ | refine eV rfl rfl (val_build (vs := [(0, int 2), (1, int 1), (2, int 1), (3, .agg #[int 400, int 900]), (5, str [109, 105])]) (noteC ⟨2, 1, 1, 400, 900, 0, [109, 105]⟩) rfl rfl rfl) ?_ | refine eV rfl rfl (val_build (vs := [(0, int 3), (1, int 1), (2, int 1), (3, .agg #[int 0, int 300]), (5, str [98, 97])]) (noteC ⟨3, 1, 1, 0, 300, 0, [98, 97]⟩) rfl rfl rfl) ?_ | refine eV rfl rfl (val_build (vs := [(0, int 4), (1, int 2), (2, int 3), (5, str [98, 97])]) (noteC ⟨4, 2, 3, 0, 0, 0, [98, 97]⟩) rfl rfl rfl) ?_ | refine eV rfl rfl (val_build (vs := [(0, int 5), (1, int 3), (2, int 4), (5, str [100, 111, 103])]) (noteC ⟨5, 3, 4, 0, 0, 0, [100, 111, 103]⟩) rfl rfl rfl) ?_ | (refine at_EL ?_; first | refine eN ?_ | refine eL rfl rfl rfl rfl rfl rfl rfl rfl (fun bS wS xS hbS rS => ?_)) | (refine at_K ?_; first | refine K_then ?_) | (refine at_E ?_; first | refine E_seq ?_ | refine E_region ?_)))
  have sT := sC.ext xS
  obtain ⟨ta, tc, rfl, _, _, _⟩ := sC.sl
  (repeat' (first | refine eV rfl rfl (val_build (vs := [(0, .agg #[int 1, str [], int 1000, int 0, .slice none 0 0]), (1, .slice ta exT.length tc), (2, .slice (some ⟨bS, 0, none⟩) 5 5)]) [int 1, str [], int 1000, int 0, .slice none 0 0, .slice ta exT.length tc, .slice (some ⟨bS, 0, none⟩) 5 5] rfl rfl rfl) ?_))
  refine EL_storeP (cs := [int 1, str [], int 1000, int 0, .slice none 0 0, .slice ta exT.length tc, .slice (some ⟨bS, 0, none⟩) 5 5]) (rA.ext (xC.trans xS)) (xA.trans (xC.trans xS)) (by omega) rfl rfl rfl rfl rfl rfl rfl rfl (Nat.le_refl _) (fun w9 r9 x9 k9 => ?_)
  have hbAC : bA < wA.heap.size := rA.lt
  have r9' : Row w9 bA 28 [int 1, str [], int 1000, int 0, .slice none 0 0, .slice ta exT.length tc, .slice (some ⟨bS, 0, none⟩) 5 5] := r9
  have sT9 : Sl w9 (.slice ta exT.length tc) exT := (sT.move (k9.mv (G := fun b => wA.heap.size ≤ b) (fun b hb e => by cases e; exact absurd hb (by omega)))).any
  have rS9 := k9.row rS (fun e => by cases e; have := xC.size; omega)
  have sN9 : Sl w9 (.slice (some ⟨bS, 0, none⟩) 5 5) exN := row_Sl (xs := exN) (css := exN.map noteC) rS9 (notes_ats _ _) (Nat.le_refl _) (by decide)
  (repeat' (first | (refine at_EL ?_; first | refine eN ?_) | (refine at_K ?_; first | refine K_then ?_) | (refine at_E ?_; first | refine E_ret ?_)))
  exact ret_c rfl rfl rfl r9'.at rfl ⟨x9, .slice none 0 0, _, _, rfl, SlG.nil, sT9, sN9⟩
theorem lit_ints {w : World} {b : Nat} (l : List Int) (hl : l.length ≤ 1000) (h : Row w b 3 (l.map int)) : Sl w (.slice (some ⟨b, 0, none⟩) l.length l.length) l :=
  row_Sl (css := l.map fun z => [int z]) (by rw [ints_flat]; exact h) (ints_ats _ _) (Nat.le_refl _) (by omega)
theorem ok_text (role : Int) (p : List UInt8) : okQ (textQ role p) := by
  unfold textQ okQ
  exact ⟨by omega, by omega, rfl, by unfold okAll; trivial⟩
theorem ok_two {op : Int} {a b : Qy} (h0 : op ≠ 0) (h3 : op ≠ 3) (h1 : 0 ≤ op) (h2 : op ≤ 6) (ha : okQ a) (hb : okQ b) : okQ (twoQ op a b) := by
  unfold twoQ okQ
  exact ⟨h1, h2, by unfold kidsC; rw [if_neg h0, if_neg h3]; rfl, by unfold okAll okAll okAll; exact ⟨ha, hb, trivial⟩⟩
theorem ok_not {role : Int} {a : Qy} (ha : okQ a) : okQ (notQ role a) := by
  unfold notQ okQ
  exact ⟨by omega, by omega, rfl, by unfold okAll okAll; exact ⟨ha, trivial⟩⟩
def textV (role : Int) (p : List UInt8) : Value := .agg #[int 0, int role, str p, .slice none 0 0]
theorem textV_at (w : World) (role : Int) (p : List UInt8) : QAt w (textV role p) (textQ role p) := ⟨_, rfl, SlG.nil⟩
theorem text34_any (role : Int) (p : List UInt8) (w : World) : Calls Tryz.prog 34 #[int role, str p] w (Rt fun u w' => u = textV role p ∧ Ext w w') := by
  refine calls_E (n := 8) (args := [int role, str p]) Tryz.func34 rfl Tryz.ntmps34 (by simp) ?_
  refine E_seq ?_
  refine E_region ?_
  refine EL_alloc rfl rfl rfl (fun bA wA xA hbA rA => ?_)
  (repeat' (first | refine eV rfl rfl (val_build (vs := [(0, int 0), (1, int role), (2, str p)]) [int 0, int role, str p, .slice none 0 0] rfl rfl rfl) ?_ | (refine at_EL ?_; first | refine eN ?_ | refine eV rfl rfl (zA rfl rfl) ?_) | (refine at_K ?_; first | refine K_then ?_) | (refine at_E ?_; first | refine E_seq ?_ | refine E_region ?_)))
  refine EL_storeP (cs := [int 0, int role, str p, .slice none 0 0]) rA xA (by omega) rfl rfl rfl rfl rfl rfl rfl rfl (Nat.le_refl _) (fun w9 r9 x9 k9 => ?_)
  have r9' : Row w9 bA 36 [int 0, int role, str p, .slice none 0 0] := r9
  (repeat' (first | (refine at_EL ?_; first | refine eN ?_) | (refine at_K ?_; first | refine K_then ?_) | (refine at_E ?_; first | refine E_ret ?_)))
  exact ret_c rfl rfl rfl r9'.at rfl ⟨rfl, x9⟩
theorem qat_rep {w : World} {q : Qy} {kv : Value} (h : Sl w kv q.kids) : Rep.at_ Tt w q [int q.op, int q.role, str q.text, kv] := by
  cases q
  exact qy_of h
set_option maxHeartbeats 4000000 in
set_option maxRecDepth 8000 in
theorem two32_any (op : Int) (a b : Qy) (u v : Value) (w : World) (ha : QAt w u a) (hb : QAt w v b) : Calls Tryz.prog 32 #[int op, u, v] w (Rt fun r w' => Ext w w' ∧ QAt w' r (twoQ op a b)) := by
  obtain ⟨ka, rfl, sa⟩ := ha
  obtain ⟨kb, rfl, sb⟩ := hb
  have oa := sa.old
  have ob := sb.old
  obtain ⟨a1, c1, rfl, _, _, _⟩ := sa.sl
  obtain ⟨a2, c2, rfl, _, _, _⟩ := sb.sl
  refine calls_E (n := 12) (args := [int op, .agg #[int a.op, int a.role, str a.text, .slice a1 a.kids.length c1], .agg #[int b.op, int b.role, str b.text, .slice a2 b.kids.length c2]]) Tryz.func32 rfl Tryz.ntmps32 (by simp) ?_
  refine E_seq ?_
  refine E_region ?_
  refine EL_box rfl rfl rfl rfl (fun bU wU xU hbU rU0 => ?_)
  have rU : Row wU bU 36 [int a.op, int a.role, str a.text, .slice a1 a.kids.length c1] := rU0
  refine EL_box rfl rfl rfl rfl (fun bV wV xV hbV rV0 => ?_)
  have rV : Row wV bV 36 [int b.op, int b.role, str b.text, .slice a2 b.kids.length c2] := rV0
  refine EL_alloc rfl rfl rfl (fun bA wA xA hbA rA => ?_)
  have rUA := (rU.ext xV).ext xA
  have rVA := rV.ext xA
  have XA := (xU.trans xV).trans xA
  have hbw : w.heap.size ≤ bA := by have := (xU.trans xV).size; omega
  clear rU0 rV0
  (repeat' (first | refine eV rfl rfl (val_loadA rfl rfl rfl rUA.at rfl) ?_ | refine eV rfl rfl (val_loadA rfl rfl rfl rVA.at rfl) ?_ | (refine at_EL ?_; first | refine eN ?_ | refine eV rfl rfl (zA rfl rfl) ?_ | refine eL rfl rfl rfl rfl rfl rfl rfl rfl (fun bS wS xS hbS rS => ?_)) | (refine at_K ?_; first | refine K_then ?_) | (refine at_E ?_; first | refine E_seq ?_ | refine E_region ?_)))
  (repeat' (first | refine eV rfl rfl (val_build (vs := [(0, int op), (3, .slice (some ⟨bS, 0, none⟩) 2 2)]) [int op, int 0, str [], .slice (some ⟨bS, 0, none⟩) 2 2] rfl rfl rfl) ?_))
  have XS := XA.trans xS
  have hbAlt : bA < wA.heap.size := rA.lt
  refine EL_storeP (cs := [int op, int 0, str [], .slice (some ⟨bS, 0, none⟩) 2 2]) (rA.ext xS) XS hbw rfl rfl rfl rfl rfl rfl rfl rfl (Nat.le_refl _) (fun w9 r9 x9 k9 => ?_)
  have r9' : Row w9 bA 36 [int op, int 0, str [], .slice (some ⟨bS, 0, none⟩) 2 2] := r9
  have rS9 := k9.row rS (fun e => by cases e; omega)
  have mv : ∀ {α : Type} [Rep α] {v : Value} {xs : List α}, SlG (fun b => b < w.heap.size) w v xs → Sl w9 v xs := fun h => ((h.ext XS).move (k9.mv (G := fun b => b < w.heap.size) (fun b hb e => by cases e; omega))).any
  (repeat' (first | (refine at_EL ?_; first | refine eN ?_) | (refine at_K ?_; first | refine K_then ?_) | (refine at_E ?_; first | refine E_ret ?_)))
  exact ret_c rfl rfl rfl r9'.at rfl ⟨x9, _, rfl, row_Sl (xs := [a, b]) (css := [[int a.op, int a.role, str a.text, .slice a1 a.kids.length c1], [int b.op, int b.role, str b.text, .slice a2 b.kids.length c2]]) rS9 ⟨qat_rep (mv oa), qat_rep (mv ob), trivial⟩ (Nat.le_refl _) (by simp)⟩
set_option maxHeartbeats 4000000 in
set_option maxRecDepth 8000 in
theorem not35_any (role : Int) (a : Qy) (u : Value) (w : World) (ha : QAt w u a) : Calls Tryz.prog 35 #[int role, u] w (Rt fun r w' => Ext w w' ∧ QAt w' r (notQ role a)) := by
  obtain ⟨ka, rfl, sa⟩ := ha
  have oa := sa.old
  obtain ⟨a1, c1, rfl, _, _, _⟩ := sa.sl
  refine calls_E (n := 9) (args := [int role, .agg #[int a.op, int a.role, str a.text, .slice a1 a.kids.length c1]]) Tryz.func35 rfl Tryz.ntmps35 (by simp) ?_
  refine E_seq ?_
  refine E_region ?_
  refine EL_box rfl rfl rfl rfl (fun bU wU xU hbU rU0 => ?_)
  have rU : Row wU bU 36 [int a.op, int a.role, str a.text, .slice a1 a.kids.length c1] := rU0
  refine EL_alloc rfl rfl rfl (fun bA wA xA hbA rA => ?_)
  have rUA := rU.ext xA
  have XA := xU.trans xA
  have hbw : w.heap.size ≤ bA := by have := xU.size; omega
  clear rU0
  (repeat' (first | refine eV rfl rfl (val_loadA rfl rfl rfl rUA.at rfl) ?_ | (refine at_EL ?_; first | refine eN ?_ | refine eV rfl rfl (zA rfl rfl) ?_ | refine eL rfl rfl rfl rfl rfl rfl rfl rfl (fun bS wS xS hbS rS => ?_)) | (refine at_K ?_; first | refine K_then ?_) | (refine at_E ?_; first | refine E_seq ?_ | refine E_region ?_)))
  (repeat' (first | refine eV rfl rfl (val_build (vs := [(0, int 3), (1, int role), (3, .slice (some ⟨bS, 0, none⟩) 1 1)]) [int 3, int role, str [], .slice (some ⟨bS, 0, none⟩) 1 1] rfl rfl rfl) ?_))
  have XS := XA.trans xS
  have hbAlt : bA < wA.heap.size := rA.lt
  refine EL_storeP (cs := [int 3, int role, str [], .slice (some ⟨bS, 0, none⟩) 1 1]) (rA.ext xS) XS hbw rfl rfl rfl rfl rfl rfl rfl rfl (Nat.le_refl _) (fun w9 r9 x9 k9 => ?_)
  have r9' : Row w9 bA 36 [int 3, int role, str [], .slice (some ⟨bS, 0, none⟩) 1 1] := r9
  have rS9 := k9.row rS (fun e => by cases e; omega)
  have mv : ∀ {α : Type} [Rep α] {v : Value} {xs : List α}, SlG (fun b => b < w.heap.size) w v xs → Sl w9 v xs := fun h => ((h.ext XS).move (k9.mv (G := fun b => b < w.heap.size) (fun b hb e => by cases e; omega))).any
  (repeat' (first | (refine at_EL ?_; first | refine eN ?_) | (refine at_K ?_; first | refine K_then ?_) | (refine at_E ?_; first | refine E_ret ?_)))
  exact ret_c rfl rfl rfl r9'.at rfl ⟨x9, _, rfl, row_Sl (xs := [a]) (css := [[int a.op, int a.role, str a.text, .slice a1 a.kids.length c1]]) rS9 ⟨qat_rep (mv oa), trivial⟩ (Nat.le_refl _) (by simp)⟩
/-- what holds all through awake -/
structure AW (w0 w : World) (V : Value) (CS : List Value) (b1 b2 b3 b4 : Nat) : Prop where
  x : Ext w0 w
  d : DcAt w V exD
  r1 : Row w b1 28 CS
  r2 : Row w b2 36 [int 0, int 2, str baT, .slice none 0 0]
  r3 : Row w b3 36 [int 0, int 2, str miT, .slice none 0 0]
  r4 : Row w b4 36 [int 0, int 4, str dogT, .slice none 0 0]
  t : Tabs w
theorem AW.ext {w0 w w' : World} {V : Value} {CS : List Value} {b1 b2 b3 b4 : Nat} (h : AW w0 w V CS b1 b2 b3 b4) (x : Ext w w') : AW w0 w' V CS b1 b2 b3 b4 :=
  ⟨h.x.trans x, h.d.ext x, h.r1.ext x, h.r2.ext x, h.r3.ext x, h.r4.ext x, Tabs.ext h.t x⟩
theorem eval_ex {q : Qy} {l : List Int} (hl : evF matchF exD q = l) (hok : okQ q) (V qv : Value) (w : World) (hd : DcAt w V exD) (hq : QAt w qv q) (hT : Tabs w) : Calls Tryz.prog 28 #[V, qv] w (Rt fun u w' => Ext w w' ∧ Sl w' u l) := by
  have := eval_any ex_light q hok V qv w hd hq hT
  rw [hl] at this
  exact calls_mono this fun _ _ h => ⟨h.1, h.2.any⟩
theorem holds_ex {q : Qy} {l : List Int} {b : Bool} (id : Int) (hl : evF matchF exD q = l) (hb : decide (id ∈ l) = b) (hok : okQ q) (V qv : Value) (w : World) (hd : DcAt w V exD) (hq : QAt w qv q) (hT : Tabs w) : Calls Tryz.prog 30 #[V, qv, int id] w (Rt fun u w' => u = .bool b ∧ Ext w w') := by
  have := holds_any ex_light q hok V qv id w hd hq hT
  rw [hl, hb] at this
  exact this
theorem ok_two2 {op : Int} {ra rb : Int} {pa pb : List UInt8} (h : (op ≠ 0 ∧ op ≠ 3) ∧ 0 ≤ op ∧ op ≤ 6) : okQ (twoQ op (textQ ra pa) (textQ rb pb)) := ok_two h.1.1 h.1.2 h.2.1 h.2.2 (ok_text _ _) (ok_text _ _)
set_option maxHeartbeats 8000000 in
set_option maxRecDepth 8000 in
theorem mawake_any (w : World) (hT : Tabs w) : Calls Tryz.prog 19 #[] w (Rt fun u w' => u = .bool true ∧ Ext w w') := by
  refine calls_E (n := 74) (args := []) Tryz.func19 rfl Tryz.ntmps19 (by simp) ?_
  have ce := example_any w
  (repeat' (first | (refine EL_call rfl rfl (entersF rfl rfl en66) ce (fun vC wC hC => ?_); obtain ⟨xC, dC⟩ := hC) | (refine at_EL ?_; first | refine eN ?_ | refine eV rfl rfl (zB rfl rfl) ?_) | (refine at_K ?_; first | refine K_then ?_) | (refine at_E ?_; first | refine E_seq ?_ | refine E_region ?_)))
  have hD := dC
  obtain ⟨sv, tv, nv, rfl, q1, q2, q3⟩ := dC
  obtain ⟨a1, c1, rfl, _, _, _⟩ := q1.sl
  obtain ⟨a2, c2, rfl, _, _, _⟩ := q2.sl
  obtain ⟨a3, c3, rfl, _, _, _⟩ := q3.sl
  obtain ⟨CS, hCS⟩ : ∃ CS, CS = [int exD.rid, str exD.rname, int exD.len, int exD.day, .slice a1 exD.sp.length c1, .slice a2 exD.tiers.length c2, .slice a3 exD.notes.length c3] := ⟨_, rfl⟩
  obtain ⟨V, hV⟩ : ∃ V, V = Value.agg #[int exD.rid, str exD.rname, int exD.len, int exD.day, .slice a1 exD.sp.length c1, .slice a2 exD.tiers.length c2, .slice a3 exD.notes.length c3] := ⟨_, rfl⟩
  have hVa : V = .agg CS.toArray := by rw [hV, hCS]
  have hCl : CS.length = 7 := by rw [hCS]; rfl
  have hC1 : CS.all Value.oneCell' = true := by rw [hCS]; rfl
  have hCc : V.cells.toList = CS := by rw [hV, hCS]; rfl
  rw [← hV] at hD ⊢
  refine EL_alloc rfl rfl rfl (fun b1 w1 x1 hb1 r10 => ?_)
  refine EL_storeP (cs := CS) r10 x1 (by omega) rfl rfl rfl rfl rfl hCc (by rw [hCl]; rfl) hC1 (by rw [hCl]; exact Nat.le_refl _) (fun w2 r11 x2 k2 => ?_)
  have r1 : Row w2 b1 28 CS := by
    subst hCS
    exact r11
  clear r10 r11 k2
  replace hD := hD.ext x2
  have hX := xC.trans x2
  (repeat' (first | (refine EL_call rfl rfl (entersF rfl rfl en34) (text34_any 2 baT _) (fun vE wE hE => ?_); obtain ⟨rfl, xE⟩ := hE) | (refine EL_call rfl rfl (entersF rfl rfl en34) (text34_any 2 miT _) (fun vE wE2 hE => ?_); obtain ⟨rfl, xE2⟩ := hE) | (refine at_EL ?_; first | refine eN ?_) | (refine at_K ?_; first | refine K_then ?_) | (refine at_E ?_; first | refine E_seq ?_ | refine E_region ?_)))
  refine EL_alloc rfl rfl rfl (fun b2 w3 x3 hb2 r20 => ?_)
  refine EL_alloc rfl rfl rfl (fun b3 w4 x4 hb3 r30 => ?_)
  have xq := (xE.trans xE2).trans x3
  refine EL_storeP (cs := [int 0, int 2, str baT, .slice none 0 0]) (r20.ext x4) (xq.trans x4) (by have := (xE.trans xE2).size; omega) rfl rfl rfl rfl rfl rfl rfl rfl (Nat.le_refl _) (fun w5 r21 x5 k5 => ?_)
  have h23 : b3 ≠ b2 := fun e => by have := r20.lt; omega
  refine EL_storeP (cs := [int 0, int 2, str miT, .slice none 0 0]) (k5.row r30 (fun e => h23 (Option.some.inj e))) x5 (by have := xq.size; omega) rfl rfl rfl rfl rfl rfl rfl rfl (Nat.le_refl _) (fun w6 r31 x6 k6 => ?_)
  have r2 : Row w6 b2 36 [int 0, int 2, str baT, .slice none 0 0] := k6.row (show Row w5 b2 36 [int 0, int 2, str baT, .slice none 0 0] from r21) (fun e => h23 (Option.some.inj e).symm)
  have r3 : Row w6 b3 36 [int 0, int 2, str miT, .slice none 0 0] := r31
  clear r20 r30 r21 r31 k5 k6
  (repeat' (first | (refine EL_call rfl rfl (entersF rfl rfl en34) (text34_any 4 dogT _) (fun vE wE hE => ?_); obtain ⟨rfl, xE⟩ := hE) | (refine at_EL ?_; first | refine eN ?_) | (refine at_K ?_; first | refine K_then ?_) | (refine at_E ?_; first | refine E_seq ?_ | refine E_region ?_)))
  refine EL_alloc rfl rfl rfl (fun b4 w7 x7 hb4 r40 => ?_)
  refine EL_storeP (cs := [int 0, int 4, str dogT, .slice none 0 0]) r40 (xE.trans x7) (by have := xE.size; omega) rfl rfl rfl rfl rfl rfl rfl rfl (Nat.le_refl _) (fun w8 r41 x8 k8 => ?_)
  have r4 : Row w8 b4 36 [int 0, int 4, str dogT, .slice none 0 0] := r41
  have x28 := x6.trans x8
  have I : AW w w8 V CS b1 b2 b3 b4 := ⟨hX.trans x28, hD.ext x28, r1.ext x28, r2.ext x8, r3.ext x8, r4, Tabs.ext hT (hX.trans x28)⟩
  clear r1 r2 r3 r4 r40 r41 k8 hD hX
  (repeat' (first | (refine at_EL ?_; first | refine eN ?_) | (refine at_K ?_; first | refine K_then ?_) | (refine at_E ?_; first | refine E_seq ?_)))
  refine E.sub (M := [(1, .pointer (some ⟨b1, 0, none⟩)), (2, .pointer (some ⟨b2, 0, none⟩)), (3, .pointer (some ⟨b3, 0, none⟩)), (4, .pointer (some ⟨b4, 0, none⟩))]) ⟨rfl, rfl, rfl, rfl, trivial⟩ ?_
  refine E_dm 66 mixedOk (by kernel_rfl) rfl ?_
  (repeat' (first | refine yV (v := V) rfl rfl (fun wq _ xq => by rw [hVa]; exact val_loadA rfl rfl rfl (I.ext xq).r1.at hCl) ?_ | refine yV rfl rfl (fun wq _ xq => val_loadA rfl rfl rfl (I.ext xq).r2.at rfl) ?_ | refine yV rfl rfl (fun wq _ xq => val_loadA rfl rfl rfl (I.ext xq).r3.at rfl) ?_ | refine yV rfl rfl (fun wq _ xq => val_loadA rfl rfl rfl (I.ext xq).r4.at rfl) ?_ | (refine RQ_callR (f := 32) (fun u w' => QAt w' u (twoQ 4 (textQ 2 baT) (textQ 2 miT))) (fun _ => #[int 4, .agg #[int 0, int 2, str baT, .slice none 0 0], .agg #[int 0, int 2, str miT, .slice none 0 0] ]) rfl rfl (fun _ _ _ _ xe h => QAt.ext h xe) (fun _ _ _ => entersF rfl rfl en32) (fun wq _ xq _ => ?_) ?_; exact calls_mono (two32_any 4 (textQ 2 baT) (textQ 2 miT) _ _ wq ⟨_, rfl, SlG.nil⟩ ⟨_, rfl, SlG.nil⟩) (fun _ _ hh => ⟨hh.2, hh.1⟩)) | (refine RQ_callR (f := 32) (fun u w' => QAt w' u (twoQ 4 (textQ 2 miT) (textQ 2 baT))) (fun _ => #[int 4, .agg #[int 0, int 2, str miT, .slice none 0 0], .agg #[int 0, int 2, str baT, .slice none 0 0] ]) rfl rfl (fun _ _ _ _ xe h => QAt.ext h xe) (fun _ _ _ => entersF rfl rfl en32) (fun wq _ xq _ => ?_) ?_; exact calls_mono (two32_any 4 (textQ 2 miT) (textQ 2 baT) _ _ wq ⟨_, rfl, SlG.nil⟩ ⟨_, rfl, SlG.nil⟩) (fun _ _ hh => ⟨hh.2, hh.1⟩)) | refine RQ_call rfl rfl (fun _ _ _ => entersF rfl rfl en34) (fun wq xq => text34_any 2 starT wq) ?_ | (refine RQ_callR (f := 32) (fun u w' => QAt w' u (twoQ 6 (textQ 2 starT) (textQ 4 dogT))) (fun _ => #[int 6, textV 2 starT, .agg #[int 0, int 4, str dogT, .slice none 0 0] ]) rfl rfl (fun _ _ _ _ xe h => QAt.ext h xe) (fun _ _ _ => entersF rfl rfl en32) (fun wq _ xq _ => ?_) ?_; exact calls_mono (two32_any 6 (textQ 2 starT) (textQ 4 dogT) _ _ wq ⟨_, rfl, SlG.nil⟩ ⟨_, rfl, SlG.nil⟩) (fun _ _ hh => ⟨hh.2, hh.1⟩)) | (refine RQ_callR (f := 32) (fun u w' => QAt w' u (twoQ 5 (textQ 4 dogT) (textQ 2 baT))) (fun _ => #[int 5, .agg #[int 0, int 4, str dogT, .slice none 0 0], .agg #[int 0, int 2, str baT, .slice none 0 0] ]) rfl rfl (fun _ _ _ _ xe h => QAt.ext h xe) (fun _ _ _ => entersF rfl rfl en32) (fun wq _ xq _ => ?_) ?_; exact calls_mono (two32_any 5 (textQ 4 dogT) (textQ 2 baT) _ _ wq ⟨_, rfl, SlG.nil⟩ ⟨_, rfl, SlG.nil⟩) (fun _ _ hh => ⟨hh.2, hh.1⟩)) | (refine RQ_callR (f := 32) (fun u w' => QAt w' u (twoQ 2 (textQ 2 baT) (textQ 2 miT))) (fun _ => #[int 2, .agg #[int 0, int 2, str baT, .slice none 0 0], .agg #[int 0, int 2, str miT, .slice none 0 0] ]) rfl rfl (fun _ _ _ _ xe h => QAt.ext h xe) (fun _ _ _ => entersF rfl rfl en32) (fun wq _ xq _ => ?_) ?_; exact calls_mono (two32_any 2 (textQ 2 baT) (textQ 2 miT) _ _ wq ⟨_, rfl, SlG.nil⟩ ⟨_, rfl, SlG.nil⟩) (fun _ _ hh => ⟨hh.2, hh.1⟩)) | (refine RQ_callR (f := 32) (fun u w' => QAt w' u (twoQ 1 (textQ 2 baT) (textQ 2 miT))) (fun _ => #[int 1, .agg #[int 0, int 2, str baT, .slice none 0 0], .agg #[int 0, int 2, str miT, .slice none 0 0] ]) rfl rfl (fun _ _ _ _ xe h => QAt.ext h xe) (fun _ _ _ => entersF rfl rfl en32) (fun wq _ xq _ => ?_) ?_; exact calls_mono (two32_any 1 (textQ 2 baT) (textQ 2 miT) _ _ wq ⟨_, rfl, SlG.nil⟩ ⟨_, rfl, SlG.nil⟩) (fun _ _ hh => ⟨hh.2, hh.1⟩)) | (refine RQ_callR (f := 35) (fun u w' => QAt w' u (notQ 2 (textQ 2 baT))) (fun _ => #[int 2, .agg #[int 0, int 2, str baT, .slice none 0 0] ]) rfl rfl (fun _ _ _ _ xe h => QAt.ext h xe) (fun _ _ _ => entersF rfl rfl en35) (fun wq _ xq _ => ?_) ?_; exact calls_mono (not35_any 2 (textQ 2 baT) _ wq ⟨_, rfl, SlG.nil⟩) (fun _ _ hh => ⟨hh.2, hh.1⟩)) | (refine RQ_callR (f := 28) (fun u w' => Sl w' u ([3] : List Int)) (fun δ => #[V, δ 12]) rfl rfl (fun _ _ _ _ xe h => SlG.ext h xe) (fun _ _ _ => entersF rfl rfl en28) (fun wq δ xq hd => ?_) ?_; exact calls_mono (eval_ex ev_then1 (ok_two2 (by decide)) _ _ wq (I.ext xq).d (hd 12 rfl _ rfl) (I.ext xq).t) (fun _ _ hh => ⟨hh.2, hh.1⟩)) | (refine RQ_callR (f := 28) (fun u w' => Sl w' u ([] : List Int)) (fun δ => #[V, δ 20]) rfl rfl (fun _ _ _ _ xe h => SlG.ext h xe) (fun _ _ _ => entersF rfl rfl en28) (fun wq δ xq hd => ?_) ?_; exact calls_mono (eval_ex ev_then2 (ok_two2 (by decide)) _ _ wq (I.ext xq).d (hd 20 rfl _ rfl) (I.ext xq).t) (fun _ _ hh => ⟨hh.2, hh.1⟩)) | (refine RQ_callR (f := 28) (fun u w' => Sl w' u ([3] : List Int)) (fun δ => #[V, δ 29]) rfl rfl (fun _ _ _ _ xe h => SlG.ext h xe) (fun _ _ _ => entersF rfl rfl en28) (fun wq δ xq hd => ?_) ?_; exact calls_mono (eval_ex ev_has (ok_two2 (by decide)) _ _ wq (I.ext xq).d (hd 29 rfl _ rfl) (I.ext xq).t) (fun _ _ hh => ⟨hh.2, hh.1⟩)) | (refine RQ_callR (f := 28) (fun u w' => Sl w' u ([5] : List Int)) (fun δ => #[V, δ 38]) rfl rfl (fun _ _ _ _ xe h => SlG.ext h xe) (fun _ _ _ => entersF rfl rfl en28) (fun wq δ xq hd => ?_) ?_; exact calls_mono (eval_ex ev_within (ok_two2 (by decide)) _ _ wq (I.ext xq).d (hd 38 rfl _ rfl) (I.ext xq).t) (fun _ _ hh => ⟨hh.2, hh.1⟩)) | (refine RQ_callR (f := 28) (fun u w' => Sl w' u ([2] : List Int)) (fun δ => #[V, δ 46]) rfl rfl (fun _ _ _ _ xe h => SlG.ext h xe) (fun _ _ _ => entersF rfl rfl en28) (fun wq δ xq hd => ?_) ?_; exact calls_mono (eval_ex ev_not (ok_not (ok_text _ _)) _ _ wq (I.ext xq).d (hd 46 rfl _ rfl) (I.ext xq).t) (fun _ _ hh => ⟨hh.2, hh.1⟩)) | refine RQ_lit rfl rfl rfl (fun _ => rfl) rfl rfl rfl rfl ?_ | (refine RQ_callV (f := 20) (v := .bool true) (fun δ => #[δ 13, δ 14]) rfl rfl (fun _ _ _ => entersF rfl rfl en20) (fun wq δ xq hd => ?_) ?_; (obtain ⟨bb, e, _, rr⟩ := hd 14 rfl _ rfl; rw [e]; have := r1same_any [3] [3] _ _ wq (hd 13 rfl _ rfl) (lit_ints [3] (by simp) rr); rw [decide_eq_true rfl] at this; exact this)) | (refine RQ_callV (f := 20) (v := .bool true) (fun δ => #[δ 30, δ 31]) rfl rfl (fun _ _ _ => entersF rfl rfl en20) (fun wq δ xq hd => ?_) ?_; (obtain ⟨bb, e, _, rr⟩ := hd 31 rfl _ rfl; rw [e]; have := r1same_any [3] [3] _ _ wq (hd 30 rfl _ rfl) (lit_ints [3] (by simp) rr); rw [decide_eq_true rfl] at this; exact this)) | (refine RQ_callV (f := 20) (v := .bool true) (fun δ => #[δ 39, δ 40]) rfl rfl (fun _ _ _ => entersF rfl rfl en20) (fun wq δ xq hd => ?_) ?_; (obtain ⟨bb, e, _, rr⟩ := hd 40 rfl _ rfl; rw [e]; have := r1same_any [5] [5] _ _ wq (hd 39 rfl _ rfl) (lit_ints [5] (by simp) rr); rw [decide_eq_true rfl] at this; exact this)) | (refine RQ_callV (f := 20) (v := .bool true) (fun δ => #[δ 47, δ 48]) rfl rfl (fun _ _ _ => entersF rfl rfl en20) (fun wq δ xq hd => ?_) ?_; (obtain ⟨bb, e, _, rr⟩ := hd 48 rfl _ rfl; rw [e]; have := r1same_any [2] [2] _ _ wq (hd 47 rfl _ rfl) (lit_ints [2] (by simp) rr); rw [decide_eq_true rfl] at this; exact this)) | (refine RQ_callV (f := 20) (v := .bool true) (fun δ => #[δ 70, δ 71]) rfl rfl (fun _ _ _ => entersF rfl rfl en20) (fun wq δ xq hd => ?_) ?_; (obtain ⟨bb, e, _, rr⟩ := hd 71 rfl _ rfl; rw [e]; have := r1same_any [3] [3] _ _ wq (hd 70 rfl _ rfl) (lit_ints [3] (by simp) rr); rw [decide_eq_true rfl] at this; exact this)) | (refine RQ_valV (v := int 0) rfl rfl (fun wq δ xq hd => ?_) ?_; (obtain ⟨la, lc, e, _⟩ := (hd 21 rfl _ rfl).sl; exact val_len_sl (m := 0) rfl (show some (δ 21) = _ by rw [e]; rfl))) | (refine RQ_callV (f := 30) (v := .bool true) (fun δ => #[V, δ 55, int 2]) rfl rfl (fun _ _ _ => entersF rfl rfl en30) (fun wq δ xq hd => ?_) ?_; exact holds_ex (b := true) 2 ev_or rfl (ok_two2 (by decide)) _ _ wq (I.ext xq).d (hd 55 rfl _ rfl) (I.ext xq).t) | (refine RQ_callV (f := 30) (v := .bool false) (fun δ => #[V, δ 62, int 2]) rfl rfl (fun _ _ _ => entersF rfl rfl en30) (fun wq δ xq hd => ?_) ?_; exact holds_ex (b := false) 2 ev_and rfl (ok_two2 (by decide)) _ _ wq (I.ext xq).d (hd 62 rfl _ rfl) (I.ext xq).t) | (refine RQ_callR (f := 21) (fun u w' => Sl w' u ([3] : List Int)) (fun δ => #[V, δ 68, δ 69]) rfl rfl (fun _ _ _ _ xe h => SlG.ext h xe) (fun _ _ _ => entersF rfl rfl en21) (fun wq δ xq hd => ?_) ?_; (obtain ⟨b5, e5, _, r5⟩ := hd 68 rfl _ rfl; obtain ⟨b6, e6, _, r6⟩ := hd 69 rfl _ rfl; rw [e5, e6]; have := then_any ex_light [3, 9] [2] V _ _ wq (I.ext xq).d (lit_ints [3, 9] (by simp) r5) (lit_ints [2] (by simp) r6); rw [then_ex] at this; exact calls_mono this (fun _ _ hh => ⟨hh.2.any, hh.1⟩))) | refine RQ_end (fun wq δ xq hR => ?_) | (refine at_EL ?_; first | refine eN ?_) | (refine at_K ?_; first | refine K_then ?_) | (refine at_E ?_; first | refine E_ret ?_) | (refine at_RQ ?_; first | refine yO rfl rfl ?_ | refine yV rfl rfl (fun _ _ _ => zA rfl rfl) ?_ | refine yV rfl rfl (fun _ _ _ => zB rfl rfl) ?_ | (refine at_binR ?_; first | refine yD rfl rfl (fun _ _ _ => zM rfl rfl rfl) (fun hh => ?_) (fun hh => ?_)) | refine yV rfl rfl (fun _ _ _ => zC rfl rfl rfl) ?_ | refine yV rfl rfl (fun _ _ _ => zD rfl rfl rfl) ?_ | refine yV rfl rfl (fun _ _ _ => zE rfl rfl) ?_)))
  all_goals (first | (exfalso; omega) | skip)
  exact ret_1 rfl rfl ⟨rfl, (I.ext xq).x⟩
end Go.Proofs.YtnifmbbpfdghmaaGreatDoor
