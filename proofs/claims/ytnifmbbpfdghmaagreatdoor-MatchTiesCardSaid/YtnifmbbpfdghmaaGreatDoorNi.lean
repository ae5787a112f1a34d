/-
  Walks of match: Eval and Holds.
-/
import Derived.Test.YtnifmbbpfdghmaaGreatDoorNh
set_option linter.all false
namespace Go.Proofs.YtnifmbbpfdghmaaGreatDoor
open Go.RowKit Go.En
theorem ev_0 (d : Dc) (role : Int) (t : List UInt8) (ks : List Qy) : evF matchF d (.mk 0 role t ks) = idsOf d (textP matchF d role t) := by rw [evF_mk]; rfl
theorem ev_1 {d : Dc} (h : LightD d) (role : Int) (t : List UInt8) (a b : Qy) : evF matchF d (.mk 1 role t [a, b]) = bothF (evF matchF d a) (evF matchF d b) := by
  rw [evF_mk, both_ids h (evF_in matchF d a)]; rfl
theorem ev_2 {d : Dc} (h : LightD d) (role : Int) (t : List UInt8) (a b : Qy) : evF matchF d (.mk 2 role t [a, b]) = unionS (evF matchF d a) (evF matchF d b) := by
  rw [evF_mk, union_ids h (evF_in matchF d a) (evF_in matchF d b)]; rfl
theorem ev_3 {d : Dc} (h : LightD d) (role : Int) (t : List UInt8) (a : Qy) : evF matchF d (.mk 3 role t [a]) = minusS (roleL d role) (evF matchF d a) := by
  rw [evF_mk, minus_ids h]; rfl
theorem ev_4 (d : Dc) (role : Int) (t : List UInt8) (a b : Qy) : evF matchF d (.mk 4 role t [a, b]) = idsOf d (thenP d (evF matchF d a) (evF matchF d b)) := by rw [evF_mk]; rfl
theorem ev_5 (d : Dc) (role : Int) (t : List UInt8) (a b : Qy) : evF matchF d (.mk 5 role t [a, b]) = idsOf d (withinP d (evF matchF d a) (evF matchF d b)) := by rw [evF_mk]; rfl
theorem ev_6 (d : Dc) (role : Int) (t : List UInt8) (a b : Qy) : evF matchF d (.mk 6 role t [a, b]) = idsOf d (hasP d (evF matchF d a) (evF matchF d b)) := by rw [evF_mk]; rfl
theorem ev_role3 {d : Dc} (h : LightD d) (role : Int) (t : List UInt8) (a : Qy) : evF matchF d (.mk 3 role t [a]) = minusS (idsOf d (ofRoleP d role)) (evF matchF d a) := by
  rw [evF_mk, minus_role h]; rfl
theorem roleL_len {d : Dc} (h : LightD d) (role : Int) : (roleL d role).length ≤ 1000 := by
  unfold roleL ofR
  rw [List.length_map, (insSort_perm _).length_eq]
  have h1 : (ofTier d (roleF d role)).length ≤ d.notes.length := List.length_filter_le _ _
  have := h.nnotes
  omega
theorem kid_small {op role : Int} {t : List UInt8} {ks : List Qy} {i : Nat} {k : Qy} (h : ks[i]? = some k) : SizeOf.sizeOf k < SizeOf.sizeOf (Qy.mk op role t ks) := by
  have := List.sizeOf_lt_of_mem (List.mem_of_getElem? h)
  simp only [Qy.mk.sizeOf_spec]
  omega
theorem eql_is {P : Program} {L : List (Nat × Value)} {w : World} {o : Oper} {t u : TypeId} {x y : Operand} {a b : Int} {r : Bool} (ho : o.op = .binOp .eql t x y u) (hx : ev L x = some (int a)) (hy : ev L y = some (int b)) (h : decide (a = b) = r) : Val P L w o (.bool r) := h ▸ val_eql ho hx hy
theorem len_two {α : Type} : ∀ {l : List α}, l.length = 2 → ∃ a b, l = [a, b]
  | [a, b], _ => ⟨a, b, rfl⟩
  | [], h => by simp at h
  | [a], h => by simp at h
  | a :: b :: c :: l, h => by simp at h
theorem two_cells {w : World} {B n : Nat} {v : Value} {ys : List (Value × List Int)} {A C : List Int} (h : w.ownsRow B 22 1 v n (ys.map fun p => p.1)) (hn : n = 2) (hys : ys.map (fun p => p.2) = [A, C]) :
    ∃ g go cap v0 v1, v = .slice (some ⟨g, go, none⟩) 2 cap ∧ w.cell? ⟨g, go + 0 * 1, none⟩ = some v0 ∧ w.cell? ⟨g, go + 1 * 1, none⟩ = some v1 ∧ (v0, A) ∈ ys ∧ (v1, C) ∈ ys := by
  subst hn
  obtain ⟨p0, p1, rfl⟩ := len_two (show ys.length = 2 by have := congrArg List.length hys; simpa using this)
  simp at hys
  obtain ⟨rfl, rfl⟩ := hys
  obtain ⟨a, cap, rfl, hc, hp⟩ := own_sl h
  obtain ⟨g, go, rfl, hat⟩ := hp (by omega)
  exact ⟨g, go, cap, p0.1, p1.1, rfl, hat 0 _ rfl, hat 1 _ rfl, by simp, by simp⟩
theorem one_cell {w : World} {B n : Nat} {v : Value} {ys : List (Value × List Int)} {A : List Int} (h : w.ownsRow B 22 1 v n (ys.map fun p => p.1)) (hn : n = 1) (hys : ys.map (fun p => p.2) = [A]) :
    ∃ g go cap v0, v = .slice (some ⟨g, go, none⟩) 1 cap ∧ w.cell? ⟨g, go + 0 * 1, none⟩ = some v0 ∧ (v0, A) ∈ ys := by
  subst hn
  obtain ⟨p0, rfl⟩ := List.length_eq_one_iff.1 (show ys.length = 1 by have := congrArg List.length hys; simpa using this)
  simp at hys
  obtain rfl := hys
  obtain ⟨a, cap, rfl, hc, hp⟩ := own_sl h
  obtain ⟨g, go, rfl, hat⟩ := hp (by omega)
  exact ⟨g, go, cap, p0.1, rfl, hat 0 _ rfl, by simp⟩
attribute [local irreducible] E EL K Val Enters Rt Calls bodyPost Code.wp RQ
set_option maxHeartbeats 8000000 in
set_option maxRecDepth 8000 in
theorem eval_sz {d : Dc} (h : LightD d) : ∀ (z : Nat) (q : Qy), SizeOf.sizeOf q < z → okQ q → ∀ (v qv : Value) (w : World), DcAt w v d → QAt w qv q → Tabs w →
    Calls Tryz.prog 28 #[v, qv] w (Rt fun u w' => Ext w w' ∧ SlG (Nw w) w' u (evF matchF d q)) := by
  intro z
  induction z with
  | zero => intro q hq; omega
  | succ z ih =>
  intro q hqz hok v qv w hv hqv hT
  obtain ⟨op, role, txt, kids⟩ := q
  obtain ⟨kv, rfl, hkv⟩ := hqv
  change Sl w kv kids at hkv
  show Calls Tryz.prog 28 #[v, .agg #[int op, int role, str txt, kv]] w _
  unfold okQ at hok
  obtain ⟨ho0, ho6, hkl, hka⟩ := hok
  have hkl2 : kids.length ≤ 2 := by rw [hkl]; unfold kidsC; split; omega; split <;> omega
  have hd0 := hv
  obtain ⟨sv, tv, nv, rfl, _, _, _⟩ := hv
  have hkv0 := hkv
  obtain ⟨a, cap, rfl, hc, hm, hp⟩ := hkv.sl
  refine calls_E (n := 90) (args := [.agg #[int d.rid, str d.rname, int d.len, int d.day, sv, tv, nv], .agg #[int op, int role, str txt, .slice a kids.length cap]]) Tryz.func28 rfl Tryz.ntmps28 (by simp) ?_
  refine E_seq ?_
  refine E_region ?_
  refine EL_box rfl rfl rfl rfl (fun bD wD xD hbD rD0 => ?_)
  have rD1 : Row wD bD 28 [int d.rid, str d.rname, int d.len, int d.day, sv, tv, nv] := rD0
  refine EL_box rfl rfl rfl rfl (fun bQ wQ xQ hbQ rQ0 => ?_)
  have rQ : Row wQ bQ 36 [int op, int role, str txt, .slice a kids.length cap] := rQ0
  have rD := rD1.ext xQ
  clear rD0 rQ0 rD1
  have X0 := xD.trans xQ
  (repeat' (first | refine eV rfl rfl (val_load rfl rfl rfl (rQ.cellAt (j := 3) rfl)) ?_ | (refine at_EL ?_; first | refine eN ?_ | refine eV rfl rfl (zA rfl rfl) ?_ | refine eV rfl rfl (zB rfl rfl) ?_ | (refine at_call ?_; first | refine eV rfl rfl (zK rfl rfl) ?_) | refine eV rfl rfl (zH rfl rfl) ?_) | (refine at_K ?_; first | refine K_then ?_) | (refine at_E ?_; first | refine E_seq ?_ | refine E_region ?_ | refine E_block ?_)))
  refine E_loop (ι := Nat × Value × List (Value × List Int)) (fun s => [(2, .pointer (some ⟨bD, 0, none⟩)), (3, .pointer (some ⟨bQ, 0, none⟩)), (5, s.2.1), (9, .slice a kids.length cap), (10, int kids.length), (11, int s.1)])
    (fun s wr => s.1 ≤ kids.length ∧ Ext wQ wr ∧ wr.ownsRow wQ.heap.size 22 1 s.2.1 s.1 (s.2.2.map fun p => p.1) ∧ s.2.2.map (fun p => p.2) = (kids.take s.1).map (evF matchF d) ∧ ∀ p ∈ s.2.2, SlG (Nb s.2.1) wr p.1 p.2) (fun s => kids.length - s.1) (0, .slice none 0 0, [])
    ⟨rfl, rfl, rfl, rfl, rfl, rfl, trivial⟩ ⟨Nat.zero_le _, Ext.refl _, World.ownsRow_nil _ _ _ _, rfl, fun p hp => (by cases hp)⟩ ?_
  rintro ⟨i, vO, ys⟩ wr ⟨hi, hx, hown, hys, hsl⟩
  dsimp only at hi hx hown hys hsl ⊢
  have rDr := rD.ext hx
  have rQr := rQ.ext hx
  have hX := X0.trans hx
  have hTr := Tabs.ext hT hX
  have hdr := hd0.ext hX
  by_cases hlt : i < kids.length
  · obtain ⟨b, off, rfl⟩ := hp (by omega)
    obtain ⟨k, hk⟩ : ∃ k, kids[i]? = some k := ⟨_, List.getElem?_eq_getElem hlt⟩
    obtain ⟨kcs, hkr, hkat⟩ := (hkv0.ext hX).elem hk
    have hone := Rep.one hkr
    obtain ⟨kkv, rfl, hkk⟩ := qy_cells hkr
    have hkat' : At wr b (off + i * 4) [int k.op, int k.role, str k.text, kkv] := hkat
    have hkok := okAll_get hka hk
    have hksz := kid_small (op := op) (role := role) (t := txt) hk
    (repeat' (first | refine eV rfl rfl (val_indexAddr (m := i) rfl rfl rfl rfl hlt) ?_ | refine eV rfl rfl (val_loadA rfl rfl rfl hkat' rfl) ?_ | (refine at_EL ?_; first | refine eN ?_ | (refine at_bin ?_; first | refine eD rfl rfl (zL rfl rfl rfl) (fun hh => ?_) (fun hh => ?_)) | refine eV rfl rfl (zH rfl rfl) ?_) | (refine at_K ?_; first | refine K_then ?_ | refine K_then_exit ?_ | refine K_in_exit ?_) | (refine at_E ?_; first | refine E_seq ?_ | refine E_region ?_ | refine E_cond_t rfl ?_ | refine E_cond_f rfl ?_ | refine E_block ?_ | refine E_skip ?_ | refine E_exit ?_)))
    all_goals (first | (exfalso; omega) | skip)
    refine EL_alloc rfl rfl rfl (fun bK wK xK hbK rK0 => ?_)
    refine EL_storeP (cs := [int k.op, int k.role, str k.text, kkv]) rK0 xK (by omega) rfl rfl rfl rfl rfl rfl rfl hone (Nat.le_refl _) (fun w4 rK1 x4 k4 => ?_)
    have rK : Row w4 bK 36 [int k.op, int k.role, str k.text, kkv] := rK1
    clear rK0 rK1 k4
    have rD4 := rDr.ext x4
    have ce := ih k (by omega) hkok _ (.agg #[int k.op, int k.role, str k.text, kkv]) w4 (hdr.ext x4) ⟨kkv, rfl, hkk.ext x4⟩ (Tabs.ext hTr x4)
    have own4 := own_ext hown x4
    have hOlt : ∀ bb, vO.ownBlock = some bb → bb < w4.heap.size := fun bb e => (own4.lt bb e).2
    (repeat' (first | refine eV rfl rfl (val_loadA rfl rfl rfl rD4.at rfl) ?_ | refine eV rfl rfl (val_loadA rfl rfl rfl rK.at rfl) ?_ | (refine EL_call rfl rfl (entersF rfl rfl en28) ce (fun vE wE hC => ?_); obtain ⟨xE, sE⟩ := hC; obtain ⟨ea, ec, rfl, _, _, _⟩ := sE.sl) | (refine EL_appO (news := [Value.slice ea (evF matchF d k).length ec]) (own_ext own4 (xE.trans xS)) ((hx.trans x4).trans (xE.trans xS)) (fun _ => ⟨_, _, rfl, rS.at⟩) rfl rfl rfl rfl rfl rfl rfl rfl rfl (by omega) (by omega) (fun vJ wJ oJ xJ kJ hJ => ?_)) | (refine at_EL ?_; first | refine eN ?_ | refine eV rfl rfl (zA rfl rfl) ?_ | refine eV rfl rfl (zB rfl rfl) ?_ | (refine at_bin ?_; first | refine eV rfl rfl (zU rfl rfl rfl (by omega) (by omega)) ?_) | refine eL rfl rfl rfl rfl rfl rfl rfl rfl (fun bS wS xS hbS rS => ?_)) | (refine at_K ?_; first | refine K_then ?_ | refine K_in ?_) | (refine at_E ?_; first | refine E_region ?_)))
    all_goals (first | (exfalso; omega) | skip)
    have hmv := Nb.mv kJ hJ
    have xES := xE.trans xS
    refine K_rnd (i + 1, vJ, ys ++ [(Value.slice ea (evF matchF d k).length ec, evF matchF d k)]) ⟨rfl, rfl, rfl, rfl, rfl, rfl, trivial⟩ ⟨by dsimp only; omega, xJ, ?_, ?_, ?_⟩ (by dsimp only; omega)
    · dsimp only
      rw [List.map_append]
      exact oJ
    · dsimp only
      obtain ⟨hi2, e2⟩ := List.getElem?_eq_some_iff.1 hk
      rw [List.map_append, hys, List.take_succ_eq_append_getElem hi2, List.map_append, e2]; rfl
    · dsimp only
      intro p hp
      rcases List.mem_append.1 hp with hp | hp
      · exact ((hsl p hp).ext (x4.trans xES)).move hmv
      · rw [List.mem_singleton] at hp
        subst hp
        exact ((sE.wk (G' := Nb vO) (fun b hb e => by have := hOlt b e.symm; unfold Nw at hb; omega)).ext xS).move hmv
  · obtain rfl : i = kids.length := by omega
    rw [List.take_length] at hys
    have hop : op = 0 ∨ op = 1 ∨ op = 2 ∨ op = 3 ∨ op = 4 ∨ op = 5 ∨ op = 6 := by omega
    have hXs := hX.size
    rcases hop with rfl | rfl | rfl | rfl | rfl | rfl | rfl
    · (repeat' (first | refine eV rfl rfl (val_load rfl rfl rfl (rQr.cellAt (j := 0) rfl)) ?_ | refine eV (v := .bool true) rfl rfl (eql_is rfl rfl rfl rfl) ?_ | refine yV rfl rfl (fun wq _ xq => val_loadA rfl rfl rfl (rDr.ext xq).at rfl) ?_ | refine yV rfl rfl (fun wq _ xq => val_load rfl rfl rfl ((rQr.ext xq).cellAt (j := 1) rfl)) ?_ | (refine RQ_callR (f := 80) (fun u w' => Sl w' u (roleL d role)) (fun _ => #[.agg #[int d.rid, str d.rname, int d.len, int d.day, sv, tv, nv], int role]) rfl rfl (fun _ _ _ _ xe h => SlG.ext h xe) (fun _ _ _ => entersF rfl rfl en80) (fun wq _ xq _ => ?_) ?_; exact calls_mono (notes80_any h _ role wq (hdr.ext xq)) (fun _ _ hh => ⟨hh.2, hh.1⟩)) | (refine RQ_callR (f := 67) (fun u w' => ∃ r, u = .map (some r) ∧ MapF w' r (setF d (roleL d role))) (fun δ => #[.agg #[int d.rid, str d.rname, int d.len, int d.day, sv, tv, nv], δ 30]) rfl rfl (fun _ _ _ _ xe h => by obtain ⟨r, e, m⟩ := h; exact ⟨r, e, m.ext xe⟩) (fun _ _ _ => entersF rfl rfl en67) (fun wq δ xq hd => ?_) ?_; exact calls_mono (mof_any d (roleL d role) _ _ wq (hdr.ext xq) (hd 30 rfl _ rfl)) (fun _ _ hh => by obtain ⟨r, e, x1, _, m1⟩ := hh; exact ⟨⟨r, e, m1⟩, x1⟩)) | refine yV rfl rfl (fun _ _ _ => val_makeFunc (vs := [.pointer (some ⟨bD, 0, none⟩), .pointer (some ⟨bQ, 0, none⟩)]) rfl rfl) ?_ | (refine RQ_callR (f := 68) (fun u w' => SlG (Nw wr) w' u (idsOf d (fun x => decide (x ∈ roleL d role) && matchF txt (curN d.notes x).text))) (fun δ => #[δ 31, .func (.func 81) #[] #[.pointer (some ⟨bD, 0, none⟩), .pointer (some ⟨bQ, 0, none⟩)] ]) rfl rfl (fun _ _ _ _ xe h => SlG.ext h xe) (fun _ _ _ => entersF rfl rfl en68) (fun wq δ xq hd => ?_) ?_; (obtain ⟨r, e, mr⟩ := hd 31 rfl _ rfl; rw [e]; exact calls_mono (keep_any h 81 [.pointer (some ⟨bD, 0, none⟩), .pointer (some ⟨bQ, 0, none⟩)] en81 (fun x => matchF txt (curN d.notes x).text) (roleL d role) r wq mr (fun x wz xz => evalC_any h (.mk 0 role txt kids) _ bD bQ x wz ⟨sv, tv, nv, (rDr.ext xq).ext xz, (hdr.ext xq).ext xz⟩ ((rQr.ext xq).ext xz) (Tabs.ext (Tabs.ext hTr xq) xz))) (fun _ _ hh => ⟨SlG.wk hh.2 (fun b hb => Nat.le_trans xq.size hb), hh.1⟩))) | refine RQ_asgS rfl rfl rfl rfl (fun _ => rfl) ?_ | refine RQ_end (fun wq δ xq hR => ?_) | (refine at_EL ?_; first | refine eN ?_ | refine eV rfl rfl (zB rfl rfl) ?_ | (refine at_bin ?_; first | refine eD rfl rfl (zL rfl rfl rfl) (fun hh => ?_) (fun hh => ?_)) | refine eV rfl rfl (zH rfl rfl) ?_) | (refine at_K ?_; first | refine K_then ?_ | refine K_then_ret ?_ | refine K_then_exit ?_ | refine K_in_ret ?_ | refine K_in_exit ?_) | (refine at_E ?_; first | refine E_seq ?_ | refine E_region ?_ | refine E_cond_t rfl ?_ | refine E_cond_f rfl ?_ | refine E_block ?_ | refine E_skip ?_ | refine E_ret ?_ | refine E_exit ?_ | refine E_dq mixedOk (by kernel_rfl) rfl ?_) | (refine at_RQ ?_; first | refine yV rfl rfl (fun _ _ _ => zH rfl rfl) ?_)))
      all_goals (first | (exfalso; omega) | skip)
      refine ret_1 rfl rfl ⟨hX.trans xq, ?_⟩
      rw [ev_0, ← text_ids h matchF role txt]
      exact SlG.wk (hR 4 _ rfl) (fun b hb => by unfold Nw at *; omega)
    · obtain ⟨ka, kb, rfl⟩ := len_two (show kids.length = 2 from hkl)
      obtain ⟨g, go, gc, v0, v1, rfl, hc0, hc1, hm0, hm1⟩ := two_cells hown rfl hys
      have s0 := (hsl _ hm0).any
      have s1 := (hsl _ hm1).any
      dsimp only at s0 s1
      have l0 := evF_len h matchF ka
      have l1 := evF_len h matchF kb
      (repeat' (first | refine eV rfl rfl (val_load rfl rfl rfl (rQr.cellAt (j := 0) rfl)) ?_ | refine eV (v := .bool true) rfl rfl (eql_is rfl rfl rfl rfl) ?_ | refine eV (v := .bool false) rfl rfl (eql_is rfl rfl rfl rfl) ?_ | refine yV rfl rfl (fun _ _ _ => val_indexAddr (m := 0) rfl rfl rfl rfl (by omega)) ?_ | refine yV rfl rfl (fun _ _ _ => val_indexAddr (m := 1) rfl rfl rfl rfl (by omega)) ?_ | refine yV rfl rfl (fun wq _ xq => val_load rfl rfl rfl (xq.cell hc0)) ?_ | refine yV rfl rfl (fun wq _ xq => val_load rfl rfl rfl (xq.cell hc1)) ?_ | (refine RQ_callR (f := 84) (fun u w' => SlG (Nw wr) w' u (bothF (evF matchF d ka) (evF matchF d kb))) (fun δ => #[v0, v1]) rfl rfl (fun _ _ _ _ xe h => SlG.ext h xe) (fun _ _ _ => entersF rfl rfl en84) (fun wq δ xq hd => ?_) ?_; exact calls_mono (both_any _ _ _ _ wq (s0.ext xq) (s1.ext xq) (by omega) (by omega)) (fun _ _ hh => ⟨SlG.wk hh.2 (fun b hb => Nat.le_trans xq.size hb), hh.1⟩)) | refine RQ_asgS rfl rfl rfl rfl (fun _ => rfl) ?_ | refine RQ_end (fun wq δ xq hR => ?_) | (refine at_EL ?_; first | refine eN ?_ | refine eV rfl rfl (zB rfl rfl) ?_ | (refine at_bin ?_; first | refine eD rfl rfl (zL rfl rfl rfl) (fun hh => ?_) (fun hh => ?_)) | refine eV rfl rfl (zH rfl rfl) ?_) | (refine at_K ?_; first | refine K_then ?_ | refine K_then_ret ?_ | refine K_then_exit ?_ | refine K_in_ret ?_ | refine K_in_exit ?_) | (refine at_E ?_; first | refine E_seq ?_ | refine E_region ?_ | refine E_cond_t rfl ?_ | refine E_cond_f rfl ?_ | refine E_block ?_ | refine E_skip ?_ | refine E_ret ?_ | refine E_exit ?_ | refine E_dq mixedOk (by kernel_rfl) rfl ?_) | (refine at_RQ ?_; first | refine yV rfl rfl (fun _ _ _ => zA rfl rfl) ?_)))
      all_goals (first | (exfalso; omega) | skip)
      refine ret_1 rfl rfl ⟨hX.trans xq, ?_⟩
      rw [ev_1 h]
      exact SlG.wk (hR 4 _ rfl) (fun b hb => by unfold Nw at *; omega)
    · obtain ⟨ka, kb, rfl⟩ := len_two (show kids.length = 2 from hkl)
      obtain ⟨g, go, gc, v0, v1, rfl, hc0, hc1, hm0, hm1⟩ := two_cells hown rfl hys
      have s0 := (hsl _ hm0).any
      have s1 := (hsl _ hm1).any
      dsimp only at s0 s1
      have l0 := evF_len h matchF ka
      have l1 := evF_len h matchF kb
      (repeat' (first | refine eV rfl rfl (val_load rfl rfl rfl (rQr.cellAt (j := 0) rfl)) ?_ | refine eV (v := .bool true) rfl rfl (eql_is rfl rfl rfl rfl) ?_ | refine eV (v := .bool false) rfl rfl (eql_is rfl rfl rfl rfl) ?_ | refine yV rfl rfl (fun _ _ _ => val_indexAddr (m := 0) rfl rfl rfl rfl (by omega)) ?_ | refine yV rfl rfl (fun _ _ _ => val_indexAddr (m := 1) rfl rfl rfl rfl (by omega)) ?_ | refine yV rfl rfl (fun wq _ xq => val_load rfl rfl rfl (xq.cell hc0)) ?_ | refine yV rfl rfl (fun wq _ xq => val_load rfl rfl rfl (xq.cell hc1)) ?_ | (refine RQ_callR (f := 85) (fun u w' => SlG (Nw wr) w' u (unionS (evF matchF d ka) (evF matchF d kb))) (fun δ => #[v0, v1]) rfl rfl (fun _ _ _ _ xe h => SlG.ext h xe) (fun _ _ _ => entersF rfl rfl en85) (fun wq δ xq hd => ?_) ?_; exact calls_mono (unionP_any _ _ _ _ wq (s0.ext xq) (s1.ext xq) (by omega)) (fun _ _ hh => ⟨SlG.wk hh.2 (fun b hb => Nat.le_trans xq.size hb), hh.1⟩)) | refine RQ_asgS rfl rfl rfl rfl (fun _ => rfl) ?_ | refine RQ_end (fun wq δ xq hR => ?_) | (refine at_EL ?_; first | refine eN ?_ | refine eV rfl rfl (zB rfl rfl) ?_ | (refine at_bin ?_; first | refine eD rfl rfl (zL rfl rfl rfl) (fun hh => ?_) (fun hh => ?_)) | refine eV rfl rfl (zH rfl rfl) ?_) | (refine at_K ?_; first | refine K_then ?_ | refine K_then_ret ?_ | refine K_then_exit ?_ | refine K_in_ret ?_ | refine K_in_exit ?_) | (refine at_E ?_; first | refine E_seq ?_ | refine E_region ?_ | refine E_cond_t rfl ?_ | refine E_cond_f rfl ?_ | refine E_block ?_ | refine E_skip ?_ | refine E_ret ?_ | refine E_exit ?_ | refine E_dq mixedOk (by kernel_rfl) rfl ?_) | (refine at_RQ ?_; first | refine yV rfl rfl (fun _ _ _ => zA rfl rfl) ?_)))
      all_goals (first | (exfalso; omega) | skip)
      refine ret_1 rfl rfl ⟨hX.trans xq, ?_⟩
      rw [ev_2 h]
      exact SlG.wk (hR 4 _ rfl) (fun b hb => by unfold Nw at *; omega)
    · obtain ⟨ka, rfl⟩ := List.length_eq_one_iff.1 (show kids.length = 1 from hkl)
      obtain ⟨g, go, gc, v0, rfl, hc0, hm0⟩ := one_cell hown rfl hys
      have s0 := (hsl _ hm0).any
      dsimp only at s0
      have l0 := evF_len h matchF ka
      have lr := roleL_len h role
      (repeat' (first | refine eV rfl rfl (val_load rfl rfl rfl (rQr.cellAt (j := 0) rfl)) ?_ | refine eV (v := .bool true) rfl rfl (eql_is rfl rfl rfl rfl) ?_ | refine eV (v := .bool false) rfl rfl (eql_is rfl rfl rfl rfl) ?_ | refine yV rfl rfl (fun wq _ xq => val_loadA rfl rfl rfl (rDr.ext xq).at rfl) ?_ | refine yV rfl rfl (fun wq _ xq => val_load rfl rfl rfl ((rQr.ext xq).cellAt (j := 1) rfl)) ?_ | refine yV rfl rfl (fun _ _ _ => val_indexAddr (m := 0) rfl rfl rfl rfl (by omega)) ?_ | refine yV rfl rfl (fun wq _ xq => val_load rfl rfl rfl (xq.cell hc0)) ?_ | (refine RQ_callR (f := 80) (fun u w' => Sl w' u (roleL d role)) (fun _ => #[.agg #[int d.rid, str d.rname, int d.len, int d.day, sv, tv, nv], int role]) rfl rfl (fun _ _ _ _ xe h => SlG.ext h xe) (fun _ _ _ => entersF rfl rfl en80) (fun wq _ xq _ => ?_) ?_; exact calls_mono (notes80_any h _ role wq (hdr.ext xq)) (fun _ _ hh => ⟨hh.2, hh.1⟩)) | (refine RQ_callR (f := 86) (fun u w' => SlG (Nw wr) w' u (minusS (roleL d role) (evF matchF d ka))) (fun δ => #[δ 57, v0]) rfl rfl (fun _ _ _ _ xe h => SlG.ext h xe) (fun _ _ _ => entersF rfl rfl en86) (fun wq δ xq hd => ?_) ?_; exact calls_mono (minusP_any _ _ _ _ wq (hd 57 rfl _ rfl) (s0.ext xq) (by omega) (by omega)) (fun _ _ hh => ⟨SlG.wk hh.2 (fun b hb => Nat.le_trans xq.size hb), hh.1⟩)) | refine RQ_asgS rfl rfl rfl rfl (fun _ => rfl) ?_ | refine RQ_end (fun wq δ xq hR => ?_) | (refine at_EL ?_; first | refine eN ?_ | refine eV rfl rfl (zB rfl rfl) ?_ | (refine at_bin ?_; first | refine eD rfl rfl (zL rfl rfl rfl) (fun hh => ?_) (fun hh => ?_)) | refine eV rfl rfl (zH rfl rfl) ?_) | (refine at_K ?_; first | refine K_then ?_ | refine K_then_ret ?_ | refine K_then_exit ?_ | refine K_in_ret ?_ | refine K_in_exit ?_) | (refine at_E ?_; first | refine E_seq ?_ | refine E_region ?_ | refine E_cond_t rfl ?_ | refine E_cond_f rfl ?_ | refine E_block ?_ | refine E_skip ?_ | refine E_ret ?_ | refine E_exit ?_ | refine E_dq mixedOk (by kernel_rfl) rfl ?_) | (refine at_RQ ?_; first | refine yV rfl rfl (fun _ _ _ => zA rfl rfl) ?_ | refine yV rfl rfl (fun _ _ _ => zH rfl rfl) ?_)))
      all_goals (first | (exfalso; omega) | skip)
      refine ret_1 rfl rfl ⟨hX.trans xq, ?_⟩
      rw [ev_3 h]
      exact SlG.wk (hR 4 _ rfl) (fun b hb => by unfold Nw at *; omega)
    · obtain ⟨ka, kb, rfl⟩ := len_two (show kids.length = 2 from hkl)
      obtain ⟨g, go, gc, v0, v1, rfl, hc0, hc1, hm0, hm1⟩ := two_cells hown rfl hys
      have s0 := (hsl _ hm0).any
      have s1 := (hsl _ hm1).any
      dsimp only at s0 s1
      have l0 := evF_len h matchF ka
      have l1 := evF_len h matchF kb
      (repeat' (first | refine eV rfl rfl (val_load rfl rfl rfl (rQr.cellAt (j := 0) rfl)) ?_ | refine eV (v := .bool true) rfl rfl (eql_is rfl rfl rfl rfl) ?_ | refine eV (v := .bool false) rfl rfl (eql_is rfl rfl rfl rfl) ?_ | refine yV rfl rfl (fun wq _ xq => val_loadA rfl rfl rfl (rDr.ext xq).at rfl) ?_ | refine yV rfl rfl (fun _ _ _ => val_indexAddr (m := 0) rfl rfl rfl rfl (by omega)) ?_ | refine yV rfl rfl (fun _ _ _ => val_indexAddr (m := 1) rfl rfl rfl rfl (by omega)) ?_ | refine yV rfl rfl (fun wq _ xq => val_load rfl rfl rfl (xq.cell hc0)) ?_ | refine yV rfl rfl (fun wq _ xq => val_load rfl rfl rfl (xq.cell hc1)) ?_ | (refine RQ_callR (f := 21) (fun u w' => SlG (Nw wr) w' u (idsOf d (thenP d (evF matchF d ka) (evF matchF d kb)))) (fun δ => #[.agg #[int d.rid, str d.rname, int d.len, int d.day, sv, tv, nv], v0, v1]) rfl rfl (fun _ _ _ _ xe h => SlG.ext h xe) (fun _ _ _ => entersF rfl rfl en21) (fun wq δ xq hd => ?_) ?_; exact calls_mono (then_any h _ _ _ _ _ wq (hdr.ext xq) (s0.ext xq) (s1.ext xq)) (fun _ _ hh => ⟨SlG.wk hh.2 (fun b hb => Nat.le_trans xq.size hb), hh.1⟩)) | refine RQ_asgS rfl rfl rfl rfl (fun _ => rfl) ?_ | refine RQ_end (fun wq δ xq hR => ?_) | (refine at_EL ?_; first | refine eN ?_ | refine eV rfl rfl (zB rfl rfl) ?_ | (refine at_bin ?_; first | refine eD rfl rfl (zL rfl rfl rfl) (fun hh => ?_) (fun hh => ?_)) | refine eV rfl rfl (zH rfl rfl) ?_) | (refine at_K ?_; first | refine K_then ?_ | refine K_then_ret ?_ | refine K_then_exit ?_ | refine K_in_ret ?_ | refine K_in_exit ?_) | (refine at_E ?_; first | refine E_seq ?_ | refine E_region ?_ | refine E_cond_t rfl ?_ | refine E_cond_f rfl ?_ | refine E_block ?_ | refine E_skip ?_ | refine E_ret ?_ | refine E_exit ?_ | refine E_dq mixedOk (by kernel_rfl) rfl ?_) | (refine at_RQ ?_; first | refine yV rfl rfl (fun _ _ _ => zA rfl rfl) ?_)))
      all_goals (first | (exfalso; omega) | skip)
      refine ret_1 rfl rfl ⟨hX.trans xq, ?_⟩
      rw [ev_4]
      exact SlG.wk (hR 4 _ rfl) (fun b hb => by unfold Nw at *; omega)
    · obtain ⟨ka, kb, rfl⟩ := len_two (show kids.length = 2 from hkl)
      obtain ⟨g, go, gc, v0, v1, rfl, hc0, hc1, hm0, hm1⟩ := two_cells hown rfl hys
      have s0 := (hsl _ hm0).any
      have s1 := (hsl _ hm1).any
      dsimp only at s0 s1
      have l0 := evF_len h matchF ka
      have l1 := evF_len h matchF kb
      (repeat' (first | refine eV rfl rfl (val_load rfl rfl rfl (rQr.cellAt (j := 0) rfl)) ?_ | refine eV (v := .bool true) rfl rfl (eql_is rfl rfl rfl rfl) ?_ | refine eV (v := .bool false) rfl rfl (eql_is rfl rfl rfl rfl) ?_ | refine yV rfl rfl (fun wq _ xq => val_loadA rfl rfl rfl (rDr.ext xq).at rfl) ?_ | refine yV rfl rfl (fun _ _ _ => val_indexAddr (m := 0) rfl rfl rfl rfl (by omega)) ?_ | refine yV rfl rfl (fun _ _ _ => val_indexAddr (m := 1) rfl rfl rfl rfl (by omega)) ?_ | refine yV rfl rfl (fun wq _ xq => val_load rfl rfl rfl (xq.cell hc0)) ?_ | refine yV rfl rfl (fun wq _ xq => val_load rfl rfl rfl (xq.cell hc1)) ?_ | (refine RQ_callR (f := 23) (fun u w' => SlG (Nw wr) w' u (idsOf d (withinP d (evF matchF d ka) (evF matchF d kb)))) (fun δ => #[.agg #[int d.rid, str d.rname, int d.len, int d.day, sv, tv, nv], v0, v1]) rfl rfl (fun _ _ _ _ xe h => SlG.ext h xe) (fun _ _ _ => entersF rfl rfl en23) (fun wq δ xq hd => ?_) ?_; exact calls_mono (within_any h _ _ _ _ _ wq (hdr.ext xq) (s0.ext xq) (s1.ext xq)) (fun _ _ hh => ⟨SlG.wk hh.2 (fun b hb => Nat.le_trans xq.size hb), hh.1⟩)) | refine RQ_asgS rfl rfl rfl rfl (fun _ => rfl) ?_ | refine RQ_end (fun wq δ xq hR => ?_) | (refine at_EL ?_; first | refine eN ?_ | refine eV rfl rfl (zB rfl rfl) ?_ | (refine at_bin ?_; first | refine eD rfl rfl (zL rfl rfl rfl) (fun hh => ?_) (fun hh => ?_)) | refine eV rfl rfl (zH rfl rfl) ?_) | (refine at_K ?_; first | refine K_then ?_ | refine K_then_ret ?_ | refine K_then_exit ?_ | refine K_in_ret ?_ | refine K_in_exit ?_) | (refine at_E ?_; first | refine E_seq ?_ | refine E_region ?_ | refine E_cond_t rfl ?_ | refine E_cond_f rfl ?_ | refine E_block ?_ | refine E_skip ?_ | refine E_ret ?_ | refine E_exit ?_ | refine E_dq mixedOk (by kernel_rfl) rfl ?_) | (refine at_RQ ?_; first | refine yV rfl rfl (fun _ _ _ => zA rfl rfl) ?_)))
      all_goals (first | (exfalso; omega) | skip)
      refine ret_1 rfl rfl ⟨hX.trans xq, ?_⟩
      rw [ev_5]
      exact SlG.wk (hR 4 _ rfl) (fun b hb => by unfold Nw at *; omega)
    · obtain ⟨ka, kb, rfl⟩ := len_two (show kids.length = 2 from hkl)
      obtain ⟨g, go, gc, v0, v1, rfl, hc0, hc1, hm0, hm1⟩ := two_cells hown rfl hys
      have s0 := (hsl _ hm0).any
      have s1 := (hsl _ hm1).any
      dsimp only at s0 s1
      have l0 := evF_len h matchF ka
      have l1 := evF_len h matchF kb
      (repeat' (first | refine eV rfl rfl (val_load rfl rfl rfl (rQr.cellAt (j := 0) rfl)) ?_ | refine eV (v := .bool false) rfl rfl (eql_is rfl rfl rfl rfl) ?_ | refine yV rfl rfl (fun wq _ xq => val_loadA rfl rfl rfl (rDr.ext xq).at rfl) ?_ | refine yV rfl rfl (fun _ _ _ => val_indexAddr (m := 0) rfl rfl rfl rfl (by omega)) ?_ | refine yV rfl rfl (fun _ _ _ => val_indexAddr (m := 1) rfl rfl rfl rfl (by omega)) ?_ | refine yV rfl rfl (fun wq _ xq => val_load rfl rfl rfl (xq.cell hc0)) ?_ | refine yV rfl rfl (fun wq _ xq => val_load rfl rfl rfl (xq.cell hc1)) ?_ | (refine RQ_callR (f := 25) (fun u w' => SlG (Nw wr) w' u (idsOf d (hasP d (evF matchF d ka) (evF matchF d kb)))) (fun δ => #[.agg #[int d.rid, str d.rname, int d.len, int d.day, sv, tv, nv], v0, v1]) rfl rfl (fun _ _ _ _ xe h => SlG.ext h xe) (fun _ _ _ => entersF rfl rfl en25) (fun wq δ xq hd => ?_) ?_; exact calls_mono (has25_any h _ _ _ _ _ wq (hdr.ext xq) (s0.ext xq) (s1.ext xq)) (fun _ _ hh => ⟨SlG.wk hh.2 (fun b hb => Nat.le_trans xq.size hb), hh.1⟩)) | refine RQ_asgS rfl rfl rfl rfl (fun _ => rfl) ?_ | refine RQ_end (fun wq δ xq hR => ?_) | (refine at_EL ?_; first | refine eN ?_ | refine eV rfl rfl (zB rfl rfl) ?_ | (refine at_bin ?_; first | refine eD rfl rfl (zL rfl rfl rfl) (fun hh => ?_) (fun hh => ?_)) | refine eV rfl rfl (zH rfl rfl) ?_) | (refine at_K ?_; first | refine K_then ?_ | refine K_in ?_ | refine K_then_exit ?_ | refine K_in_exit ?_) | (refine at_E ?_; first | refine E_seq ?_ | refine E_region ?_ | refine E_cond_t rfl ?_ | refine E_cond_f rfl ?_ | refine E_block ?_ | refine E_skip ?_ | refine E_ret ?_ | refine E_exit ?_ | refine E_dq mixedOk (by kernel_rfl) rfl ?_) | (refine at_RQ ?_; first | refine yV rfl rfl (fun _ _ _ => zA rfl rfl) ?_)))
      all_goals (first | (exfalso; omega) | skip)
      refine ret_1 rfl rfl ⟨hX.trans xq, ?_⟩
      rw [ev_6]
      exact SlG.wk (hR 4 _ rfl) (fun b hb => by unfold Nw at *; omega)
theorem eval_any {d : Dc} (h : LightD d) (q : Qy) (hok : okQ q) (v qv : Value) (w : World) (hv : DcAt w v d) (hqv : QAt w qv q) (hT : Tabs w) :
    Calls Tryz.prog 28 #[v, qv] w (Rt fun u w' => Ext w w' ∧ SlG (Nw w) w' u (evF matchF d q)) := eval_sz h _ q (Nat.lt_succ_self _) hok v qv w hv hqv hT
end Go.Proofs.YtnifmbbpfdghmaaGreatDoor
