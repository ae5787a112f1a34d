/-
  Walks: Update, the program's and the reference's; the reference's Build.
-/
import Derived.Test.YtjpjpgeeeigbkaaDoorY7
import Derived.Test.YtjpjpgeeeigbkaaDoorY8
import Derived.Test.YtjpjpgeeeigbkaaDoorY1
set_option linter.all false
namespace Go.Proofs.YtjpjpgeeeigbkaaDoor
open Go.RowKit Go.En
/-- every note's tier is there -/
def TierIn (d : Dc) : Prop := ∀ n ∈ d.notes, 0 ≤ n.tier ∧ n.tier < d.tiers.length
theorem tier_in {d : Dc} (h : TierIn d) {i : Nat} {n : Note} (hn : d.notes[i]? = some n) : ∃ (m : Nat) (t : Tier), n.tier = (m : Int) ∧ m < d.tiers.length ∧ d.tiers[m]? = some t ∧ roleAt d.tiers n = t.role := by
  have h1 := h n (List.mem_of_getElem? hn)
  have hlt : n.tier.toNat < d.tiers.length := by omega
  refine ⟨n.tier.toNat, d.tiers[n.tier.toNat], by omega, hlt, List.getElem?_eq_getElem hlt, ?_⟩
  unfold roleAt
  rw [List.getElem?_eq_getElem hlt]
attribute [local irreducible] E EL K Val Enters Rt Calls bodyPost Code.wp RQ
set_option maxHeartbeats 4000000 in
theorem update_any (xs : List Post) (o e : Dc) (s vo ve : Value) (w : World) (hv : Sl w s xs) (ho : DcAt w vo o) (he : DcAt w ve e) (hxs : Small 1000000 xs) (hno : TierIn o) (hne : TierIn e) (hlo : o.notes.length ≤ 1000) (hle : e.notes.length ≤ 1000) :
    Calls Tryd.prog 36 #[.agg #[s], vo, ve] w (Rt fun u w' => Ext w w' ∧ Ix w' u (updF xs o e)) := by
  obtain ⟨so, tvo, nvo, rfl, _, hto, hnot⟩ := ho
  obtain ⟨se, tve, nve, rfl, _, hte, hnet⟩ := he
  refine calls_E (n := 54) (args := [.agg #[s], .agg #[int o.rid, str o.rname, int o.len, int o.day, so, tvo, nvo], .agg #[int e.rid, str e.rname, int e.len, int e.day, se, tve, nve]]) Tryd.func36 rfl Tryd.ntmps36 (by simp) ?_
  have hto0 := hto
  have hno0 := hnot
  have hte0 := hte
  have hne0 := hnet
  have hv0 := hv
  obtain ⟨as_, cs_, rfl, _⟩ := hv0.sl
  obtain ⟨ato, cto, rfl, _, hmto, hpto⟩ := hto.sl
  obtain ⟨ano, cno, rfl, _, hmno, hpno⟩ := hnot.sl
  obtain ⟨ate, cte, rfl, _, hmte, hpte⟩ := hte.sl
  obtain ⟨ane, cne, rfl, _, hmne, hpne⟩ := hnet.sl
  refine E_seq ?_
  refine E_region ?_
  refine EL_box rfl rfl rfl rfl (fun bX wX xX hbX rX0 => ?_)
  refine EL_box rfl rfl rfl rfl (fun bO wO xO hbO rO0 => ?_)
  refine EL_box rfl rfl rfl rfl (fun bE wE xE hbE rE0 => ?_)
  refine EL_alloc rfl rfl rfl (fun bA wA xA hbA rA0 => ?_)
  have hbXl := rX0.lt
  have hbOl := rO0.lt
  have hbEl := rE0.lt
  have hbAl := rA0.lt
  have rX : Row wA bX 24 [.slice as_ xs.length cs_] := rX0.ext (xO.trans (xE.trans xA))
  have rO : Row wA bO 36 [int o.rid, str o.rname, int o.len, int o.day, so, .slice ato o.tiers.length cto, .slice ano o.notes.length cno] := rO0.ext (xE.trans xA)
  have rE : Row wA bE 36 [int e.rid, str e.rname, int e.len, int e.day, se, .slice ate e.tiers.length cte, .slice ane e.notes.length cne] := rE0.ext xA
  have x0 := xX.trans (xO.trans (xE.trans xA))
  have hsv : SlG (fun b => b ≠ bX ∧ b ≠ bA) wA (.slice as_ xs.length cs_) xs := (hv.old.ext x0).wk fun b hb => by omega
  have hwX : w.heap.size ≤ bX := by omega
  have hwA : w.heap.size ≤ bA := by have := xX.size; have := xO.size; have := xE.size; omega
  clear rX0 rO0 rE0
  (repeat' (first | refine eV rfl rfl (val_load rfl rfl rfl (rO.cellAt rfl)) ?_ | (refine at_EL ?_; first | refine eN ?_ | refine eV rfl rfl (zA rfl rfl) ?_ | (refine at_call ?_; first | refine eV rfl rfl (zK rfl rfl) ?_) | refine eV rfl rfl (zH rfl rfl) ?_) | (refine at_K ?_; first | refine K_then ?_) | (refine at_E ?_; first | refine E_seq ?_ | refine E_region ?_ | refine E_block ?_)))
  refine E_loop (ι := Nat) (fun i => [(3, .pointer (some ⟨bX, 0, none⟩)), (4, .pointer (some ⟨bO, 0, none⟩)), (5, .pointer (some ⟨bE, 0, none⟩)), (6, .pointer (some ⟨bA, 0, none⟩)), (12, .slice ano o.notes.length cno), (13, int o.notes.length), (14, int i)])
    (fun i wr => i ≤ o.notes.length ∧ Ext w wr ∧ Row wr bO 36 [int o.rid, str o.rname, int o.len, int o.day, so, .slice ato o.tiers.length cto, .slice ano o.notes.length cno] ∧ Row wr bE 36 [int e.rid, str e.rname, int e.len, int e.day, se, .slice ate e.tiers.length cte, .slice ane e.notes.length cne] ∧ Row wr bA 24 [.slice none 0 0] ∧ ∃ sv, Row wr bX 24 [sv] ∧ SlG (fun b => b ≠ bX ∧ b ≠ bA) wr sv (offF o.tiers (o.notes.take i) xs)) (fun i => o.notes.length - i) 0
    ⟨rfl, rfl, rfl, rfl, rfl, rfl, rfl, trivial⟩ ⟨Nat.zero_le _, x0, rO, rE, rA0, _, rX, hsv⟩ ?_
  rintro i wr ⟨hi, hx, rO, rE, rA, sv, rX, hsv⟩
  have hsm := (hxs.off o.tiers (o.notes.take i))
  by_cases hlt : i < o.notes.length
  · obtain ⟨b', off', rfl⟩ := hpno (by omega)
    obtain ⟨x, hxx⟩ : ∃ x, o.notes[i]? = some x := ⟨_, List.getElem?_eq_getElem hlt⟩
    obtain ⟨m, t, hmm, hmlt, htt, hro⟩ := tier_in hno hxx
    obtain ⟨b, off, rfl⟩ := hpto (by omega)
    have hatn := note_elem (hno0.ext hx) hxx
    have hbt := off_take (ts := o.tiers) (xs := xs) hxx
    rw [hro] at hbt
    have hbXr := rX.lt
    have hbAr := rA.lt
    (repeat' (first | refine eV rfl rfl (val_indexAddr (m := i) rfl rfl rfl rfl (by omega)) ?_ | refine eV rfl rfl (val_loadA rfl rfl rfl hatn rfl) ?_ | (refine at_EL ?_; first | refine eN ?_ | (refine at_bin ?_; first | refine eD rfl rfl (zL rfl rfl rfl) (fun hh => ?_) (fun hh => ?_)) | refine eV rfl rfl (zH rfl rfl) ?_) | (refine at_K ?_; first | refine K_then ?_ | refine K_then_exit ?_ | refine K_in_exit ?_) | (refine at_E ?_; first | refine E_seq ?_ | refine E_region ?_ | refine E_cond_t rfl ?_ | refine E_cond_f rfl ?_ | refine E_block ?_ | refine E_skip ?_ | refine E_exit ?_)))
    all_goals (first | (exfalso; omega) | skip)
    refine EL_alloc rfl rfl rfl (fun b4 w3 x3 hb4 r3 => ?_)
    refine EL_storeP (cs := noteC x) r3 x3 (by omega) rfl rfl rfl rfl rfl rfl rfl rfl (Nat.le_refl _) (fun w4 r4' x4 k4 => ?_)
    have r4 : Row w4 b4 57 [int x.id, int m, int x.parent, int x.frm, int x.til, int x.rank, str x.text] := by rw [← hmm]; exact r4'
    clear r4'
    replace rX := rX.ext x4
    replace rO := rO.ext x4
    replace rE := rE.ext x4
    replace rA := rA.ext x4
    have hatt := tier_elem (hto0.ext (hx.trans x4)) htt
    have hsv4 := hsv.ext x4
    (repeat' (first | refine yV rfl rfl (fun wq _ xq => val_loadA (cs := [sv]) rfl rfl rfl (rX.ext xq).at rfl) ?_ | refine yV rfl rfl (fun wq _ xq => val_load rfl rfl rfl ((rO.ext xq).cellAt rfl)) ?_ | refine yV rfl rfl (fun wq _ xq => val_load rfl rfl rfl ((r4.ext xq).cellAt rfl)) ?_ | refine yV rfl rfl (fun _ _ _ => val_indexAddr (m := m) rfl rfl rfl rfl hmlt) ?_ | refine yV rfl rfl (fun wq _ xq => val_load rfl rfl rfl ((hatt.ext xq).cellAt rfl)) ?_ | (refine at_EL ?_; first | refine eN ?_) | (refine at_K ?_; first | refine K_then ?_) | (refine at_E ?_; first | refine E_dq mixedOk (by kernel_rfl) rfl ?_) | (refine at_RQ ?_; first | refine yV rfl rfl (fun _ _ _ => zH rfl rfl) ?_)))
    refine RQ_callR (fun u w' => IxG (fun b => b ≠ bX ∧ b ≠ bA) w' u (offF o.tiers (o.notes.take (i + 1)) xs)) (fun _ => #[.agg #[sv], int t.role, str x.text, int x.id]) rfl rfl (fun _ _ _ _ xe h => h.ext xe) (fun _ _ _ => entersF rfl rfl en32)
      (fun wq δ xq _ => calls_mono (take_any _ sv t.role x.text x.id wq (hsv4.ext xq) (by have := hsm.1; omega) (fun p hp => by have := hsm.2 p hp; omega)) ?_) ?_
    · rintro u w' ⟨xe, s', rfl, hs'⟩
      refine ⟨⟨s', rfl, ?_⟩, xe⟩
      rw [hbt]
      exact hs'.wk fun b hb => hb.elim id (fun h => ⟨fun e => by subst e; have := x4.size; have := xq.size; omega, fun e => by subst e; have := x4.size; have := xq.size; omega⟩)
    refine RQ_end (fun wq δ xq hR => ?_)
    obtain ⟨s', he, hs'⟩ := hR 30 _ rfl
    refine EL_storeP (cs := [s']) (v := .agg #[s']) (rX.ext xq) (hx.trans (x4.trans xq)) (by omega) rfl rfl rfl rfl (show some (δ 30) = _ by rw [he]) rfl rfl (by obtain ⟨_, _, rfl, _⟩ := hs'; rfl) (Nat.le_refl _) (fun w5 r5 x5 k5 => ?_)
    (repeat' (first | (refine at_EL ?_; first | refine eN ?_ | refine eV rfl rfl (zA rfl rfl) ?_ | (refine at_bin ?_; first | refine eV rfl rfl (zU rfl rfl rfl (by omega) (by omega)) ?_)) | (refine at_K ?_; first | refine K_then ?_ | refine K_in ?_) | (refine at_E ?_; first | refine E_region ?_)))
    exact K_rnd (i + 1) ⟨rfl, rfl, rfl, rfl, rfl, rfl, rfl, trivial⟩ ⟨by omega, x5, k5.row (rO.ext xq) (fun e => by cases e; omega), k5.row (rE.ext xq) (fun e => by cases e; omega), k5.row (rA.ext xq) (fun e => by cases e; omega), s', r5, hs'.move (k5.mv fun b hb e => by cases e; exact hb.1 rfl)⟩ (by omega)
  obtain rfl : i = o.notes.length := by omega
  rw [List.take_length] at hsv hsm
  obtain ⟨Y, hY⟩ : ∃ Y, Y = offF o.tiers o.notes xs := ⟨_, rfl⟩
  rw [← hY] at hsv hsm
  have hYR := hsm
  have hwr := hx
  (repeat' (first | refine eV rfl rfl (val_load rfl rfl rfl (rE.cellAt rfl)) ?_ | (refine at_EL ?_; first | refine eN ?_ | refine eV rfl rfl (zA rfl rfl) ?_ | (refine at_bin ?_; first | refine eD rfl rfl (zL rfl rfl rfl) (fun hh => ?_) (fun hh => ?_)) | (refine at_call ?_; first | refine eV rfl rfl (zK rfl rfl) ?_) | refine eV rfl rfl (zH rfl rfl) ?_) | (refine at_K ?_; first | refine K_then ?_ | refine K_then_exit ?_ | refine K_in_exit ?_) | (refine at_E ?_; first | refine E_seq ?_ | refine E_region ?_ | refine E_cond_t rfl ?_ | refine E_cond_f rfl ?_ | refine E_block ?_ | refine E_skip ?_ | refine E_exit ?_)))
  all_goals (first | (exfalso; omega) | skip)
  clear hto0 hno0 hpto hpno hlt hi
  refine E_loop (ι := Nat) (fun i => [(3, .pointer (some ⟨bX, 0, none⟩)), (4, .pointer (some ⟨bO, 0, none⟩)), (5, .pointer (some ⟨bE, 0, none⟩)), (6, .pointer (some ⟨bA, 0, none⟩)), (33, .slice ane e.notes.length cne), (34, int e.notes.length), (35, int i)])
    (fun i wr => i ≤ e.notes.length ∧ Ext w wr ∧ Row wr bO 36 [int o.rid, str o.rname, int o.len, int o.day, so, .slice ato o.tiers.length cto, .slice ano o.notes.length cno] ∧ Row wr bE 36 [int e.rid, str e.rname, int e.len, int e.day, se, .slice ate e.tiers.length cte, .slice ane e.notes.length cne] ∧ Row wr bA 24 [.slice none 0 0] ∧ ∃ sv, Row wr bX 24 [sv] ∧ SlG (fun b => b ≠ bX ∧ b ≠ bA) wr sv (onF e.tiers (e.notes.take i) Y)) (fun i => e.notes.length - i) 0
    ⟨rfl, rfl, rfl, rfl, rfl, rfl, rfl, trivial⟩ ⟨Nat.zero_le _, hx, rO, rE, rA, _, rX, hsv⟩ ?_
  rintro i wr ⟨hi, hx, rO, rE, rA, sv, rX, hsv⟩
  have hsm := ((hYR.on e.tiers (e.notes.take i)).wk (m := 1001000) (by rw [List.length_take]; omega))
  by_cases hlt : i < e.notes.length
  · obtain ⟨b', off', rfl⟩ := hpne (by omega)
    obtain ⟨x, hxx⟩ : ∃ x, e.notes[i]? = some x := ⟨_, List.getElem?_eq_getElem hlt⟩
    obtain ⟨m, t, hmm, hmlt, htt, hro⟩ := tier_in hne hxx
    obtain ⟨b, off, rfl⟩ := hpte (by omega)
    have hatn := note_elem (hne0.ext hx) hxx
    have hbt := on_take (ts := e.tiers) (xs := Y) hxx
    rw [hro] at hbt
    have hbXr := rX.lt
    have hbAr := rA.lt
    (repeat' (first | refine eV rfl rfl (val_indexAddr (m := i) rfl rfl rfl rfl (by omega)) ?_ | refine eV rfl rfl (val_loadA rfl rfl rfl hatn rfl) ?_ | (refine at_EL ?_; first | refine eN ?_ | (refine at_bin ?_; first | refine eD rfl rfl (zL rfl rfl rfl) (fun hh => ?_) (fun hh => ?_))) | (refine at_K ?_; first | refine K_then ?_ | refine K_then_exit ?_ | refine K_in_exit ?_) | (refine at_E ?_; first | refine E_seq ?_ | refine E_region ?_ | refine E_cond_t rfl ?_ | refine E_cond_f rfl ?_ | refine E_block ?_ | refine E_skip ?_ | refine E_exit ?_)))
    all_goals (first | (exfalso; omega) | skip)
    refine EL_alloc rfl rfl rfl (fun b4 w3 x3 hb4 r3 => ?_)
    refine EL_storeP (cs := noteC x) r3 x3 (by omega) rfl rfl rfl rfl rfl rfl rfl rfl (Nat.le_refl _) (fun w4 r4' x4 k4 => ?_)
    have r4 : Row w4 b4 57 [int x.id, int m, int x.parent, int x.frm, int x.til, int x.rank, str x.text] := by rw [← hmm]; exact r4'
    clear r4'
    replace rX := rX.ext x4
    replace rO := rO.ext x4
    replace rE := rE.ext x4
    replace rA := rA.ext x4
    have hatt := tier_elem (hte0.ext (hx.trans x4)) htt
    have hsv4 := hsv.ext x4
    (repeat' (first | refine yV rfl rfl (fun wq _ xq => val_loadA (cs := [sv]) rfl rfl rfl (rX.ext xq).at rfl) ?_ | refine yV rfl rfl (fun wq _ xq => val_load rfl rfl rfl ((rE.ext xq).cellAt rfl)) ?_ | refine yV rfl rfl (fun wq _ xq => val_load rfl rfl rfl ((r4.ext xq).cellAt rfl)) ?_ | refine yV rfl rfl (fun _ _ _ => val_indexAddr (m := m) rfl rfl rfl rfl hmlt) ?_ | refine yV rfl rfl (fun wq _ xq => val_load rfl rfl rfl ((hatt.ext xq).cellAt rfl)) ?_ | (refine at_EL ?_; first | refine eN ?_) | (refine at_K ?_; first | refine K_then ?_) | (refine at_E ?_; first | refine E_dq mixedOk (by kernel_rfl) rfl ?_) | (refine at_RQ ?_; first | refine yV rfl rfl (fun _ _ _ => zH rfl rfl) ?_)))
    refine RQ_callR (fun u w' => IxG (fun b => b ≠ bX ∧ b ≠ bA) w' u (onF e.tiers (e.notes.take (i + 1)) Y)) (fun _ => #[.agg #[sv], int t.role, str x.text, int x.id]) rfl rfl (fun _ _ _ _ xe h => h.ext xe) (fun _ _ _ => entersF rfl rfl en30)
      (fun wq δ xq _ => calls_mono (put_any _ sv t.role x.text x.id wq (hsv4.ext xq) (by have := hsm.1; omega) (fun p hp => by have := hsm.2 p hp; omega)) ?_) ?_
    · rintro u w' ⟨xe, s', rfl, hs'⟩
      refine ⟨⟨s', rfl, ?_⟩, xe⟩
      rw [hbt]
      exact hs'.wk fun b hb => hb.elim id (fun h => ⟨fun e => by subst e; have := x4.size; have := xq.size; omega, fun e => by subst e; have := x4.size; have := xq.size; omega⟩)
    refine RQ_end (fun wq δ xq hR => ?_)
    obtain ⟨s', he, hs'⟩ := hR 51 _ rfl
    refine EL_storeP (cs := [s']) (v := .agg #[s']) (rX.ext xq) (hx.trans (x4.trans xq)) (by omega) rfl rfl rfl rfl (show some (δ 51) = _ by rw [he]) rfl rfl (by obtain ⟨_, _, rfl, _⟩ := hs'; rfl) (Nat.le_refl _) (fun w5 r5 x5 k5 => ?_)
    (repeat' (first | (refine at_EL ?_; first | refine eN ?_ | refine eV rfl rfl (zA rfl rfl) ?_ | (refine at_bin ?_; first | refine eV rfl rfl (zU rfl rfl rfl (by omega) (by omega)) ?_)) | (refine at_K ?_; first | refine K_then ?_ | refine K_in ?_) | (refine at_E ?_; first | refine E_region ?_)))
    exact K_rnd (i + 1) ⟨rfl, rfl, rfl, rfl, rfl, rfl, rfl, trivial⟩ ⟨by omega, x5, k5.row (rO.ext xq) (fun e => by cases e; omega), k5.row (rE.ext xq) (fun e => by cases e; omega), k5.row (rA.ext xq) (fun e => by cases e; omega), s', r5, hs'.move (k5.mv fun b hb e => by cases e; exact hb.1 rfl)⟩ (by omega)
  obtain rfl : i = e.notes.length := by omega
  rw [List.take_length] at hsv
  have hsv0 := hsv
  obtain ⟨aS, capS, rfl, _⟩ := hsv.sl
  (repeat' (first | refine eV rfl rfl (val_loadA (cs := [_]) rfl rfl rfl rX.at rfl) ?_ | (refine at_EL ?_; first | refine eN ?_ | (refine at_bin ?_; first | refine eD rfl rfl (zL rfl rfl rfl) (fun hh => ?_) (fun hh => ?_))) | (refine at_K ?_; first | refine K_then ?_ | refine K_then_exit ?_ | refine K_in_exit ?_) | (refine at_E ?_; first | refine E_seq ?_ | refine E_region ?_ | refine E_cond_t rfl ?_ | refine E_cond_f rfl ?_ | refine E_block ?_ | refine E_skip ?_ | refine E_exit ?_)))
  all_goals (first | (exfalso; omega) | skip)
  refine EL_storeP (cs := [_]) rA hx hwA rfl rfl rfl rfl rfl rfl rfl rfl (Nat.le_refl _) (fun w9 r9 x9 k9 => ?_)
  (repeat' (first | (refine at_EL ?_; first | refine eN ?_) | (refine at_K ?_; first | refine K_then ?_) | (refine at_E ?_; first | refine E_ret ?_)))
  refine ret_c rfl rfl rfl r9.at rfl ⟨x9, _, rfl, ?_⟩
  unfold updF
  rw [← hY]
  exact (hsv0.move (k9.mv fun b hb e => by cases e; exact hb.2 rfl)).any
set_option maxHeartbeats 4000000 in
theorem rupdate_any (xs : List Post) (o e : Dc) (s vo ve : Value) (w : World) (hv : Sl w s xs) (ho : DcAt w vo o) (he : DcAt w ve e) (hR : Right xs) (hxs : Small 1000000 xs) (hno : TierIn o) (hne : TierIn e) (hlo : o.notes.length ≤ 1000) (hle : e.notes.length ≤ 1000) :
    Calls Tryd.prog 37 #[.agg #[s], vo, ve] w (Rt fun u w' => Ext w w' ∧ Ix w' u (updF xs o e)) := by
  obtain ⟨so, tvo, nvo, rfl, _, hto, hnot⟩ := ho
  obtain ⟨se, tve, nve, rfl, _, hte, hnet⟩ := he
  refine calls_E (n := 62) (args := [.agg #[s], .agg #[int o.rid, str o.rname, int o.len, int o.day, so, tvo, nvo], .agg #[int e.rid, str e.rname, int e.len, int e.day, se, tve, nve]]) Tryd.func37 rfl Tryd.ntmps37 (by simp) ?_
  have hto0 := hto
  have hno0 := hnot
  have hte0 := hte
  have hne0 := hnet
  have hv0 := hv
  obtain ⟨as_, cs_, rfl, _⟩ := hv0.sl
  obtain ⟨ato, cto, rfl, _, hmto, hpto⟩ := hto.sl
  obtain ⟨ano, cno, rfl, _, hmno, hpno⟩ := hnot.sl
  obtain ⟨ate, cte, rfl, _, hmte, hpte⟩ := hte.sl
  obtain ⟨ane, cne, rfl, _, hmne, hpne⟩ := hnet.sl
  refine E_seq ?_
  refine E_region ?_
  refine EL_box rfl rfl rfl rfl (fun bX wX xX hbX rX0 => ?_)
  refine EL_box rfl rfl rfl rfl (fun bO wO xO hbO rO0 => ?_)
  refine EL_box rfl rfl rfl rfl (fun bE wE xE hbE rE0 => ?_)
  refine EL_alloc rfl rfl rfl (fun bA wA xA hbA rA0 => ?_)
  have hbXl := rX0.lt
  have hbOl := rO0.lt
  have hbEl := rE0.lt
  have hbAl := rA0.lt
  have rX : Row wA bX 24 [.slice as_ xs.length cs_] := rX0.ext (xO.trans (xE.trans xA))
  have rO : Row wA bO 36 [int o.rid, str o.rname, int o.len, int o.day, so, .slice ato o.tiers.length cto, .slice ano o.notes.length cno] := rO0.ext (xE.trans xA)
  have rE : Row wA bE 36 [int e.rid, str e.rname, int e.len, int e.day, se, .slice ate e.tiers.length cte, .slice ane e.notes.length cne] := rE0.ext xA
  have x0 := xX.trans (xO.trans (xE.trans xA))
  have hsv := hv.ext x0
  have hwX : w.heap.size ≤ bX := by omega
  have hwA : w.heap.size ≤ bA := by have := xX.size; have := xO.size; have := xE.size; omega
  clear rX0 rO0 rE0
  (repeat' (first | (refine at_EL ?_; first | refine eN ?_ | refine eV rfl rfl (zB rfl rfl) ?_) | (refine at_K ?_; first | refine K_then ?_) | (refine at_E ?_; first | refine E_seq ?_ | refine E_region ?_ | refine E_block ?_)))
  refine E_loop (ι := Nat) (fun i => [(3, .pointer (some ⟨bX, 0, none⟩)), (4, .pointer (some ⟨bO, 0, none⟩)), (5, .pointer (some ⟨bE, 0, none⟩)), (6, .pointer (some ⟨bA, 0, none⟩)), (7, int i)])
    (fun i wr => i ≤ o.notes.length ∧ Ext w wr ∧ Row wr bO 36 [int o.rid, str o.rname, int o.len, int o.day, so, .slice ato o.tiers.length cto, .slice ano o.notes.length cno] ∧ Row wr bE 36 [int e.rid, str e.rname, int e.len, int e.day, se, .slice ate e.tiers.length cte, .slice ane e.notes.length cne] ∧ Row wr bA 24 [.slice none 0 0] ∧ ∃ sv, Row wr bX 24 [sv] ∧ Sl wr sv (offF o.tiers (o.notes.take i) xs)) (fun i => o.notes.length - i) 0
    ⟨rfl, rfl, rfl, rfl, rfl, trivial⟩ ⟨Nat.zero_le _, x0, rO, rE, rA0, _, rX, hsv⟩ ?_
  rintro i wr ⟨hi, hx, rO, rE, rA, sv, rX, hsv⟩
  have hsm := (hxs.off o.tiers (o.notes.take i))
  have hRi := (off_right o.tiers (o.notes.take i) hR)
  by_cases hlt : i < o.notes.length
  · obtain ⟨b', off', rfl⟩ := hpno (by omega)
    obtain ⟨x, hxx⟩ : ∃ x, o.notes[i]? = some x := ⟨_, List.getElem?_eq_getElem hlt⟩
    obtain ⟨m, t, hmm, hmlt, htt, hro⟩ := tier_in hno hxx
    obtain ⟨b, off, rfl⟩ := hpto (by omega)
    have hatn := note_elem (hno0.ext hx) hxx
    have hbt := off_take (ts := o.tiers) (xs := xs) hxx
    rw [hro, ← rtake_eq hRi] at hbt
    have hbXr := rX.lt
    have hbAr := rA.lt
    (repeat' (first | refine eV rfl rfl (val_load rfl rfl rfl (rO.cellAt rfl)) ?_ | refine eV rfl rfl (val_indexAddr (m := i) rfl rfl rfl rfl (by omega)) ?_ | refine eV rfl rfl (val_loadA rfl rfl rfl hatn rfl) ?_ | (refine at_EL ?_; first | refine eN ?_ | refine eV rfl rfl (zA rfl rfl) ?_ | refine eV rfl rfl (zB rfl rfl) ?_ | (refine at_bin ?_; first | refine eD rfl rfl (zL rfl rfl rfl) (fun hh => ?_) (fun hh => ?_)) | (refine at_call ?_; first | refine eV rfl rfl (zK rfl rfl) ?_) | refine eV rfl rfl (zH rfl rfl) ?_) | (refine at_K ?_; first | refine K_then ?_ | refine K_then_exit ?_ | refine K_in_exit ?_) | (refine at_E ?_; first | refine E_seq ?_ | refine E_region ?_ | refine E_cond_t rfl ?_ | refine E_cond_f rfl ?_ | refine E_block ?_ | refine E_skip ?_ | refine E_exit ?_)))
    all_goals (first | (exfalso; omega) | skip)
    refine EL_alloc rfl rfl rfl (fun b4 w3 x3 hb4 r3 => ?_)
    refine EL_storeP (cs := noteC x) r3 x3 (by omega) rfl rfl rfl rfl rfl rfl rfl rfl (Nat.le_refl _) (fun w4 r4' x4 k4 => ?_)
    have r4 : Row w4 b4 57 [int x.id, int m, int x.parent, int x.frm, int x.til, int x.rank, str x.text] := by rw [← hmm]; exact r4'
    clear r4'
    replace rX := rX.ext x4
    replace rO := rO.ext x4
    replace rE := rE.ext x4
    replace rA := rA.ext x4
    have hatt := tier_elem (hto0.ext (hx.trans x4)) htt
    have hsv4 := hsv.ext x4
    (repeat' (first | refine yV rfl rfl (fun wq _ xq => val_loadA (cs := [sv]) rfl rfl rfl (rX.ext xq).at rfl) ?_ | refine yV rfl rfl (fun wq _ xq => val_load rfl rfl rfl ((rO.ext xq).cellAt rfl)) ?_ | refine yV rfl rfl (fun wq _ xq => val_load rfl rfl rfl ((r4.ext xq).cellAt rfl)) ?_ | refine yV rfl rfl (fun _ _ _ => val_indexAddr (m := m) rfl rfl rfl rfl hmlt) ?_ | refine yV rfl rfl (fun wq _ xq => val_load rfl rfl rfl ((hatt.ext xq).cellAt rfl)) ?_ | (refine at_EL ?_; first | refine eN ?_) | (refine at_K ?_; first | refine K_then ?_) | (refine at_E ?_; first | refine E_dq mixedOk (by kernel_rfl) rfl ?_) | (refine at_RQ ?_; first | refine yV rfl rfl (fun _ _ _ => zH rfl rfl) ?_)))
    refine RQ_callR (fun u w' => Ix w' u (offF o.tiers (o.notes.take (i + 1)) xs)) (fun _ => #[.agg #[sv], int t.role, str x.text, int x.id]) rfl rfl (fun _ _ _ _ xe h => h.ext xe) (fun _ _ _ => entersF rfl rfl en33)
      (fun wq δ xq _ => calls_mono (rtake_any _ sv t.role x.text x.id wq (hsv4.ext xq) (by have := hsm.1; omega) (fun p hp => by have := hsm.2 p hp; omega)) ?_) ?_
    · rintro u w' ⟨xe, h'⟩
      rw [hbt]
      exact ⟨h', xe⟩
    refine RQ_end (fun wq δ xq hQ => ?_)
    obtain ⟨s', he, hs'⟩ := hQ 35 _ rfl
    obtain ⟨aV, cV, rfl, _⟩ := hsv4.sl
    have hsaw := away_posts (rX.ext xq) hs'
    refine EL_storeP (cs := [s']) (v := .agg #[s']) (rX.ext xq) (hx.trans (x4.trans xq)) (by omega) rfl rfl rfl rfl (show some (δ 35) = _ by rw [he]) rfl rfl (by obtain ⟨_, _, rfl, _⟩ := hs'; rfl) (Nat.le_refl _) (fun w5 r5 x5 k5 => ?_)
    (repeat' (first | (refine at_EL ?_; first | refine eN ?_ | refine eV rfl rfl (zA rfl rfl) ?_ | refine eV rfl rfl (zB rfl rfl) ?_ | (refine at_bin ?_; first | refine eV rfl rfl (zU rfl rfl rfl (by omega) (by omega)) ?_)) | (refine at_K ?_; first | refine K_then ?_ | refine K_in ?_) | (refine at_E ?_; first | refine E_region ?_)))
    exact K_rnd (i + 1) ⟨rfl, rfl, rfl, rfl, rfl, trivial⟩ ⟨by omega, x5, k5.row (rO.ext xq) (fun e => by cases e; omega), k5.row (rE.ext xq) (fun e => by cases e; omega), k5.row (rA.ext xq) (fun e => by cases e; omega), s', r5, (hsaw.move (k5.mv fun b hb e => by cases e; exact hb rfl)).any⟩ (by omega)
  obtain rfl : i = o.notes.length := by omega
  rw [List.take_length] at hsv hsm hRi
  obtain ⟨Y, hY⟩ : ∃ Y, Y = offF o.tiers o.notes xs := ⟨_, rfl⟩
  rw [← hY] at hsv hsm hRi
  have hYR := hsm
  have hYr := hRi
  clear hRi
  (repeat' (first | refine eV rfl rfl (val_load rfl rfl rfl (rO.cellAt rfl)) ?_ | (refine at_EL ?_; first | refine eN ?_ | refine eV rfl rfl (zA rfl rfl) ?_ | refine eV rfl rfl (zB rfl rfl) ?_ | (refine at_bin ?_; first | refine eD rfl rfl (zL rfl rfl rfl) (fun hh => ?_) (fun hh => ?_)) | (refine at_call ?_; first | refine eV rfl rfl (zK rfl rfl) ?_) | refine eV rfl rfl (zH rfl rfl) ?_) | (refine at_K ?_; first | refine K_then ?_ | refine K_then_exit ?_ | refine K_in_exit ?_) | (refine at_E ?_; first | refine E_seq ?_ | refine E_region ?_ | refine E_cond_t rfl ?_ | refine E_cond_f rfl ?_ | refine E_block ?_ | refine E_skip ?_ | refine E_exit ?_)))
  all_goals (first | (exfalso; omega) | skip)
  clear hto0 hno0 hpto hpno hlt hi
  refine E_loop (ι := Nat) (fun i => [(3, .pointer (some ⟨bX, 0, none⟩)), (4, .pointer (some ⟨bO, 0, none⟩)), (5, .pointer (some ⟨bE, 0, none⟩)), (6, .pointer (some ⟨bA, 0, none⟩)), (9, int i)])
    (fun i wr => i ≤ e.notes.length ∧ Ext w wr ∧ Row wr bO 36 [int o.rid, str o.rname, int o.len, int o.day, so, .slice ato o.tiers.length cto, .slice ano o.notes.length cno] ∧ Row wr bE 36 [int e.rid, str e.rname, int e.len, int e.day, se, .slice ate e.tiers.length cte, .slice ane e.notes.length cne] ∧ Row wr bA 24 [.slice none 0 0] ∧ ∃ sv, Row wr bX 24 [sv] ∧ Sl wr sv (onF e.tiers (e.notes.take i) Y)) (fun i => e.notes.length - i) 0
    ⟨rfl, rfl, rfl, rfl, rfl, trivial⟩ ⟨Nat.zero_le _, hx, rO, rE, rA, _, rX, hsv⟩ ?_
  rintro i wr ⟨hi, hx, rO, rE, rA, sv, rX, hsv⟩
  have hsm := ((hYR.on e.tiers (e.notes.take i)).wk (m := 1001000) (by rw [List.length_take]; omega))
  have hRi := (on_right e.tiers (e.notes.take i) hYr)
  by_cases hlt : i < e.notes.length
  · obtain ⟨b', off', rfl⟩ := hpne (by omega)
    obtain ⟨x, hxx⟩ : ∃ x, e.notes[i]? = some x := ⟨_, List.getElem?_eq_getElem hlt⟩
    obtain ⟨m, t, hmm, hmlt, htt, hro⟩ := tier_in hne hxx
    obtain ⟨b, off, rfl⟩ := hpte (by omega)
    have hatn := note_elem (hne0.ext hx) hxx
    have hbt := on_take (ts := e.tiers) (xs := Y) hxx
    rw [hro, ← rput_eq hRi] at hbt
    have hbXr := rX.lt
    have hbAr := rA.lt
    (repeat' (first | refine eV rfl rfl (val_load rfl rfl rfl (rE.cellAt rfl)) ?_ | refine eV rfl rfl (val_indexAddr (m := i) rfl rfl rfl rfl (by omega)) ?_ | refine eV rfl rfl (val_loadA rfl rfl rfl hatn rfl) ?_ | (refine at_EL ?_; first | refine eN ?_ | refine eV rfl rfl (zA rfl rfl) ?_ | (refine at_bin ?_; first | refine eD rfl rfl (zL rfl rfl rfl) (fun hh => ?_) (fun hh => ?_)) | (refine at_call ?_; first | refine eV rfl rfl (zK rfl rfl) ?_) | refine eV rfl rfl (zH rfl rfl) ?_) | (refine at_K ?_; first | refine K_then ?_ | refine K_then_exit ?_ | refine K_in_exit ?_) | (refine at_E ?_; first | refine E_seq ?_ | refine E_region ?_ | refine E_cond_t rfl ?_ | refine E_cond_f rfl ?_ | refine E_block ?_ | refine E_skip ?_ | refine E_exit ?_)))
    all_goals (first | (exfalso; omega) | skip)
    refine EL_alloc rfl rfl rfl (fun b4 w3 x3 hb4 r3 => ?_)
    refine EL_storeP (cs := noteC x) r3 x3 (by omega) rfl rfl rfl rfl rfl rfl rfl rfl (Nat.le_refl _) (fun w4 r4' x4 k4 => ?_)
    have r4 : Row w4 b4 57 [int x.id, int m, int x.parent, int x.frm, int x.til, int x.rank, str x.text] := by rw [← hmm]; exact r4'
    clear r4'
    replace rX := rX.ext x4
    replace rO := rO.ext x4
    replace rE := rE.ext x4
    replace rA := rA.ext x4
    have hatt := tier_elem (hte0.ext (hx.trans x4)) htt
    have hsv4 := hsv.ext x4
    (repeat' (first | refine yV rfl rfl (fun wq _ xq => val_loadA (cs := [sv]) rfl rfl rfl (rX.ext xq).at rfl) ?_ | refine yV rfl rfl (fun wq _ xq => val_load rfl rfl rfl ((rE.ext xq).cellAt rfl)) ?_ | refine yV rfl rfl (fun wq _ xq => val_load rfl rfl rfl ((r4.ext xq).cellAt rfl)) ?_ | refine yV rfl rfl (fun _ _ _ => val_indexAddr (m := m) rfl rfl rfl rfl hmlt) ?_ | refine yV rfl rfl (fun wq _ xq => val_load rfl rfl rfl ((hatt.ext xq).cellAt rfl)) ?_ | (refine at_EL ?_; first | refine eN ?_) | (refine at_K ?_; first | refine K_then ?_) | (refine at_E ?_; first | refine E_dq mixedOk (by kernel_rfl) rfl ?_) | (refine at_RQ ?_; first | refine yV rfl rfl (fun _ _ _ => zH rfl rfl) ?_)))
    refine RQ_callR (fun u w' => Ix w' u (onF e.tiers (e.notes.take (i + 1)) Y)) (fun _ => #[.agg #[sv], int t.role, str x.text, int x.id]) rfl rfl (fun _ _ _ _ xe h => h.ext xe) (fun _ _ _ => entersF rfl rfl en31)
      (fun wq δ xq _ => calls_mono (rput_any _ sv t.role x.text x.id wq (hsv4.ext xq) (by have := hsm.1; omega) (fun p hp => by have := hsm.2 p hp; omega)) ?_) ?_
    · rintro u w' ⟨xe, h'⟩
      rw [hbt]
      exact ⟨h', xe⟩
    refine RQ_end (fun wq δ xq hQ => ?_)
    obtain ⟨s', he, hs'⟩ := hQ 60 _ rfl
    obtain ⟨aV, cV, rfl, _⟩ := hsv4.sl
    have hsaw := away_posts (rX.ext xq) hs'
    refine EL_storeP (cs := [s']) (v := .agg #[s']) (rX.ext xq) (hx.trans (x4.trans xq)) (by omega) rfl rfl rfl rfl (show some (δ 60) = _ by rw [he]) rfl rfl (by obtain ⟨_, _, rfl, _⟩ := hs'; rfl) (Nat.le_refl _) (fun w5 r5 x5 k5 => ?_)
    (repeat' (first | (refine at_EL ?_; first | refine eN ?_ | refine eV rfl rfl (zA rfl rfl) ?_ | refine eV rfl rfl (zB rfl rfl) ?_ | (refine at_bin ?_; first | refine eV rfl rfl (zU rfl rfl rfl (by omega) (by omega)) ?_)) | (refine at_K ?_; first | refine K_then ?_ | refine K_in ?_) | (refine at_E ?_; first | refine E_region ?_)))
    exact K_rnd (i + 1) ⟨rfl, rfl, rfl, rfl, rfl, trivial⟩ ⟨by omega, x5, k5.row (rO.ext xq) (fun e => by cases e; omega), k5.row (rE.ext xq) (fun e => by cases e; omega), k5.row (rA.ext xq) (fun e => by cases e; omega), s', r5, (hsaw.move (k5.mv fun b hb e => by cases e; exact hb rfl)).any⟩ (by omega)
  obtain rfl : i = e.notes.length := by omega
  rw [List.take_length] at hsv
  have hsaw := away_posts rA hsv
  obtain ⟨aS, capS, rfl, _⟩ := hsv.sl
  (repeat' (first | refine eV rfl rfl (val_load rfl rfl rfl (rE.cellAt rfl)) ?_ | refine eV rfl rfl (val_loadA (cs := [_]) rfl rfl rfl rX.at rfl) ?_ | (refine at_EL ?_; first | refine eN ?_ | refine eV rfl rfl (zA rfl rfl) ?_ | (refine at_bin ?_; first | refine eD rfl rfl (zL rfl rfl rfl) (fun hh => ?_) (fun hh => ?_)) | (refine at_call ?_; first | refine eV rfl rfl (zK rfl rfl) ?_) | refine eV rfl rfl (zH rfl rfl) ?_) | (refine at_K ?_; first | refine K_then ?_ | refine K_then_exit ?_ | refine K_in_exit ?_) | (refine at_E ?_; first | refine E_seq ?_ | refine E_region ?_ | refine E_cond_t rfl ?_ | refine E_cond_f rfl ?_ | refine E_block ?_ | refine E_skip ?_ | refine E_exit ?_)))
  all_goals (first | (exfalso; omega) | skip)
  refine EL_storeP (cs := [_]) rA hx hwA rfl rfl rfl rfl rfl rfl rfl rfl (Nat.le_refl _) (fun w9 r9 x9 k9 => ?_)
  (repeat' (first | (refine at_EL ?_; first | refine eN ?_) | (refine at_K ?_; first | refine K_then ?_) | (refine at_E ?_; first | refine E_ret ?_)))
  refine ret_c rfl rfl rfl r9.at rfl ⟨x9, _, rfl, ?_⟩
  unfold updF
  rw [← hY]
  exact (hsaw.move (k9.mv fun b hb e => by cases e; exact hb rfl)).any
def zeroD : Dc := ⟨0, [], 0, 0, [], [], []⟩
theorem rbuild_any (e : Dc) (ve : Value) (w : World) (he : DcAt w ve e) (hne : TierIn e) (hle : e.notes.length ≤ 1000) :
    Calls Tryd.prog 22 #[ve] w (Rt fun u w' => Ext w w' ∧ Ix w' u (buildF e.tiers e.notes)) := by
  have he0 := he
  obtain ⟨se, tve, nve, rfl, hse, hte, hnet⟩ := he
  refine calls_E (n := 7) (args := [.agg #[int e.rid, str e.rname, int e.len, int e.day, se, tve, nve]]) Tryd.func22 rfl Tryd.ntmps22 (by simp) ?_
  obtain ⟨aS, cS, rfl, _⟩ := hse.sl
  obtain ⟨aT, cT, rfl, _⟩ := hte.sl
  obtain ⟨aN, cN, rfl, _⟩ := hnet.sl
  refine E_seq ?_
  refine E_region ?_
  refine EL_box rfl rfl rfl rfl (fun bE wE xE hbE rE0 => ?_)
  refine EL_alloc rfl rfl rfl (fun bA wA xA hbA rA0 => ?_)
  have rE : Row wA bE 36 [int e.rid, str e.rname, int e.len, int e.day, .slice aS e.sp.length cS, .slice aT e.tiers.length cT, .slice aN e.notes.length cN] := rE0.ext xA
  have hwA : w.heap.size ≤ bA := by have := xE.size; omega
  have hz : DcAt wA (.agg #[int 0, str [], int 0, int 0, .slice none 0 0, .slice none 0 0, .slice none 0 0]) zeroD := ⟨_, _, _, rfl, SlG.nil, SlG.nil, SlG.nil⟩
  have cU := rupdate_any [] zeroD e (.slice none 0 0) _ _ wA SlG.nil hz (he0.ext (xE.trans xA)) right_nil ⟨by simp, by simp⟩ (fun n hn => by cases hn) hne (by simp [zeroD]) hle
  (repeat' (first | refine eV rfl rfl (val_build (vs := []) [.slice none 0 0] rfl rfl rfl) ?_ | refine eV rfl rfl (val_build (vs := []) [int 0, str [], int 0, int 0, .slice none 0 0, .slice none 0 0, .slice none 0 0] rfl rfl rfl) ?_ | refine eV rfl rfl (val_loadA rfl rfl rfl rE.at rfl) ?_ | (refine EL_call rfl rfl (entersF rfl rfl en37) cU (fun vC wC hC => ?_); obtain ⟨xC, s', rfl, hs'⟩ := hC) | (refine at_EL ?_; first | refine eN ?_) | (refine at_K ?_; first | refine K_then ?_) | (refine at_E ?_; first | refine E_seq ?_ | refine E_region ?_)))
  have hsaw := away_posts (rA0.ext xC) hs'
  obtain ⟨aV, cV, rfl, _⟩ := hs'.sl
  refine EL_storeP (cs := [_]) (rA0.ext xC) (xE.trans (xA.trans xC)) hwA rfl rfl rfl rfl rfl rfl rfl rfl (Nat.le_refl _) (fun w9 r9 x9 k9 => ?_)
  (repeat' (first | (refine at_EL ?_; first | refine eN ?_) | (refine at_K ?_; first | refine K_then ?_) | (refine at_E ?_; first | refine E_ret ?_)))
  refine ret_c rfl rfl rfl r9.at rfl ⟨x9, _, rfl, ?_⟩
  have e2 : updF [] zeroD e = buildF e.tiers e.notes := by rw [build_on]; rfl
  rw [← e2]
  exact (hsaw.move (k9.mv fun b hb e => by cases e; exact hb rfl)).any
end Go.Proofs.YtjpjpgeeeigbkaaDoor
