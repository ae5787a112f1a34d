/-
  Walks of match: the tier of a role, notes, Eval with its closure, Holds.
-/
import Derived.Test.YtnifmbbpfdghmaaGreatDoorNg
import Derived.Test.YtnifmbbpfdghmaaGreatDoorPw
import Derived.Test.YtnifmbbpfdghmaaGreatDoorHy
set_option linter.all false
namespace Go.Proofs.YtnifmbbpfdghmaaGreatDoor
open Go.RowKit Go.En
theorem roleF_none {d : Dc} {role : Int} (h : role = 0 ∨ ∀ (j : Nat) (t : Tier), d.tiers[j]? = some t → t.role ≠ role) : roleF d role = -1 := by
  unfold roleF
  by_cases h0 : role = 0
  · rw [if_pos h0]
  · rw [if_neg h0]
    have hn : d.tiers.findIdx? (fun t => decide (t.role = role)) = none := by
      rw [List.findIdx?_eq_none_iff]
      intro t ht
      obtain ⟨j, hj⟩ := List.getElem?_of_mem ht
      exact decide_eq_false ((h.resolve_left h0) j t hj)
    rw [hn]
theorem roleF_at {d : Dc} {role : Int} {i : Nat} {t : Tier} (h0 : role ≠ 0) (ht : d.tiers[i]? = some t) (hr : t.role = role) (hall : ∀ j, j < i → ∀ t, d.tiers[j]? = some t → t.role ≠ role) : roleF d role = (i : Int) := by
  unfold roleF
  rw [if_neg h0]
  obtain ⟨hi, rfl⟩ := List.getElem?_eq_some_iff.1 ht
  have hn : d.tiers.findIdx? (fun t => decide (t.role = role)) = some i := by
    rw [List.findIdx?_eq_some_iff_getElem]
    refine ⟨hi, decide_eq_true hr, fun j hj => ?_⟩
    have := hall j hj _ (List.getElem?_eq_getElem (by omega))
    simpa using this
  rw [hn]
theorem cur_text {d : Dc} (h : LightD d) (x : Int) : (curN d.notes x).text.length ≤ 200 := by
  unfold curN
  cases hg : getF d.notes x with
  | none => simp [zeroN]
  | some n =>
    obtain ⟨hm, _⟩ := get_some hg
    obtain ⟨i, hi⟩ := List.getElem?_of_mem hm
    exact (h.notes i n hi).text.1
/-- a query as a value-/
def QAt (w : World) (v : Value) (q : Qy) : Prop := ∃ kv, v = .agg #[int q.op, int q.role, str q.text, kv] ∧ Sl w kv q.kids
theorem QAt.ext {w w' : World} {v : Value} {q : Qy} (h : QAt w v q) (x : Ext w w') : QAt w' v q := by
  obtain ⟨kv, e, hs⟩ := h
  exact ⟨kv, e, hs.ext x⟩
theorem RQ_asgS {P : Program} {n : Nat} {ops : List Oper} {Q : Post} {o : Oper} {rest tl : List Oper} {G : List (Nat × Ent)} {w0 : World} {α : Type} [Rep α] {d s : Nat} {g : Nat → Prop} {xs : List α} (hg : ggst ops G o = some true) (hd : odst n o.dst = some d) (ho : o.op = .assign (.tmp s)) (hr : gk G s = some (.r (fun u w' => SlG g w' u xs)))
    (hl : ∀ δ, lk (mat δ G) s = some (δ s)) (k : RQ P n ops w0 Q rest tl ((d, .r (fun u w' => SlG g w' u xs)) :: G)) : RQ P n ops w0 Q (o :: rest) tl G :=
  RQ_valR (fun u w' => SlG g w' u xs) hg hd (fun _ _ _ _ xe h => SlG.ext h xe) (fun w δ _ hs => ⟨δ s, val_assign ho (hl δ), hs s (by rw [ho]; simp [Op.operands, isT]) _ hr⟩) k
attribute [local irreducible] E EL K Val Enters Rt Calls bodyPost Code.wp RQ
set_option maxHeartbeats 4000000 in
set_option maxRecDepth 8000 in
theorem role117_any (d : Dc) (tv : Value) (role : Int) (w : World) (ht : Sl w tv d.tiers) : Calls Tryz.prog 117 #[tv, int role] w (Rt fun u w' => u = int (roleF d role) ∧ Ext w w') := by
  have ht0 := ht
  obtain ⟨a, cap, rfl, hc, hm, hp⟩ := ht.sl
  refine calls_E (n := 24) (args := [.slice a d.tiers.length cap, int role]) Tryz.func117 rfl Tryz.ntmps117 (by simp) ?_
  (repeat' (first | (refine at_EL ?_; first | refine eN ?_ | refine eV rfl rfl (zA rfl rfl) ?_ | refine eV rfl rfl (zB rfl rfl) ?_ | (refine at_call ?_; first | refine eV rfl rfl (zK rfl rfl) ?_)) | (refine at_K ?_; first | refine K_then ?_) | (refine at_E ?_; first | refine E_seq ?_ | refine E_region ?_ | refine E_block ?_)))
  refine E_loop (ι := Nat) (fun i => [(1, int role), (7, .slice a d.tiers.length cap), (8, int d.tiers.length), (9, int i)])
    (fun i wr => i ≤ d.tiers.length ∧ Ext w wr ∧ (role = 0 ∨ ∀ j, j < i → ∀ t, d.tiers[j]? = some t → t.role ≠ role)) (fun i => d.tiers.length - i) 0
    ⟨rfl, rfl, rfl, rfl, trivial⟩ ⟨Nat.zero_le _, Ext.refl _, .inr (fun j hj => absurd hj (by omega))⟩ ?_
  rintro i wr ⟨hi, hx, hall⟩
  by_cases hlt : i < d.tiers.length
  · obtain ⟨b, off, rfl⟩ := hp (by omega)
    obtain ⟨t, hti⟩ : ∃ t, d.tiers[i]? = some t := ⟨_, List.getElem?_eq_getElem hlt⟩
    have hat := tier_elem (ht0.ext hx) hti
    (repeat' (first | refine eV rfl rfl (val_indexAddr (m := i) rfl rfl rfl rfl hlt) ?_ | refine eV rfl rfl (val_loadA rfl rfl rfl hat rfl) ?_ | (refine at_EL ?_; first | refine eN ?_ | refine eV rfl rfl (zA rfl rfl) ?_ | refine eV rfl rfl (zB rfl rfl) ?_ | (refine at_bin ?_; first | refine eD rfl rfl (zL rfl rfl rfl) (fun hh => ?_) (fun hh => ?_))) | (refine at_K ?_; first | refine K_then ?_ | refine K_then_exit ?_ | refine K_in_exit ?_) | (refine at_E ?_; first | refine E_seq ?_ | refine E_region ?_ | refine E_cond_t rfl ?_ | refine E_cond_f rfl ?_ | refine E_block ?_ | refine E_skip ?_ | refine E_ret ?_ | refine E_exit ?_)))
    all_goals (first | (exfalso; omega) | skip)
    refine EL_alloc rfl rfl rfl (fun bT wT xT hbT rT0 => ?_)
    (repeat' (first | (refine at_EL ?_; first | refine eV rfl rfl (zB rfl rfl) ?_)))
    refine EL_storeP (cs := tierC t) rT0 xT (by omega) rfl rfl rfl rfl rfl rfl rfl rfl (Nat.le_refl _) (fun w3 rT1 x3 k3 => ?_)
    have rT : Row w3 bT 70 (tierC t) := rT1
    clear rT0 rT1 k3
    by_cases h0 : role = 0
    · subst h0
      (repeat' (first | (refine at_EL ?_; first | refine eN ?_ | refine eO rfl rfl ?_ | refine eV rfl rfl (zA rfl rfl) ?_ | (refine at_bin ?_; first | refine eD rfl rfl (zQ rfl rfl rfl) (fun hh => ?_) (fun hh => ?_) | refine eV rfl rfl (zU rfl rfl rfl (by omega) (by omega)) ?_) | refine eV rfl rfl (zD rfl rfl rfl) ?_ | refine eV rfl rfl (zH rfl rfl) ?_) | (refine at_K ?_; first | refine K_then ?_ | refine K_in ?_) | (refine at_E ?_; first | refine E_seq ?_ | refine E_region ?_ | refine E_cond_f rfl ?_ | refine E_skip ?_)))
      all_goals (first | (exfalso; omega) | skip)
      exact K_rnd (i + 1) ⟨rfl, rfl, rfl, rfl, trivial⟩ ⟨by omega, hx.trans x3, .inl rfl⟩ (by omega)
    · have hall' := hall.resolve_left h0
      by_cases hr : t.role = role
      · (repeat' (first | refine eV rfl rfl (val_load rfl rfl rfl (rT.cellAt (j := 2) rfl)) ?_ | (refine at_EL ?_; first | refine eN ?_ | refine eO rfl rfl ?_ | refine eV rfl rfl (zA rfl rfl) ?_ | refine eV rfl rfl (zB rfl rfl) ?_ | (refine at_bin ?_; first | refine eD rfl rfl (zM rfl rfl rfl) (fun hh => ?_) (fun hh => ?_) | refine eD rfl rfl (zQ rfl rfl rfl) (fun hh => ?_) (fun hh => ?_) | refine eV rfl rfl (zU rfl rfl rfl (by omega) (by omega)) ?_) | refine eV rfl rfl (zC rfl rfl rfl) ?_ | refine eV rfl rfl (zD rfl rfl rfl) ?_ | refine eV rfl rfl (zH rfl rfl) ?_) | (refine at_K ?_; first | refine K_then ?_ | refine K_in ?_ | refine K_then_ret ?_ | refine K_in_ret ?_) | (refine at_E ?_; first | refine E_seq ?_ | refine E_region ?_ | refine E_cond_t rfl ?_ | refine E_cond_f rfl ?_ | refine E_skip ?_ | refine E_ret ?_)))
        all_goals (first | (exfalso; omega) | skip)
        exact ret_1 rfl rfl ⟨by rw [roleF_at h0 hti hr hall'], hx.trans x3⟩
      · (repeat' (first | refine eV rfl rfl (val_load rfl rfl rfl (rT.cellAt (j := 2) rfl)) ?_ | (refine at_EL ?_; first | refine eN ?_ | refine eO rfl rfl ?_ | refine eV rfl rfl (zA rfl rfl) ?_ | refine eV rfl rfl (zB rfl rfl) ?_ | (refine at_bin ?_; first | refine eD rfl rfl (zM rfl rfl rfl) (fun hh => ?_) (fun hh => ?_) | refine eD rfl rfl (zQ rfl rfl rfl) (fun hh => ?_) (fun hh => ?_) | refine eV rfl rfl (zU rfl rfl rfl (by omega) (by omega)) ?_) | refine eV rfl rfl (zC rfl rfl rfl) ?_ | refine eV rfl rfl (zD rfl rfl rfl) ?_ | refine eV rfl rfl (zH rfl rfl) ?_) | (refine at_K ?_; first | refine K_then ?_ | refine K_in ?_ | refine K_then_ret ?_ | refine K_in_ret ?_) | (refine at_E ?_; first | refine E_seq ?_ | refine E_region ?_ | refine E_cond_t rfl ?_ | refine E_cond_f rfl ?_ | refine E_skip ?_ | refine E_ret ?_)))
        all_goals (first | (exfalso; omega) | skip)
        refine K_rnd (i + 1) ⟨rfl, rfl, rfl, rfl, trivial⟩ ⟨by omega, hx.trans x3, .inr (fun j hj t' ht' => ?_)⟩ (by omega)
        by_cases e : j = i
        · subst e
          rw [hti] at ht'
          cases ht'
          exact hr
        · exact hall' j (by omega) t' ht'
  · obtain rfl : i = d.tiers.length := by omega
    (repeat' (first | (refine at_EL ?_; first | refine eN ?_ | refine eV rfl rfl (zA rfl rfl) ?_ | refine eV rfl rfl (zB rfl rfl) ?_ | (refine at_bin ?_; first | refine eD rfl rfl (zL rfl rfl rfl) (fun hh => ?_) (fun hh => ?_))) | (refine at_K ?_; first | refine K_then ?_ | refine K_then_exit ?_ | refine K_in_exit ?_) | (refine at_E ?_; first | refine E_seq ?_ | refine E_region ?_ | refine E_cond_t rfl ?_ | refine E_cond_f rfl ?_ | refine E_block ?_ | refine E_skip ?_ | refine E_ret ?_ | refine E_exit ?_)))
    all_goals (first | (exfalso; omega) | skip)
    exact ret_1 rfl rfl ⟨by rw [roleF_none (hall.imp id fun h j t ht => h j (List.getElem?_eq_some_iff.1 ht).1 t ht)], hx⟩
set_option maxHeartbeats 4000000 in
set_option maxRecDepth 8000 in
theorem notes80_any {d : Dc} (h : LightD d) (v : Value) (role : Int) (w : World) (hv : DcAt w v d) : Calls Tryz.prog 80 #[v, int role] w (Rt fun u w' => Ext w w' ∧ Sl w' u (roleL d role)) := by
  have hd0 := hv
  obtain ⟨sv, tv, nv, rfl, _, ht, _⟩ := hv
  refine calls_E (n := 11) (args := [.agg #[int d.rid, str d.rname, int d.len, int d.day, sv, tv, nv], int role]) Tryz.func80 rfl Tryz.ntmps80 (by simp) ?_
  refine E_seq ?_
  refine E_region ?_
  refine EL_box rfl rfl rfl rfl (fun bD wD xD hbD rD0 => ?_)
  have rD : Row wD bD 28 [int d.rid, str d.rname, int d.len, int d.day, sv, tv, nv] := rD0
  clear rD0
  (repeat' (first | refine yV rfl rfl (fun wq _ xq => val_loadA rfl rfl rfl (rD.ext xq).at rfl) ?_ | refine yV rfl rfl (fun wq _ xq => val_load rfl rfl rfl ((rD.ext xq).cellAt (j := 5) rfl)) ?_ | refine RQ_call rfl rfl (fun _ _ _ => entersF rfl rfl en117) (fun wq xq => role117_any d tv role wq (ht.ext (xD.trans xq))) ?_ | refine RQ_callR (f := 116) (fun u w' => Sl w' u (roleL d role)) (fun _ => #[.agg #[int d.rid, str d.rname, int d.len, int d.day, sv, tv, nv], int (roleF d role)]) rfl rfl (fun _ _ _ _ xe h => SlG.ext h xe) (fun _ _ _ => entersF rfl rfl en116) (fun wq _ xq _ => calls_mono (of_any h _ ((roleF d role).toNat + 1) (roleF d role) wq (Nat.lt_succ_self _) (hd0.ext (xD.trans xq))) (fun _ _ hh => ⟨hh.2, hh.1⟩)) ?_ | refine RQ_asgS rfl rfl rfl rfl (fun _ => rfl) ?_ | refine RQ_end (fun wq δ xq hR => ?_) | (refine at_EL ?_; first | refine eN ?_ | refine eV rfl rfl (zB rfl rfl) ?_) | (refine at_K ?_; first | refine K_then ?_) | (refine at_E ?_; first | refine E_seq ?_ | refine E_ret ?_ | refine E_dq mixedOk (by kernel_rfl) rfl ?_) | (refine at_RQ ?_; first | refine yV rfl rfl (fun _ _ _ => zA rfl rfl) ?_ | refine yV rfl rfl (fun _ _ _ => zH rfl rfl) ?_)))
  exact ret_1 rfl rfl ⟨xD.trans xq, hR 4 _ rfl⟩
set_option maxHeartbeats 4000000 in
set_option maxRecDepth 8000 in
theorem evalC_any {d : Dc} (h : LightD d) (q : Qy) (kv : Value) (bD bQ : Nat) (x : Int) (w : World) (hD : DBox w bD d) (rQ : Row w bQ 36 [int q.op, int q.role, str q.text, kv]) (hT : Tabs w) :
    Calls Tryz.prog 81 #[int x, .pointer (some ⟨bD, 0, none⟩), .pointer (some ⟨bQ, 0, none⟩)] w (Rt fun u w' => u = .bool (matchF q.text (curN d.notes x).text) ∧ Ext w w') := by
  obtain ⟨sv, tv, nv, rD, dD⟩ := hD
  refine calls_E (n := 18) (args := [int x, .pointer (some ⟨bD, 0, none⟩), .pointer (some ⟨bQ, 0, none⟩)]) Tryz.func81 rfl Tryz.ntmps81 (by simp) ?_
  have cg := tget_any d _ x w dD
  rw [getR_cur] at cg
  have hct := cur_text h x
  obtain ⟨n, hn⟩ : ∃ n, n = curN d.notes x := ⟨_, rfl⟩
  rw [← hn] at cg hct ⊢
  (repeat' (first | refine eV rfl rfl (val_loadA rfl rfl rfl rD.at rfl) ?_ | (refine EL_call rfl rfl (entersF rfl rfl en82) cg (fun vC wC hC => ?_); obtain ⟨rfl, xC⟩ := hC) | (refine at_EL ?_; first | refine eN ?_ | refine eV rfl rfl (zA rfl rfl) ?_ | refine eV rfl rfl (zB rfl rfl) ?_ | refine eV rfl rfl (zF rfl rfl rfl) ?_) | (refine at_K ?_; first | refine K_then ?_) | (refine at_E ?_; first | refine E_seq ?_ | refine E_region ?_)))
  refine EL_alloc rfl rfl rfl (fun bT wT xT hbT rT0 => ?_)
  refine EL_storeP (cs := noteC n) rT0 (xC.trans xT) (by have := xC.size; omega) rfl rfl rfl rfl rfl rfl rfl rfl (Nat.le_refl _) (fun w3 rT1 x3 k3 => ?_)
  have rT : Row w3 bT 74 (noteC n) := rT1
  clear rT0 rT1 k3
  have rQ3 := rQ.ext x3
  have cm := pMatch_any q.text n.text (by omega) w3 (Tabs.ext hT x3)
  (repeat' (first | refine eV rfl rfl (val_load rfl rfl rfl (rT.cellAt (j := 6) rfl)) ?_ | refine eV rfl rfl (val_load rfl rfl rfl (rQ3.cellAt (j := 2) rfl)) ?_ | (refine EL_call rfl rfl (entersF rfl rfl en83) cm (fun vC wE hC => ?_); obtain ⟨rfl, xE⟩ := hC) | (refine at_EL ?_; first | refine eN ?_ | refine eV rfl rfl (zB rfl rfl) ?_ | refine eV rfl rfl (zH rfl rfl) ?_) | (refine at_K ?_; first | refine K_then ?_) | (refine at_E ?_; first | refine E_seq ?_ | refine E_region ?_ | refine E_ret ?_)))
  exact ret_1 rfl rfl ⟨rfl, x3.trans xE⟩
end Go.Proofs.YtnifmbbpfdghmaaGreatDoor
