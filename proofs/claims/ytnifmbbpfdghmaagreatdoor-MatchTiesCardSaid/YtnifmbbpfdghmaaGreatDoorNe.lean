/-
  Walks of match: Has with its closure.
-/
import Derived.Test.YtnifmbbpfdghmaaGreatDoorNd
set_option linter.all false
namespace Go.Proofs.YtnifmbbpfdghmaaGreatDoor
open Go.RowKit Go.En
/-- the numbers of which p says yes, as a set -/
def bF (p : Int → Bool) (j : Int) : Option Value := if p j = true then some (.bool true) else none
theorem bF_get (p : Int → Bool) (x : Int) : (bF p x).getD (.bool false) = .bool (p x) := by
  unfold bF
  cases p x <;> simp
theorem bF_or (p : Int → Bool) (x : Int) : (fun j => if j = x then some (.bool true) else bF p j) = bF (fun j => p j || decide (j = x)) := by
  funext j
  unfold bF
  by_cases e : j = x
  · simp [e]
  · simp [e]
/-- the Chain of a note without the note -/
def restL (d : Dc) (k : Int) : List Int := ((chainF d k).map fun m => m.id).drop 1
theorem map_cell_ne {w : World} {r : Nat} {f : Int → Option Value} (hm : MapF w r f) {b o : Nat} {v : Value} (h : w.cell? ⟨b, o, none⟩ = some v) : b ≠ r := by
  rintro rfl
  obtain ⟨es, clock, hb, _⟩ := hm
  unfold World.cell? at h
  simp [hb] at h
theorem ints_same {w w' : World} {b off n cap : Nat} {l : List Int} (h : Sl w (.slice (some ⟨b, off, none⟩) n cap) l) (e : w'.heap[b]? = w.heap[b]?) : Sl w' (.slice (some ⟨b, off, none⟩) n cap) l := by
  obtain ⟨a', cap', hv, hc, hm, hp⟩ := h
  refine ⟨a', cap', hv, hc, hm, fun h0 => ?_⟩
  obtain ⟨b', off', ha, _, css, h1, h2⟩ := hp h0
  subst ha
  cases hv
  exact ⟨b, off, rfl, trivial, css, by rw [ats_ints h1]; exact ints_ats _ _, h2.same e⟩
attribute [local irreducible] E EL K Val Enters Rt Calls bodyPost Code.wp RQ
set_option maxHeartbeats 4000000 in
set_option maxRecDepth 8000 in
theorem hasC_any (p : Int → Bool) (bA r : Nat) (x : Int) (w : World) (rA : Row w bA 91 [.map (some r)]) (hm : MapF w r (bF p)) :
    Calls Tryz.prog 76 #[int x, .pointer (some ⟨bA, 0, none⟩)] w (Rt fun u w' => u = .bool (p x) ∧ Ext w w') := by
  refine calls_E (n := 7) (args := [int x, .pointer (some ⟨bA, 0, none⟩)]) Tryz.func76 rfl Tryz.ntmps76 (by simp) ?_
  (repeat' (first | refine eV rfl rfl (val_load rfl rfl rfl (rA.cellAt rfl)) ?_ | refine eV (v := .bool (p x)) rfl rfl (by rw [← bF_get p x]; exact val_lookup hm rfl rfl rfl) ?_ | (refine at_EL ?_; first | refine eN ?_ | refine eV rfl rfl (zA rfl rfl) ?_ | refine eV rfl rfl (zB rfl rfl) ?_) | (refine at_K ?_; first | refine K_then ?_) | (refine at_E ?_; first | refine E_seq ?_ | refine E_region ?_ | refine E_ret ?_)))
  exact ret_1 rfl rfl ⟨rfl, Ext.refl _⟩
set_option maxHeartbeats 4000000 in
set_option maxRecDepth 8000 in
theorem has25_any {d : Dc} (h : LightD d) (a b : List Int) (v u1 u2 : Value) (w : World) (hv : DcAt w v d) (ha : Sl w u1 a) (hb : Sl w u2 b) :
    Calls Tryz.prog 25 #[v, u1, u2] w (Rt fun u w' => Ext w w' ∧ SlG (Nw w) w' u (idsOf d (hasP d a b))) := by
  have hd0 := hv
  obtain ⟨sv, tv, nv, rfl, _, _, _⟩ := hv
  refine calls_E (n := 37) (args := [.agg #[int d.rid, str d.rname, int d.len, int d.day, sv, tv, nv], u1, u2]) Tryz.func25 rfl Tryz.ntmps25 (by simp) ?_
  refine E_seq ?_
  refine E_region ?_
  refine EL_box rfl rfl rfl rfl (fun bD wD xD hbD rD0 => ?_)
  have rD : Row wD bD 28 [int d.rid, str d.rname, int d.len, int d.day, sv, tv, nv] := rD0
  clear rD0
  (repeat' (first | refine EL_makeMap rfl rfl rfl (fun r wR hr mR xR => ?_) | (refine at_EL ?_; first | refine eN ?_ | refine eV rfl rfl (zB rfl rfl) ?_) | (refine at_K ?_; first | refine K_then ?_) | (refine at_E ?_; first | refine E_seq ?_ | refine E_region ?_)))
  refine EL_alloc rfl rfl rfl (fun bA wA xA hbA rA0 => ?_)
  refine EL_storeP (cs := [.map (some r)]) rA0 (xR.trans xA) (by have := xR.size; omega) rfl rfl rfl rfl rfl rfl rfl rfl (Nat.le_refl _) (fun w3 rA1 x3 k3 => ?_)
  have rA : Row w3 bA 91 [.map (some r)] := rA1
  have hrA : r ≠ bA := fun e => by have := mR.lt; omega
  have mA : MapF w3 r (bF fun _ => false) := by
    have := (mR.ext xA).kb k3 (fun e => hrA (Option.some.inj e))
    have e : (bF fun _ => false) = fun _ => none := by funext j; unfold bF; simp
    rw [e]; exact this
  have hrD : wD.heap.size ≤ r := by omega
  have hbDlt := rD.lt
  have rD3 := rD.ext x3
  have hrlt := mA.lt
  have hAlt := rA.lt
  clear rA0 rA1 k3 mR
  have X3 := xD.trans x3
  have c1 := mof_any d b _ u2 w3 (hd0.ext X3) (hb.ext X3)
  (repeat' (first | refine eV rfl rfl (val_loadA rfl rfl rfl rD3.at rfl) ?_ | (refine EL_call rfl rfl (entersF rfl rfl en67) c1 (fun vC wC hC => ?_); obtain ⟨r2, rfl, xC, hr2, mC⟩ := hC) | refine EL_range mC rfl rfl rfl rfl (fun it c w4 hit g4 x4 => ?_) | (refine at_EL ?_; first | refine eN ?_ | refine eV rfl rfl (zA rfl rfl) ?_) | (refine at_K ?_; first | refine K_then ?_) | (refine at_E ?_; first | refine E_seq ?_ | refine E_region ?_ | refine E_block ?_)))
  have x34 := xC.trans x4
  have hr2lt := mC.lt
  have hrr2 : r ≠ r2 := by omega
  have hrit : r ≠ it := by have := xC.size; omega
  refine E_loop (ι := (Int → Bool) × (Int → Prop) × Nat) (fun s => [(1, u1), (3, .pointer (some ⟨bD, 0, none⟩)), (7, .pointer (some ⟨bA, 0, none⟩)), (15, .pointer (some ⟨it, 0, none⟩))])
    (fun s wr => Ext wD wr ∧ Row wr bA 91 [.map (some r)] ∧ MapF wr r (bF s.1) ∧ RngF wr r2 it (setF d b) s.2.1 s.2.2 ∧ ∀ j, s.1 j = true ↔ ∃ k, (setF d b k).isSome = true ∧ ¬ s.2.1 k ∧ j ∈ restL d k) (fun s => s.2.2) (fun _ => false, fun j => (setF d b j).isSome = true, c)
    ⟨rfl, rfl, rfl, rfl, trivial⟩ ⟨x3.trans x34, rA.ext x34, mA.ext x34, g4, fun j => ⟨fun e => (by cases e), fun ⟨k, h1, h2, _⟩ => absurd h1 h2⟩⟩ ?_
  rintro ⟨p, left, cc⟩ wr ⟨hx, rAr, mr, gr, hpq⟩
  dsimp only at hx rAr mr gr hpq ⊢
  refine E_seq ?_
  refine E_region ?_
  refine EL_next gr rfl rfl rfl rfl (fun hno => ?_) (fun j vj w5 c5 hlj hfj g5 hc5 k5 hsz hen => ?_)
  · have X := xD.trans hx
    have c2 := mof_any d a _ u1 wr (hd0.ext X) (ha.ext X)
    have rDr := rD.ext hx
    (repeat' (first | refine eV rfl rfl (val_loadA rfl rfl rfl rDr.at rfl) ?_ | (refine EL_call rfl rfl (entersF rfl rfl en67) c2 (fun vC wE hC => ?_); obtain ⟨r3, rfl, xE, _, mE⟩ := hC) | refine eV rfl rfl (val_makeFunc (vs := [.pointer (some ⟨bA, 0, none⟩)]) rfl rfl) ?_ | (refine at_EL ?_; first | refine eN ?_ | refine eV rfl rfl (zA rfl rfl) ?_ | refine eV rfl rfl (zF rfl rfl rfl) ?_) | (refine at_K ?_; first | refine K_then ?_ | refine K_then_exit ?_ | refine K_in_exit ?_) | (refine at_E ?_; first | refine E_seq ?_ | refine E_region ?_ | refine E_cond_f rfl ?_ | refine E_exit ?_)))
    have XE := X.trans xE
    have ck := keep_any h 76 [.pointer (some ⟨bA, 0, none⟩)] en76 p a r3 wE mE (fun x wq xq => hasC_any p bA r x wq ((rAr.ext xE).ext xq) ((mr.ext xE).ext xq))
    have hfin : idsOf d (fun x => decide (x ∈ a) && p x) = idsOf d (hasP d a b) := by
      refine idsOf_congr fun n hn => ?_
      unfold hasP
      rw [has_ids h]
      congr 1
      rw [Bool.eq_iff_iff, hpq, List.any_eq_true]
      constructor
      · rintro ⟨k, hk, _, hj⟩
        obtain ⟨hkb, hks⟩ := setF_some.1 hk
        obtain ⟨m, hm⟩ := Option.isSome_iff_exists.1 hks
        obtain ⟨hmn, rfl⟩ := get_some hm
        refine ⟨m, hmn, ?_⟩
        rw [← chain_rest h hmn, Bool.and_eq_true]
        exact ⟨decide_eq_true hkb, decide_eq_true hj⟩
      · rintro ⟨m, hm, hh⟩
        rw [Bool.and_eq_true, decide_eq_true_eq, decide_eq_true_eq, ← chain_rest h hm] at hh
        exact ⟨m.id, setF_some.2 ⟨hh.1, by rw [get_mem (ids_rise h) hm]; rfl⟩, hno _, hh.2⟩
    rw [hfin] at ck
    (repeat' (first | (refine EL_call rfl rfl (entersF rfl rfl en68) ck (fun vC wF hC => ?_); obtain ⟨xF, sF⟩ := hC) | (refine at_EL ?_; first | refine eN ?_ | refine eV rfl rfl (zB rfl rfl) ?_) | (refine at_K ?_; first | refine K_then ?_) | (refine at_E ?_; first | refine E_ret ?_)))
    exact ret_1 rfl rfl ⟨XE.trans xF, sF.wk (fun b hb => by have := XE.size; unfold Nw at *; omega)⟩
  · have hx5 : Ext wD w5 := k5.ext hx (fun b e => by cases e; have := (x3.trans xC).size; omega)
    have hjs := setF_some.1 (show (setF d b j).isSome = true by rw [hfj]; rfl)
    obtain ⟨m, hm⟩ := Option.isSome_iff_exists.1 hjs.2
    obtain ⟨hmn, rfl⟩ := get_some hm
    have X5 := xD.trans hx5
    have rD5 := rD.ext hx5
    have hAit : bA ≠ it := by have := xC.size; omega
    have rA5 : Row w5 bA 91 [.map (some r)] := k5.row rAr (fun e => hAit (Option.some.inj e))
    have m5 : MapF w5 r (bF p) := mr.kb k5 (fun e => hrit (Option.some.inj e))
    have cch := chain_any h _ m.id w5 (hd0.ext X5)
    obtain ⟨CL, hCL⟩ : ∃ CL, CL = (chainF d m.id).map (fun n => n.id) := ⟨_, rfl⟩
    rw [show (chainF d m.id).map (·.id) = CL from hCL.symm] at cch
    have hCl1 : 1 ≤ CL.length := by rw [hCL, chain_cons h hmn]; simp
    have hCl2 : CL.length ≤ 1000000 := by
      rw [hCL, List.length_map]
      have h1 := chain_len d.notes (d.tiers.length + 1) m.id
      have h2 := h.ntiers
      unfold chainF
      omega
    (repeat' (first | refine eV rfl rfl (val_entry hen rfl rfl) ?_ | refine eV rfl rfl (val_loadA rfl rfl rfl rD5.at rfl) ?_ | (refine EL_call rfl rfl (entersF rfl rfl en75) cch (fun vL wL hC => ?_); obtain ⟨xL, sL⟩ := hC; obtain ⟨la, lc, rfl, hlc, _, _⟩ := sL.sl) | refine eV rfl rfl (val_slice_l (b := 1) rfl rfl rfl rfl hCl1) ?_ | (refine at_EL ?_; first | refine eN ?_ | refine eV rfl rfl (zA rfl rfl) ?_ | refine eV rfl rfl (zB rfl rfl) ?_ | (refine at_call ?_; first | refine eV rfl rfl (zK rfl rfl) ?_) | refine eV rfl rfl (zF rfl rfl rfl) ?_) | (refine at_K ?_; first | refine K_then ?_) | (refine at_E ?_; first | refine E_seq ?_ | refine E_region ?_ | refine E_cond_t rfl ?_ | refine E_block ?_ | refine E_skip ?_)))
    have sR := sL.drop hCl1
    obtain ⟨RL, hRL⟩ : ∃ RL, RL = CL.drop 1 := ⟨_, rfl⟩
    rw [← hRL] at sR
    have hRlen : CL.length - 1 = RL.length := by rw [hRL, List.length_drop]
    have hRR : RL = restL d m.id := by rw [hRL, hCL]; rfl
    have rA6 := rA5.ext xL
    have m6 := m5.ext xL
    have g6 := g5.ext xL
    obtain ⟨X, hX⟩ : ∃ X, X = (if lc = 1 then la else Option.map (fun x => x.add (1 * 1)) la) := ⟨_, rfl⟩
    have sR0 : SlG Tt wL (.slice X (CL.length - 1) (lc - 1)) RL := by rw [hX]; exact sR
    clear sR
    try rw [← hX]
    rw [hRlen] at sR0 ⊢
    obtain ⟨_, _, hXe, hlc2, _, hXp⟩ := sR0.sl
    cases hXe
    refine E_loop (ι := Nat) (fun i => [(1, u1), (3, .pointer (some ⟨bD, 0, none⟩)), (7, .pointer (some ⟨bA, 0, none⟩)), (15, .pointer (some ⟨it, 0, none⟩)), (23, .slice X RL.length (lc - 1)), (24, int RL.length), (25, int i)])
      (fun i ww => i ≤ RL.length ∧ Ext wD ww ∧ SlG Tt ww (.slice X RL.length (lc - 1)) RL ∧ Row ww bA 91 [.map (some r)] ∧ MapF ww r (bF fun j => p j || decide (j ∈ RL.take i)) ∧ RngF ww r2 it (setF d b) (fun i => left i ∧ i ≠ m.id) c5) (fun i => RL.length - i) 0
      ⟨rfl, rfl, rfl, rfl, rfl, rfl, rfl, trivial⟩ ⟨Nat.zero_le _, hx5.trans xL, sR0, rA6, by simpa using m6, g6⟩ ?_
    rintro i ww ⟨hi, hxw, sRw, rAw, mw, gw⟩
    by_cases hlt : i < RL.length
    · obtain ⟨bb, off, rfl⟩ := hXp (by omega)
      obtain ⟨x, hx1⟩ : ∃ x, RL[i]? = some x := ⟨_, List.getElem?_eq_getElem hlt⟩
      have hcx := int_elem sRw hx1
      have hgb := sRw.old
      (repeat' (first | refine eV rfl rfl (val_indexAddr (m := i) rfl rfl rfl rfl hlt) ?_ | refine eV rfl rfl (val_load rfl rfl rfl hcx) ?_ | refine eV rfl rfl (val_load rfl rfl rfl (rAw.cellAt rfl)) ?_ | refine EL_mapUpdate mw rfl rfl rfl rfl rfl rfl (fun wU mU kU => ?_) | (refine at_EL ?_; first | refine eN ?_ | refine eV rfl rfl (zA rfl rfl) ?_ | refine eV rfl rfl (zB rfl rfl) ?_ | (refine at_bin ?_; first | refine eD rfl rfl (zL rfl rfl rfl) (fun hh => ?_) (fun hh => ?_) | refine eV rfl rfl (zU rfl rfl rfl (by omega) (by omega)) ?_)) | (refine at_K ?_; first | refine K_then ?_ | refine K_in ?_ | refine K_then_exit ?_ | refine K_in_exit ?_) | (refine at_E ?_; first | refine E_seq ?_ | refine E_region ?_ | refine E_cond_t rfl ?_ | refine E_cond_f rfl ?_ | refine E_block ?_ | refine E_skip ?_ | refine E_exit ?_)))
      all_goals (first | (exfalso; omega) | skip)
      have hmb : bb ≠ r := map_cell_ne mw hcx
      refine K_rnd (i + 1) ⟨rfl, rfl, rfl, rfl, rfl, rfl, rfl, trivial⟩ ⟨by omega, kU.ext hxw (fun b e => by cases e; exact hrD), ?_, kU.row rAw (fun e => hrA (Option.some.inj e).symm), ?_, gw.kb kU (fun e => hrr2 (Option.some.inj e).symm) (fun e => hrit (Option.some.inj e).symm)⟩ (by omega)
      · exact ints_same sRw (World.grownBy.block kU bb (World.block_lt_of_cell? _ _ hcx) (fun e => hmb (Option.some.inj e)))
      · rw [bF_or] at mU
        have : (fun j => (p j || decide (j ∈ RL.take i)) || decide (j = x)) = fun j => p j || decide (j ∈ RL.take (i + 1)) := by
          funext j
          rw [Bool.or_assoc]
          congr 1
          rw [Bool.eq_iff_iff, Bool.or_eq_true, decide_eq_true_eq, decide_eq_true_eq, decide_eq_true_eq]
          exact (mem_take_succ hx1 j).symm
        rw [this] at mU
        exact mU
    · obtain rfl : i = RL.length := by omega
      rw [List.take_length] at mw
      (repeat' (first | (refine at_EL ?_; first | refine eN ?_ | (refine at_bin ?_; first | refine eD rfl rfl (zL rfl rfl rfl) (fun hh => ?_) (fun hh => ?_))) | (refine at_K ?_; first | refine K_then ?_ | refine K_in ?_ | refine K_then_exit ?_ | refine K_in_exit ?_) | (refine at_E ?_; first | refine E_seq ?_ | refine E_region ?_ | refine E_cond_t rfl ?_ | refine E_cond_f rfl ?_ | refine E_block ?_ | refine E_skip ?_ | refine E_exit ?_)))
      all_goals (first | (exfalso; omega) | skip)
      refine K_rnd (fun j => p j || decide (j ∈ RL), _, c5) ⟨rfl, rfl, rfl, rfl, trivial⟩ ⟨hxw, rAw, mw, gw, fun j => ?_⟩ hc5
      dsimp only
      rw [Bool.or_eq_true, decide_eq_true_eq, hpq, hRR]
      constructor
      · rintro (⟨k, h1, h2, h3⟩ | hj)
        · exact ⟨k, h1, fun hk => h2 hk.1, h3⟩
        · exact ⟨m.id, by rw [hfj]; rfl, fun hk => hk.2 rfl, hj⟩
      · rintro ⟨k, h1, h2, h3⟩
        by_cases e : k = m.id
        · exact .inr (e ▸ h3)
        · exact .inl ⟨k, h1, fun hk => h2 ⟨hk, e⟩, h3⟩
end Go.Proofs.YtnifmbbpfdghmaaGreatDoor
