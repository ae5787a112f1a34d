/-
  Walks of align: the program's Of.
-/
import Derived.Test.YtaajcbhingpfeaaWj
set_option linter.all false
namespace Go.Proofs.Ytaajcbhingpfeaa
open Go.RowKit Go.En
theorem sl_ints {G : Nat → Prop} {w : World} {a : Option Addr} {n cap : Nat} {ids : List Int} (h : SlG G w (.slice a n cap) ids) (h0 : 0 < n) : ∃ b off, a = some ⟨b, off, none⟩ ∧ At w b off (ids.map int) := by
  have hn : n = ids.length := by obtain ⟨a', c', e, _⟩ := h; cases e; rfl
  obtain ⟨css, h1, h2⟩ := h.css
  have hc := ats_ints h1
  subst hc
  rw [ints_flat] at h2
  obtain ⟨b, so, e, _, h3⟩ := h2 (by simp; omega)
  exact ⟨b, so, e, h3⟩
theorem of_root {d : Dc} (h : LightD d) {k : Nat} {t : Tier} (ht : d.tiers[k]? = some t) (h0 : t.kind = 0) : ofR d (k : Int) = kidsN d 0 (k : Int) := by
  rw [← ofN_eq h k (k + 1) t ht (by omega)]
  have hl := tier_lt ht
  simp only [ofN, Int.toNat_natCast]
  rw [if_pos ⟨by omega, by omega⟩, ht]
  dsimp only
  rw [if_pos h0]
theorem of_below {d : Dc} (h : LightD d) {k : Nat} {t : Tier} (ht : d.tiers[k]? = some t) (h0 : t.kind ≠ 0) : ∃ j : Nat, t.parent = (j : Int) ∧ j < k ∧ ofR d (k : Int) = (ofR d (j : Int)).flatMap fun p => kidsN d p.id (k : Int) := by
  have hl := tier_lt ht
  have hr := (h.tiers k t ht).par h0
  obtain ⟨j, hj⟩ : ∃ j : Nat, t.parent = (j : Int) := ⟨t.parent.toNat, by omega⟩
  obtain ⟨u, hu⟩ : ∃ u, d.tiers[j]? = some u := ⟨_, List.getElem?_eq_getElem (by omega)⟩
  refine ⟨j, hj, by omega, ?_⟩
  rw [← ofN_eq h k (k + 1) t ht (by omega)]
  simp only [ofN, Int.toNat_natCast]
  rw [if_pos ⟨by omega, by omega⟩, ht]
  dsimp only
  rw [if_neg h0, hj, ofN_eq h j k u hu (by omega)]
theorem ofR_len {d : Dc} (h : LightD d) (k : Int) : (ofR d k).length ≤ 14 := by
  unfold ofR
  rw [(insSort_perm _).length_eq]
  have h1 : (ofTier d k).length ≤ d.notes.length := List.length_filter_le _ _
  have h2 := h.nnotes
  omega
attribute [local irreducible] E EL K Val Enters Rt Calls bodyPost Code.wp RQ
set_option maxHeartbeats 4000000 in
set_option maxRecDepth 8000 in
theorem of_any {d : Dc} (h : LightD d) (v : Value) : ∀ (m : Nat) (k : Int) (w : World), k.toNat < m → DcAt w v d → Calls Try.prog 45 #[v, int k] w (Rt fun u w' => Ext w w' ∧ Sl w' u ((ofR d k).map (·.id))) := by
  intro m
  induction m with
  | zero => intro k w hk; omega
  | succ m ih =>
  intro k w hkm hv
  have hd0 := hv
  obtain ⟨sv, tv, nv, rfl, _, ht, hn⟩ := hv
  refine calls_E (n := 48) (args := [.agg #[int d.rid, str d.rname, int d.len, int d.day, sv, tv, nv], int k]) Try.func45 rfl Try.ntmps45 (by simp) ?_
  have ht0 := ht
  obtain ⟨a, cap, rfl, hc, hm, hp⟩ := ht.sl
  refine E_seq ?_
  refine E_region ?_
  refine EL_box rfl rfl rfl rfl (fun bB wB xB hbB rB0 => ?_)
  have rB : Row wB bB 28 [int d.rid, str d.rname, int d.len, int d.day, sv, .slice a d.tiers.length cap, nv] := rB0
  clear rB0
  by_cases hk : 0 ≤ k ∧ k < d.tiers.length
  · obtain ⟨i, rfl⟩ : ∃ i : Nat, k = (i : Int) := ⟨k.toNat, by omega⟩
    obtain ⟨b, off, rfl⟩ := hp (by omega)
    obtain ⟨t, htt⟩ : ∃ t, d.tiers[i]? = some t := ⟨_, List.getElem?_eq_getElem (by omega)⟩
    have hat := tier_elem (ht0.ext xB) htt
    by_cases h0 : t.kind = 0
    · rw [of_root h htt h0]
      have ck := kids_any h _ 0 (i : Int) wB (hd0.ext xB)
      (repeat' ((fail_if_success (refine E_seq (x := (Code.block 0 _)) ?_)); first | refine eV rfl rfl (val_load rfl rfl rfl (rB.cellAt rfl)) ?_ | refine eV rfl rfl (val_loadA rfl rfl rfl rB.at rfl) ?_ | refine eV rfl rfl (val_indexAddr (m := i) rfl rfl rfl rfl (by omega)) ?_ | refine eV rfl rfl (val_load rfl rfl rfl (hat.cellAt (j := 1) rfl)) ?_ | (refine EL_call rfl rfl (entersF rfl rfl en42) ck (fun vC wC hC => ?_); obtain ⟨xC, sC⟩ := hC) | (refine at_EL ?_; first | refine eN ?_ | refine eO rfl rfl ?_ | refine eV rfl rfl (zA rfl rfl) ?_ | refine eV rfl rfl (zB rfl rfl) ?_ | (refine at_bin ?_; first | refine eD rfl rfl (zL rfl rfl rfl) (fun hh => ?_) (fun hh => ?_) | refine eD rfl rfl (zM rfl rfl rfl) (fun hh => ?_) (fun hh => ?_) | refine eD rfl rfl (zP rfl rfl rfl) (fun hh => ?_) (fun hh => ?_)) | (refine at_call ?_; first | refine eV rfl rfl (zK rfl rfl) ?_) | refine eV rfl rfl (zC rfl rfl rfl) ?_ | refine eV rfl rfl (zD rfl rfl rfl) ?_ | refine eV rfl rfl (zH rfl rfl) ?_) | (refine at_K ?_; first | refine K_then ?_ | refine K_then_ret ?_) | (refine at_E ?_; first | refine E_seq ?_ | refine E_region ?_ | refine E_cond_t rfl ?_ | refine E_cond_f rfl ?_ | refine E_skip ?_ | refine E_ret ?_)))
      all_goals (first | (exfalso; omega) | skip)
      all_goals exact ret_1 rfl rfl ⟨xB.trans xC, sC⟩
    · obtain ⟨j, hpj, hji, hof⟩ := of_below h htt h0
      have hatp := hat
      (repeat' ((fail_if_success (refine E_seq (x := (Code.region 6 _ _)) ?_)); first | refine eV rfl rfl (val_load rfl rfl rfl (rB.cellAt rfl)) ?_ | refine eV rfl rfl (val_indexAddr (m := i) rfl rfl rfl rfl (by omega)) ?_ | refine eV rfl rfl (val_load rfl rfl rfl (hat.cellAt (j := 1) rfl)) ?_ | (refine at_EL ?_; first | refine eN ?_ | refine eO rfl rfl ?_ | refine eV rfl rfl (zA rfl rfl) ?_ | refine eV rfl rfl (zB rfl rfl) ?_ | (refine at_bin ?_; first | refine eD rfl rfl (zL rfl rfl rfl) (fun hh => ?_) (fun hh => ?_) | refine eD rfl rfl (zM rfl rfl rfl) (fun hh => ?_) (fun hh => ?_) | refine eD rfl rfl (zP rfl rfl rfl) (fun hh => ?_) (fun hh => ?_)) | (refine at_call ?_; first | refine eV rfl rfl (zK rfl rfl) ?_) | refine eV rfl rfl (zC rfl rfl rfl) ?_ | refine eV rfl rfl (zD rfl rfl rfl) ?_ | refine eV rfl rfl (zH rfl rfl) ?_) | (refine at_K ?_; first | refine K_then ?_ | refine K_then_ret ?_) | (refine at_E ?_; first | refine E_seq ?_ | refine E_region ?_ | refine E_cond_t rfl ?_ | refine E_cond_f rfl ?_ | refine E_skip ?_ | refine E_ret ?_)))
      all_goals (first | (exfalso; omega) | skip)
      refine E_seq ?_
      refine E.sub (M := [(1, int i), (2, .pointer (some ⟨bB, 0, none⟩)), (5, .slice none 0 0)]) ⟨rfl, rfl, rfl, trivial⟩ ?_
      obtain ⟨X, hX⟩ : ∃ X, X = ofR d (j : Int) := ⟨_, rfl⟩
      have hXl : X.length ≤ 14 := hX ▸ ofR_len h _
      have hOl := ofR_len h (i : Int)
      obtain ⟨I, hI⟩ : ∃ I : List Int, I = X.map (fun n => n.id) := ⟨_, rfl⟩
      have hIl : I.length = X.length := by rw [hI, List.length_map]
      have cO : ∀ wq, Ext wB wq → Calls Try.prog 45 #[.agg #[int d.rid, str d.rname, int d.len, int d.day, sv, .slice (some ⟨b, off, none⟩) d.tiers.length cap, nv], int t.parent] wq (Rt fun u w' => Sl w' u I ∧ Ext wq w') := fun wq xq => by
        rw [hpj, hI, hX]
        exact calls_mono (ih (j : Int) wq (by omega) (hd0.ext (xB.trans xq))) fun _ _ h => ⟨h.2, h.1⟩
      refine E_dm 10 mixedOk (by kernel_rfl) rfl ?_
      (repeat' (first | refine yV rfl rfl (fun wq _ xq => val_load rfl rfl rfl ((rB.ext xq).cellAt rfl)) ?_ | refine yV rfl rfl (fun wq _ xq => val_loadA rfl rfl rfl (rB.ext xq).at rfl) ?_ | refine yV rfl rfl (fun _ _ _ => val_indexAddr (m := i) rfl rfl rfl rfl (by omega)) ?_ | refine yV rfl rfl (fun wq _ xq => val_load rfl rfl rfl ((hat.ext xq).cellAt (j := 3) rfl)) ?_ | refine RQ_callR (fun u w' => Sl w' u I) (fun _ => #[.agg #[int d.rid, str d.rname, int d.len, int d.day, sv, .slice (some ⟨b, off, none⟩) d.tiers.length cap, nv], int t.parent]) rfl rfl (fun _ _ _ _ xe h => SlG.ext h xe) (fun _ _ _ => entersF rfl rfl en45) (fun wq _ xq _ => cO wq xq) ?_ | refine RQ_valR (fun u _ => u = int I.length) rfl rfl (fun _ _ _ _ _ h => h) (fun wq δ xq hs => ⟨int I.length, by obtain ⟨a3, c3, he, _⟩ := hs 34 rfl _ rfl; exact val_len_sl rfl (show some (δ 34) = some (.slice a3 I.length c3) by rw [he]), rfl⟩) ?_ | refine RQ_end (fun wq δ xq hR => ?_) | (refine at_EL ?_; first | refine eN ?_) | (refine at_K ?_; first | refine K_then ?_) | (refine at_E ?_; first | refine E_block ?_) | (refine at_RQ ?_; first | refine yV rfl rfl (fun _ _ _ => zA rfl rfl) ?_ | refine yV rfl rfl (fun _ _ _ => zH rfl rfl) ?_)))
      obtain hS34 := hR 34 _ rfl
      have e35 : δ 35 = int I.length := hR 35 _ rfl
      obtain ⟨v34, h34⟩ : ∃ v34, v34 = δ 34 := ⟨_, rfl⟩
      rw [← h34] at hS34
      have hS0 := hS34
      obtain ⟨a3, c3, e34, hc3, hm3, hp3⟩ := hS34.sl
      refine E.sub (M := [(1, int i), (2, .pointer (some ⟨bB, 0, none⟩)), (5, .slice none 0 0), (34, .slice a3 I.length c3), (35, int I.length), (36, int 0)]) ⟨rfl, rfl, rfl, show some (δ 34) = _ by rw [← h34, e34], show some (δ 35) = _ by rw [e35], rfl, trivial⟩ ?_
      rw [e34] at hS0
      clear hR e35 h34 e34 hS34 v34 δ
      have rQ := rB.ext xq
      have hdq := hd0.ext (xB.trans xq)
      have hXq := xB.trans xq
      refine E_loop (ι := Nat × Value) (fun x => [(1, int i), (2, .pointer (some ⟨bB, 0, none⟩)), (5, x.2), (34, .slice a3 I.length c3), (35, int I.length), (36, int x.1)])
        (fun x wr => x.1 ≤ X.length ∧ Ext wq wr ∧ wr.ownsRow wq.heap.size 3 1 x.2 ((X.take x.1).flatMap fun p => kidsN d p.id (i : Int)).length ((((X.take x.1).flatMap fun p => kidsN d p.id (i : Int)).map (fun n => n.id)).map int)) (fun x => X.length - x.1) (0, .slice none 0 0)
        ⟨rfl, rfl, rfl, rfl, rfl, rfl, trivial⟩ ⟨Nat.zero_le _, Ext.refl _, World.ownsRow_nil _ _ _ _⟩ ?_
      rintro ⟨m, vO⟩ wr ⟨hm, hx, hown⟩
      dsimp only at hm hx hown ⊢
      have htot : ((X.take m).flatMap fun p => kidsN d p.id (i : Int)).length + ((X.drop m).flatMap fun p => kidsN d p.id (i : Int)).length ≤ 14 := by
        rw [← List.length_append, ← List.flatMap_append, List.take_append_drop, hX, ← hof]; exact hOl
      by_cases hlt : m < X.length
      · obtain ⟨b3, off3, rfl⟩ := hp3 (by omega)
        obtain ⟨q, hq⟩ : ∃ q, X[m]? = some q := ⟨_, List.getElem?_eq_getElem hlt⟩
        have hqI : I[m]? = some q.id := by rw [hI, List.getElem?_map, hq]; rfl
        have hcx := int_elem (hS0.ext hx) hqI
        have rr := rQ.ext hx
        have ck := kids_any h _ q.id (i : Int) wr (hdq.ext hx)
        obtain ⟨KI, hKI⟩ : ∃ KI : List Int, KI = (kidsN d q.id (i : Int)).map (fun n => n.id) := ⟨_, rfl⟩
        rw [← hKI] at ck
        have hKl : KI.length = (kidsN d q.id (i : Int)).length := by rw [hKI, List.length_map]
        have hql : (kidsN d q.id (i : Int)).length ≤ ((X.drop m).flatMap fun p => kidsN d p.id (i : Int)).length := by
          obtain ⟨h1, rfl⟩ := List.getElem?_eq_some_iff.1 hq
          rw [List.drop_eq_getElem_cons h1, List.flatMap_cons, List.length_append]; omega
        (repeat' (first | refine eV rfl rfl (val_indexAddr (m := m) rfl rfl rfl rfl (by omega)) ?_ | refine eV rfl rfl (val_load rfl rfl rfl hcx) ?_ | refine eV rfl rfl (val_loadA rfl rfl rfl rr.at rfl) ?_ | (refine EL_call rfl rfl (entersF rfl rfl en42) ck (fun vC wC hC => ?_); obtain ⟨xC, sC⟩ := hC) | (refine at_EL ?_; first | refine eN ?_ | refine eV rfl rfl (zA rfl rfl) ?_ | refine eV rfl rfl (zB rfl rfl) ?_ | (refine at_bin ?_; first | refine eD rfl rfl (zL rfl rfl rfl) (fun hh => ?_) (fun hh => ?_))) | (refine at_K ?_; first | refine K_then ?_ | refine K_then_exit ?_ | refine K_in_exit ?_) | (refine at_E ?_; first | refine E_seq ?_ | refine E_region ?_ | refine E_cond_t rfl ?_ | refine E_cond_f rfl ?_ | refine E_block ?_ | refine E_skip ?_ | refine E_ret ?_ | refine E_exit ?_)))
        all_goals (first | (exfalso; omega) | skip)
        have sC0 := sC
        obtain ⟨a4, c4, rfl, hc4, hm4, hp4⟩ := sC.sl
        refine EL_appO (news := KI.map int) (own_ext hown xC) (hx.trans xC) (fun h0 => sl_ints sC0 h0) rfl rfl rfl rfl rfl (by simp) (ints_one _) rfl rfl (by omega) (by omega) (fun vJ wJ oJ xJ kJ hJ => ?_)
        (repeat' (first | (refine at_EL ?_; first | refine eN ?_ | refine eV rfl rfl (zA rfl rfl) ?_ | refine eV rfl rfl (zB rfl rfl) ?_ | (refine at_bin ?_; first | refine eV rfl rfl (zU rfl rfl rfl (by omega) (by omega)) ?_)) | (refine at_K ?_; first | refine K_then ?_ | refine K_in ?_) | (refine at_E ?_; first | refine E_region ?_)))
        refine K_rnd (m + 1, vJ) ⟨rfl, rfl, rfl, rfl, rfl, rfl, trivial⟩ ⟨by dsimp only; omega, xJ, ?_⟩ (by dsimp only; omega)
        dsimp only
        obtain ⟨h1, rfl⟩ := List.getElem?_eq_some_iff.1 hq
        rw [List.take_succ_eq_append_getElem h1, List.flatMap_append, List.flatMap_singleton, List.length_append, List.map_append, List.map_append, ← hKI, ← hKl]
        exact oJ
      · obtain rfl : m = X.length := by omega
        rw [List.take_length] at hown
        (repeat' (first | (refine at_EL ?_; first | refine eN ?_ | refine eV rfl rfl (zA rfl rfl) ?_ | refine eV rfl rfl (zB rfl rfl) ?_ | (refine at_bin ?_; first | refine eD rfl rfl (zL rfl rfl rfl) (fun hh => ?_) (fun hh => ?_))) | (refine at_K ?_; first | refine K_then ?_ | refine K_then_exit ?_ | refine K_in_exit ?_) | (refine at_E ?_; first | refine E_seq ?_ | refine E_region ?_ | refine E_cond_t rfl ?_ | refine E_cond_f rfl ?_ | refine E_block ?_ | refine E_skip ?_ | refine E_ret ?_ | refine E_exit ?_)))
        all_goals (first | (exfalso; omega) | skip)
        refine ret_1 rfl rfl ⟨hXq.trans hx, ?_⟩
        rw [hof, ← hX]
        exact own_Sl (css := ((X.flatMap fun p => kidsN d p.id (i : Int)).map (fun n => n.id)).map fun z => [int z]) (by rw [ints_flat]; exact hown) (ints_ats _ _) (by simp) (by rw [List.length_map, hX, ← hof]; omega)
  · rw [of_out h hk]
    (repeat' ((fail_if_success (refine E_seq (x := (Code.region 3 _ _)) ?_)); first | refine eV rfl rfl (val_load rfl rfl rfl (rB.cellAt rfl)) ?_ | (refine at_EL ?_; first | refine eN ?_ | refine eO rfl rfl ?_ | refine eV rfl rfl (zA rfl rfl) ?_ | refine eV rfl rfl (zB rfl rfl) ?_ | (refine at_bin ?_; first | refine eD rfl rfl (zL rfl rfl rfl) (fun hh => ?_) (fun hh => ?_) | refine eD rfl rfl (zP rfl rfl rfl) (fun hh => ?_) (fun hh => ?_)) | (refine at_call ?_; first | refine eV rfl rfl (zK rfl rfl) ?_) | refine eV rfl rfl (zC rfl rfl rfl) ?_ | refine eV rfl rfl (zD rfl rfl rfl) ?_ | refine eV rfl rfl (zH rfl rfl) ?_) | (refine at_K ?_; first | refine K_then ?_ | refine K_then_ret ?_) | (refine at_E ?_; first | refine E_seq ?_ | refine E_region ?_ | refine E_cond_t rfl ?_ | refine E_cond_f rfl ?_ | refine E_skip ?_ | refine E_ret ?_)))
    all_goals (first | (exfalso; omega) | skip)
    all_goals exact ret_1 rfl rfl ⟨xB, SlG.nil⟩
end Go.Proofs.Ytaajcbhingpfeaa
