/-
  Walks of align: SortStableFunc of few notes, Kids.
-/
import Derived.Test.YtaajcbhingpfeaaWi
set_option linter.all false
namespace Go.Proofs.Ytaajcbhingpfeaa
open Go.RowKit Go.En
theorem own_open {w : World} {B : Nat} {e : TypeId} {size n : Nat} {v : Value} {xs : List Value} (h : w.ownsRow B e size v n xs) (h0 : 0 < n) : ∃ g cap tail, v = .slice (some ⟨g, 0, none⟩) n cap ∧ n ≤ cap ∧ cap ≤ maxLen ∧ B ≤ g ∧ Row w g e (xs ++ tail) ∧ (xs ++ tail).length = cap * size := by
  rcases h.2 with ⟨_, hn⟩ | ⟨g, cap, cur, rfl, hb, hg, h1, h2, h3, h4⟩
  · omega
  · refine ⟨g, cap, cur.toList.drop (n * size), rfl, h1, h2, hb, ?_, ?_⟩
    · rw [← h4, List.take_append_drop]; exact hg
    · rw [← h4, List.take_append_drop]; simpa using h3
theorem own_shut {w : World} {B g cap : Nat} {e : TypeId} {size n : Nat} {xs tail : List Value} (h1 : n ≤ cap) (h2 : cap ≤ maxLen) (h3 : B ≤ g) (hr : Row w g e (xs ++ tail)) (hl : xs.length = n * size) (hc : (xs ++ tail).length = cap * size) : w.ownsRow B e size (.slice (some ⟨g, 0, none⟩) n cap) n xs :=
  ⟨hl, .inr ⟨g, cap, (xs ++ tail).toArray, rfl, h3, hr, h1, h2, by simpa using hc, by rw [← hl]; simp⟩⟩
attribute [local irreducible] E EL K Val Enters Rt Calls bodyPost Code.wp RQ
theorem ins_zero (a : Option Addr) (cap : Nat) (w : World) : Calls Try.prog 86 #[.slice a 0 cap, int 0, int 0, .func (.func 58) #[] #[] ] w (Rt fun _ w' => w' = w) := by
  refine calls_E (n := 53) (args := [.slice a 0 cap, int 0, int 0, .func (.func 58) #[] #[] ]) Try.func86 rfl Try.ntmps86 (by simp) ?_
  (repeat' (first | (refine at_EL ?_; first | refine eN ?_ | refine eV rfl rfl (zA rfl rfl) ?_ | refine eV rfl rfl (zB rfl rfl) ?_ | (refine at_bin ?_; first | refine eV rfl rfl (zU rfl rfl rfl (by omega) (by omega)) ?_)) | (refine at_K ?_; first | refine K_then ?_) | (refine at_E ?_; first | refine E_seq ?_ | refine E_region ?_ | refine E_block ?_)))
  refine E_loop (ι := Unit) (fun _ => [(2, int 0), (8, int 1)]) (fun _ wr => wr = w) (fun _ => 0) () ⟨rfl, rfl, trivial⟩ rfl ?_
  rintro _ wr rfl
  (repeat' ((fail_if_success (refine E_seq (x := (Code.block 1 _)) ?_)); first | (refine at_EL ?_; first | refine eN ?_ | refine eV rfl rfl (zA rfl rfl) ?_ | (refine at_bin ?_; first | refine eD rfl rfl (zL rfl rfl rfl) (fun hh => ?_) (fun hh => ?_))) | (refine at_K ?_; first | refine K_then ?_ | refine K_then_exit ?_ | refine K_in_exit ?_) | (refine at_E ?_; first | refine E_seq ?_ | refine E_region ?_ | refine E_cond_t rfl ?_ | refine E_cond_f rfl ?_ | refine E_skip ?_ | refine E_exit ?_)))
  all_goals (first | (exfalso; omega) | skip)
  exact ret_n (ret_0 rfl rfl)
theorem ins_any (xs : List Note) (v : Value) (B : Nat) (w : World) (hlen : xs.length ≤ 19) (h : w.ownsRow B 48 7 v xs.length (xs.map noteC).flatten) : Calls Try.prog 86 #[v, int 0, int xs.length, .func (.func 58) #[] #[] ] w (Rt fun _ w' => w'.ownsRow B 48 7 v xs.length ((insSort ordB xs).map noteC).flatten ∧ Kb v.ownBlock w w') := by
  by_cases h0 : 0 < xs.length
  · obtain ⟨g, cap, tail, rfl, h1, h2, h3, hr, hc⟩ := own_open h h0
    have hp : (insSort ordB xs).length = xs.length := (insSort_perm xs).length_eq
    refine calls_mono (ins_row xs tail g cap w h0 (by omega) hr) fun _ w' hh => ⟨own_shut h1 h2 h3 hh.1 (by rw [notes_flat, hp]) ?_, hh.2⟩
    rw [← hc, List.length_append, List.length_append, notes_flat, notes_flat, hp]
  · obtain rfl : xs = [] := List.length_eq_zero_iff.1 (by omega)
    obtain ⟨a, cap, rfl⟩ : ∃ a cap, v = .slice a 0 cap := by
      rcases h.2 with ⟨rfl, _⟩ | ⟨g, cap, cur, rfl, _⟩
      · exact ⟨none, 0, rfl⟩
      · exact ⟨_, cap, rfl⟩
    refine calls_mono (ins_zero a cap w) fun _ w' hh => ?_
    subst hh
    exact ⟨h, Kb.refl _ _⟩
theorem stable_any (xs : List Note) (v : Value) (B : Nat) (w : World) (hlen : xs.length ≤ 19) (h : w.ownsRow B 48 7 v xs.length (xs.map noteC).flatten) : Calls Try.prog 73 #[v, int xs.length, .func (.func 58) #[] #[] ] w (Rt fun _ w' => w'.ownsRow B 48 7 v xs.length ((insSort ordB xs).map noteC).flatten ∧ Kb v.ownBlock w w') := by
  refine calls_E (n := 63) (args := [v, int xs.length, .func (.func 58) #[] #[] ]) Try.func73 rfl Try.ntmps73 (by simp) ?_
  (repeat' (first | (refine at_EL ?_; first | refine eN ?_ | refine eV rfl rfl (zA rfl rfl) ?_ | refine eV rfl rfl (zB rfl rfl) ?_) | (refine at_K ?_; first | refine K_then ?_) | (refine at_E ?_; first | refine E_seq ?_ | refine E_region ?_ | refine E_block ?_)))
  refine E_loop (ι := Unit) (fun _ => [(0, v), (1, int xs.length), (2, .func (.func 58) #[] #[]), (6, int 20), (7, int 0), (8, int 20)]) (fun _ wr => wr = w) (fun _ => 0) () ⟨rfl, rfl, rfl, rfl, rfl, rfl, trivial⟩ rfl ?_
  rintro _ wr rfl
  have ci := ins_any xs v B wr hlen h
  (repeat' ((fail_if_success (refine E_seq (x := (Code.block 1 _)) ?_)); first | (refine EL_call rfl rfl (entersF rfl rfl en86) ci (fun vC wC hC => ?_); obtain ⟨hO, kC⟩ := hC) | (refine at_EL ?_; first | refine eN ?_ | refine eV rfl rfl (zA rfl rfl) ?_ | (refine at_bin ?_; first | refine eD rfl rfl (zN rfl rfl rfl) (fun hh => ?_) (fun hh => ?_))) | (refine at_K ?_; first | refine K_then ?_ | refine K_then_exit ?_ | refine K_in_exit ?_) | (refine at_E ?_; first | refine E_seq ?_ | refine E_region ?_ | refine E_cond_t rfl ?_ | refine E_cond_f rfl ?_ | refine E_block ?_ | refine E_skip ?_ | refine E_exit ?_)))
  all_goals (first | (exfalso; omega) | skip)
  refine E_loop (ι := Unit) (fun _ => [(1, int xs.length), (6, int 20)]) (fun _ wr => wr = wC) (fun _ => 0) () ⟨rfl, rfl, trivial⟩ rfl ?_
  rintro _ w2 rfl
  (repeat' ((fail_if_success (refine E_seq (x := (Code.block 3 _)) ?_)); first | (refine at_EL ?_; first | refine eN ?_ | refine eV rfl rfl (zA rfl rfl) ?_ | refine eV rfl rfl (zB rfl rfl) ?_ | (refine at_bin ?_; first | refine eD rfl rfl (zL rfl rfl rfl) (fun hh => ?_) (fun hh => ?_) | refine eV rfl rfl (zW rfl rfl rfl (by omega) (by omega)) ?_)) | (refine at_K ?_; first | refine K_then ?_ | refine K_then_exit ?_ | refine K_in_exit ?_) | (refine at_E ?_; first | refine E_seq ?_ | refine E_region ?_ | refine E_cond_t rfl ?_ | refine E_cond_f rfl ?_ | refine E_block ?_ | refine E_skip ?_ | refine E_exit ?_)))
  all_goals (first | (exfalso; omega) | skip)
  exact ret_n (ret_0 rfl ⟨hO, kC⟩)
theorem sortN_any (xs : List Note) (v : Value) (B : Nat) (w : World) (hlen : xs.length ≤ 19) (h : w.ownsRow B 48 7 v xs.length (xs.map noteC).flatten) : Calls Try.prog 57 #[v, .func (.func 58) #[] #[] ] w (Rt fun _ w' => w'.ownsRow B 48 7 v xs.length ((insSort ordB xs).map noteC).flatten ∧ Kb v.ownBlock w w') := by
  refine calls_E (n := 9) (args := [v, .func (.func 58) #[] #[] ]) Try.func57 rfl Try.ntmps57 (by simp) ?_
  have ci := stable_any xs v B w hlen h
  obtain ⟨a, cap, rfl⟩ : ∃ a cap, v = .slice a xs.length cap := by
    rcases h.2 with ⟨rfl, h0⟩ | ⟨g, cap, cur, rfl, _⟩
    · exact ⟨none, 0, by rw [h0]⟩
    · exact ⟨_, cap, rfl⟩
  (repeat' (first | (refine EL_call rfl rfl (entersF rfl rfl en73) ci (fun vC wC hC => ?_); obtain ⟨hO, kC⟩ := hC) | (refine at_EL ?_; first | refine eN ?_ | refine eV rfl rfl (zA rfl rfl) ?_ | (refine at_call ?_; first | refine eV rfl rfl (zK rfl rfl) ?_)) | (refine at_E ?_; first | refine E_region ?_)))
  exact ret_n (ret_0 rfl ⟨hO, kC⟩)
def accN (d : Dc) (id k : Int) (l : List Note) : List Note := if 0 ≤ k ∧ k < d.tiers.length then sibs l k id else []
theorem kids_acc (d : Dc) (id k : Int) : kidsN d id k = insSort ordB (accN d id k d.notes) := by
  unfold kidsN accN
  split <;> rfl
theorem acc_len (d : Dc) (id k : Int) (l : List Note) : (accN d id k l).length ≤ l.length := by
  unfold accN
  split
  · exact sibs_len _ _ _
  · simp
theorem acc_take {d : Dc} {id k : Int} {i : Nat} {x : Note} (h : d.notes[i]? = some x) : accN d id k (d.notes.take (i + 1)) = accN d id k (d.notes.take i) ++ (if x.tier = k ∧ x.parent = id ∧ 0 ≤ k ∧ k < d.tiers.length then [x] else []) := by
  unfold accN
  by_cases hk : 0 ≤ k ∧ k < d.tiers.length
  · rw [if_pos hk, if_pos hk, sibs_take h]
    congr 1
    by_cases h1 : x.tier = k ∧ x.parent = id
    · rw [if_pos h1, if_pos ⟨h1.1, h1.2, hk⟩]
    · rw [if_neg h1, if_neg (fun e => h1 ⟨e.1, e.2.1⟩)]
  · rw [if_neg hk, if_neg hk, if_neg (fun e => hk e.2.2)]; rfl
set_option maxHeartbeats 4000000 in
set_option maxRecDepth 8000 in
theorem kids_any {d : Dc} (h : LightD d) (v : Value) (id k : Int) (w : World) (hv : DcAt w v d) : Calls Try.prog 42 #[v, int id, int k] w (Rt fun u w' => Ext w w' ∧ Sl w' u ((kidsN d id k).map (·.id))) := by
  have hnl := h.nnotes
  obtain ⟨sv, tv, nv, rfl, _, ht, hn⟩ := hv
  refine calls_E (n := 61) (args := [.agg #[int d.rid, str d.rname, int d.len, int d.day, sv, tv, nv], int id, int k]) Try.func42 rfl Try.ntmps42 (by simp) ?_
  have hn0 := hn
  obtain ⟨a, cap, rfl, hc, hm, hp⟩ := hn.sl
  obtain ⟨ta, tcap, rfl, thc, thm, thp⟩ := ht.sl
  refine E_seq ?_
  refine E_region ?_
  refine EL_box rfl rfl rfl rfl (fun bB wB xB hbB rB0 => ?_)
  have rB : Row wB bB 28 [int d.rid, str d.rname, int d.len, int d.day, sv, .slice ta d.tiers.length tcap, .slice a d.notes.length cap] := rB0
  clear rB0
  (repeat' (first | refine eV rfl rfl (val_load rfl rfl rfl (rB.cellAt rfl)) ?_ | (refine at_EL ?_; first | refine eN ?_ | refine eV rfl rfl (zA rfl rfl) ?_ | refine eV rfl rfl (zB rfl rfl) ?_ | (refine at_call ?_; first | refine eV rfl rfl (zK rfl rfl) ?_) | refine eV rfl rfl (zH rfl rfl) ?_) | (refine at_K ?_; first | refine K_then ?_) | (refine at_E ?_; first | refine E_seq ?_ | refine E_region ?_ | refine E_block ?_)))
  refine E_loop (ι := Nat × Value) (fun x => [(1, int id), (2, int k), (3, .pointer (some ⟨bB, 0, none⟩)), (7, x.2), (14, .slice a d.notes.length cap), (15, int d.notes.length), (16, int x.1)])
    (fun x wr => x.1 ≤ d.notes.length ∧ Ext wB wr ∧ wr.ownsRow wB.heap.size 48 7 x.2 (accN d id k (d.notes.take x.1)).length ((accN d id k (d.notes.take x.1)).map noteC).flatten) (fun x => d.notes.length - x.1) (0, .slice none 0 0)
    ⟨rfl, rfl, rfl, rfl, rfl, rfl, rfl, trivial⟩ ⟨Nat.zero_le _, Ext.refl _, by
      have : accN d id k (d.notes.take 0) = [] := by unfold accN; split <;> rfl
      dsimp only
      rw [this]
      exact World.ownsRow_nil _ _ _ _⟩ ?_
  rintro ⟨i, vO⟩ wr ⟨hi, hx, hown⟩
  dsimp only at hi hx hown ⊢
  have rBr := rB.ext hx
  have hol := acc_len d id k (d.notes.take i)
  rw [List.length_take] at hol
  by_cases hlt : i < d.notes.length
  · obtain ⟨b, off, rfl⟩ := hp (by omega)
    obtain ⟨q, hq⟩ : ∃ q, d.notes[i]? = some q := ⟨_, List.getElem?_eq_getElem hlt⟩
    have hat := note_elem (hn0.ext (xB.trans hx)) hq
    have htk := acc_take (id := id) (k := k) hq
    (repeat' (first | refine eV rfl rfl (val_indexAddr (m := i) rfl rfl rfl rfl (by omega)) ?_ | refine eV rfl rfl (val_loadA rfl rfl rfl hat rfl) ?_ | (refine at_EL ?_; first | refine eN ?_ | refine eV rfl rfl (zA rfl rfl) ?_ | (refine at_bin ?_; first | refine eD rfl rfl (zL rfl rfl rfl) (fun hh => ?_) (fun hh => ?_))) | (refine at_K ?_; first | refine K_then ?_ | refine K_then_exit ?_ | refine K_in_exit ?_) | (refine at_E ?_; first | refine E_seq ?_ | refine E_region ?_ | refine E_cond_t rfl ?_ | refine E_cond_f rfl ?_ | refine E_block ?_ | refine E_skip ?_ | refine E_exit ?_)))
    all_goals (first | (exfalso; omega) | skip)
    refine EL_alloc rfl rfl rfl (fun b7 w7 x7 hb7 r7 => ?_)
    refine EL_storeP (cs := noteC q) r7 x7 (by omega) rfl rfl rfl rfl rfl rfl rfl rfl (Nat.le_refl _) (fun w8 r8' x8 k8 => ?_)
    have r8 : Row w8 b7 48 (noteC q) := r8'
    clear r8' r7 k8
    have rB8 := rBr.ext x8
    have hown8 := own_ext hown x8
    have hx8 := hx.trans x8
    (repeat' (first | refine eV rfl rfl (val_load rfl rfl rfl (r8.cellAt rfl)) ?_ | refine eV rfl rfl (val_load rfl rfl rfl (rB8.cellAt rfl)) ?_ | refine eV rfl rfl (val_loadA rfl rfl rfl r8.at rfl) ?_ | (refine EL_appO (news := noteC q) (own_ext hown8 xS) (hx8.trans xS) (fun _ => ⟨_, _, rfl, rS.at⟩) rfl rfl rfl rfl rfl rfl rfl rfl rfl (by omega) (by omega) (fun vJ wJ oJ xJ kJ hJ => ?_)) | (refine at_EL ?_; first | refine eN ?_ | refine eO rfl rfl ?_ | refine eV rfl rfl (zA rfl rfl) ?_ | refine eV rfl rfl (zB rfl rfl) ?_ | (refine at_bin ?_; first | refine eD rfl rfl (zL rfl rfl rfl) (fun hh => ?_) (fun hh => ?_) | refine eD rfl rfl (zM rfl rfl rfl) (fun hh => ?_) (fun hh => ?_) | refine eD rfl rfl (zP rfl rfl rfl) (fun hh => ?_) (fun hh => ?_) | refine eV rfl rfl (zU rfl rfl rfl (by omega) (by omega)) ?_) | (refine at_call ?_; first | refine eV rfl rfl (zK rfl rfl) ?_) | refine eV rfl rfl (zC rfl rfl rfl) ?_ | refine eV rfl rfl (zD rfl rfl rfl) ?_ | refine eV rfl rfl (zH rfl rfl) ?_ | refine eL rfl rfl rfl rfl rfl rfl rfl rfl (fun bS wS xS hbS rS => ?_)) | (refine at_K ?_; first | refine K_then ?_ | refine K_in ?_) | (refine at_E ?_; first | refine E_seq ?_ | refine E_region ?_ | refine E_cond_t rfl ?_ | refine E_cond_f rfl ?_ | refine E_skip ?_)))
    all_goals (first | (exfalso; omega) | skip)
    · rw [if_pos ⟨by assumption, by assumption, by assumption, by assumption⟩] at htk
      refine K_rnd (i + 1, vJ) ⟨rfl, rfl, rfl, rfl, rfl, rfl, rfl, trivial⟩ ⟨by dsimp only; omega, xJ, ?_⟩ (by dsimp only; omega)
      dsimp only
      rw [htk]
      simpa using oJ
    all_goals
      rw [if_neg (by rintro ⟨h1, h2, h3, h4⟩; first | exact absurd h1 ‹_› | exact absurd h2 ‹_› | exact absurd h3 ‹_› | exact absurd h4 ‹_›), List.append_nil] at htk
      refine K_rnd (i + 1, vO) ⟨rfl, rfl, rfl, rfl, rfl, rfl, rfl, trivial⟩ ⟨by dsimp only; omega, hx8, ?_⟩ (by dsimp only; omega)
      dsimp only
      rw [htk]
      exact hown8
  · rw [List.take_of_length_le (by omega)] at hown
    have hal := acc_len d id k d.notes
    have cS := sortN_any (accN d id k d.notes) vO wB.heap.size wr (by omega) hown
    rw [← kids_acc] at cS
    have hkl : (kidsN d id k).length = (accN d id k d.notes).length := by rw [kids_acc]; exact (insSort_perm _).length_eq
    rw [← hkl] at cS
    (repeat' (first | (refine EL_call rfl rfl (entersF rfl rfl en57) cS (fun vC wC hC => ?_); obtain ⟨hO, kC⟩ := hC) | (refine at_EL ?_; first | refine eN ?_ | refine eV rfl rfl (zA rfl rfl) ?_ | refine eV rfl rfl (zB rfl rfl) ?_ | (refine at_bin ?_; first | refine eD rfl rfl (zL rfl rfl rfl) (fun hh => ?_) (fun hh => ?_))) | (refine at_K ?_; first | refine K_then ?_ | refine K_then_exit ?_ | refine K_in_exit ?_) | (refine at_E ?_; first | refine E_seq ?_ | refine E_region ?_ | refine E_cond_t rfl ?_ | refine E_cond_f rfl ?_ | refine E_block ?_ | refine E_skip ?_ | refine E_exit ?_)))
    all_goals (first | (exfalso; omega) | skip)
    have xC : Ext wB wC := own_anchor hown hx kC
    have hSl : Sl wC vO (kidsN d id k) := own_Sl hO (notes_ats _ _) rfl (by omega)
    obtain ⟨K, hK⟩ : ∃ K, K = kidsN d id k := ⟨_, rfl⟩
    rw [← hK] at hSl hO hkl ⊢
    have hS0 := hSl
    clear hown cS kC hO
    obtain ⟨a2, cap2, rfl, hc2, hm2, hp2⟩ := hSl.sl
    (repeat' (first | (refine at_EL ?_; first | refine eN ?_ | refine eV rfl rfl (zA rfl rfl) ?_ | (refine at_call ?_; first | refine eV rfl rfl (zK rfl rfl) ?_)) | (refine at_K ?_; first | refine K_then ?_) | (refine at_E ?_; first | refine E_block ?_)))
    refine E_loop (ι := Nat × Value) (fun x => [(10, x.2), (48, .slice a2 K.length cap2), (49, int K.length), (50, int x.1)])
      (fun x wr => x.1 ≤ K.length ∧ Ext wC wr ∧ wr.ownsRow wC.heap.size 3 1 x.2 x.1 (((K.take x.1).map (·.id)).map int)) (fun x => K.length - x.1) (0, .slice none 0 0)
      ⟨rfl, rfl, rfl, rfl, trivial⟩ ⟨Nat.zero_le _, Ext.refl _, World.ownsRow_nil _ _ _ _⟩ ?_
    rintro ⟨j, vP⟩ wq ⟨hj, hxq, hoq⟩
    dsimp only at hj hxq hoq ⊢
    by_cases hjl : j < K.length
    · obtain ⟨b, off, rfl⟩ := hp2 (by omega)
      obtain ⟨q, hq⟩ : ∃ q, K[j]? = some q := ⟨_, List.getElem?_eq_getElem hjl⟩
      have hat := note_elem (hS0.ext hxq) hq
      (repeat' (first | refine eV rfl rfl (val_indexAddr (m := j) rfl rfl rfl rfl (by omega)) ?_ | refine eV rfl rfl (val_loadA rfl rfl rfl hat rfl) ?_ | (refine at_EL ?_; first | refine eN ?_ | refine eV rfl rfl (zA rfl rfl) ?_ | refine eV rfl rfl (zB rfl rfl) ?_ | (refine at_bin ?_; first | refine eD rfl rfl (zL rfl rfl rfl) (fun hh => ?_) (fun hh => ?_))) | (refine at_K ?_; first | refine K_then ?_ | refine K_then_exit ?_ | refine K_in_exit ?_) | (refine at_E ?_; first | refine E_seq ?_ | refine E_region ?_ | refine E_cond_t rfl ?_ | refine E_cond_f rfl ?_ | refine E_block ?_ | refine E_skip ?_ | refine E_ret ?_ | refine E_exit ?_)))
      all_goals (first | (exfalso; omega) | skip)
      refine EL_alloc rfl rfl rfl (fun b7 w7 x7 hb7 r7 => ?_)
      refine EL_storeP (cs := noteC q) r7 x7 (by omega) rfl rfl rfl rfl rfl rfl rfl rfl (Nat.le_refl _) (fun w8 r8' x8 k8 => ?_)
      have r8 : Row w8 b7 48 (noteC q) := r8'
      clear r8' r7 k8
      have hown8 := own_ext hoq x8
      have hx8 := hxq.trans x8
      (repeat' (first | refine eV rfl rfl (val_load rfl rfl rfl (r8.cellAt rfl)) ?_ | (refine EL_appO (news := [int q.id]) (own_ext hown8 xS) (hx8.trans xS) (fun _ => ⟨_, _, rfl, rS.at⟩) rfl rfl rfl rfl rfl rfl rfl rfl rfl (by omega) (by omega) (fun vJ wJ oJ xJ kJ hJ => ?_)) | (refine at_EL ?_; first | refine eN ?_ | refine eV rfl rfl (zA rfl rfl) ?_ | refine eV rfl rfl (zB rfl rfl) ?_ | (refine at_bin ?_; first | refine eV rfl rfl (zU rfl rfl rfl (by omega) (by omega)) ?_) | refine eV rfl rfl (zH rfl rfl) ?_ | refine eL rfl rfl rfl rfl rfl rfl rfl rfl (fun bS wS xS hbS rS => ?_)) | (refine at_K ?_; first | refine K_then ?_ | refine K_in ?_) | (refine at_E ?_; first | refine E_region ?_)))
      refine K_rnd (j + 1, vJ) ⟨rfl, rfl, rfl, rfl, trivial⟩ ⟨by dsimp only; omega, xJ, ?_⟩ (by dsimp only; omega)
      dsimp only
      obtain ⟨hj2, rfl⟩ := List.getElem?_eq_some_iff.1 hq
      rw [List.take_succ_eq_append_getElem hj2, List.map_append, List.map_append]
      exact oJ
    · obtain rfl : j = K.length := by omega
      rw [List.take_length] at hoq
      (repeat' (first | (refine at_EL ?_; first | refine eN ?_ | refine eV rfl rfl (zA rfl rfl) ?_ | refine eV rfl rfl (zB rfl rfl) ?_ | (refine at_bin ?_; first | refine eD rfl rfl (zL rfl rfl rfl) (fun hh => ?_) (fun hh => ?_))) | (refine at_K ?_; first | refine K_then ?_ | refine K_then_exit ?_ | refine K_in_exit ?_) | (refine at_E ?_; first | refine E_seq ?_ | refine E_region ?_ | refine E_cond_t rfl ?_ | refine E_cond_f rfl ?_ | refine E_block ?_ | refine E_skip ?_ | refine E_ret ?_ | refine E_exit ?_)))
      all_goals (first | (exfalso; omega) | skip)
      refine ret_1 rfl rfl ⟨xB.trans (xC.trans hxq), ?_⟩
      exact own_Sl (css := (K.map (·.id)).map fun z => [int z]) (by rw [ints_flat]; exact hoq) (ints_ats _ _) (by simp) (by simp; omega)
end Go.Proofs.Ytaajcbhingpfeaa
