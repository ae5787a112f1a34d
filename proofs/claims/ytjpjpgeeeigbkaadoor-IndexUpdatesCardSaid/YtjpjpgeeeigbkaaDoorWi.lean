/-
  Walks: the program's Texts and Build.
-/
import Derived.Test.YtjpjpgeeeigbkaaDoorWd
import Derived.Test.YtjpjpgeeeigbkaaDoorWe
import Derived.Test.YtjpjpgeeeigbkaaDoorY5
import Derived.Test.YtjpjpgeeeigbkaaDoorDa
set_option linter.all false
namespace Go.Proofs.YtjpjpgeeeigbkaaDoor
open Go.RowKit Go.En
def textsF (xs : List Post) (r : Int) (p : List UInt8) : List Txt := (xs.filter fun q => decide (q.role = r) && matchF p q.text).map fun q => ⟨q.text⟩
theorem texts_take {xs : List Post} {r : Int} {p : List UInt8} {i : Nat} {x : Post} (h : xs[i]? = some x) : textsF (xs.take (i + 1)) r p = textsF (xs.take i) r p ++ (if (decide (x.role = r) && matchF p x.text) = true then [⟨x.text⟩] else []) := by
  obtain ⟨hi, rfl⟩ := List.getElem?_eq_some_iff.1 h
  unfold textsF
  rw [List.take_succ_eq_append_getElem hi, List.filter_append, List.map_append]
  congr 1
  split <;> simp [*]
theorem texts_len (xs : List Post) (r : Int) (p : List UInt8) (i : Nat) : (textsF (xs.take i) r p).length ≤ i := by
  unfold textsF
  rw [List.length_map]
  exact Nat.le_trans (List.length_filter_le _ _) (List.length_take_le _ _)
theorem txts_flat (l : List Txt) : (l.map fun t => [str t.l]).flatten = l.map fun t => str t.l := by induction l with | nil => rfl | cons z r ih => simp [ih]
theorem txts_ats {G : Nat → Prop} (w : World) : ∀ l : List Txt, AtsG G w l (l.map fun t => [str t.l])
  | [] => trivial
  | _ :: r => ⟨rfl, txts_ats w r⟩
/-! Build -/
def roleAt (ts : List Tier) (n : Note) : Int := match ts[n.tier.toNat]? with | some t => t.role | none => 0
def putN (ts : List Tier) (xs : List Post) (n : Note) : List Post := putF xs (roleAt ts n) n.text n.id
def buildF (ts : List Tier) (ns : List Note) : List Post := ns.foldl (putN ts) []
theorem build_take {ts : List Tier} {ns : List Note} {i : Nat} {n : Note} (h : ns[i]? = some n) : buildF ts (ns.take (i + 1)) = putF (buildF ts (ns.take i)) (roleAt ts n) n.text n.id := by
  obtain ⟨hi, rfl⟩ := List.getElem?_eq_some_iff.1 h
  unfold buildF
  rw [List.take_succ_eq_append_getElem hi, List.foldl_append]; rfl
/-- so many postings, so many numbers each -/
def Small (k : Nat) (xs : List Post) : Prop := xs.length ≤ k ∧ ∀ p ∈ xs, p.ids.length ≤ k
theorem with_len (ids : List Int) (id : Int) : (withF ids id).length ≤ ids.length + 1 := by
  unfold withF
  split
  · omega
  · have := withN_le ids id; simp; omega
theorem Small.put {k : Nat} {xs : List Post} (h : Small k xs) (r : Int) (t : List UInt8) (id : Int) : Small (k + 1) (putF xs r t id) := by
  have hpl := placeN_le xs r t
  have new : Small (k + 1) (xs.take (placeN xs r t) ++ ⟨r, t, [id]⟩ :: xs.drop (placeN xs r t)) := by
    refine ⟨by simp; have := h.1; omega, fun p hp => ?_⟩
    rcases List.mem_append.1 hp with hp | hp
    · have := h.2 p (List.mem_of_mem_take hp); omega
    · rcases List.mem_cons.1 hp with rfl | hp
      · simp
      · have := h.2 p (List.mem_of_mem_drop hp); omega
  unfold putF
  split
  · split
    · rename_i p hp
      split
      · refine ⟨by simp; have := h.1; omega, fun q hq => ?_⟩
        rcases List.mem_or_eq_of_mem_set hq with hq | rfl
        · have := h.2 q hq; omega
        · have := with_len p.ids id
          have := h.2 p (List.mem_of_getElem? hp)
          dsimp only; omega
      · exact new
    · exact new
  · exact ⟨by have := h.1; omega, fun p hp => by have := h.2 p hp; omega⟩
theorem Small.build (ts : List Tier) (ns : List Note) : ∀ i, Small i (buildF ts (ns.take i))
  | 0 => ⟨by simp [buildF], by simp [buildF]⟩
  | i + 1 => by
    by_cases h : i < ns.length
    · rw [build_take (List.getElem?_eq_getElem h)]
      exact (Small.build ts ns i).put _ _ _
    · have := Small.build ts ns i
      rw [List.take_of_length_le (by omega)] at this ⊢
      exact ⟨by have := this.1; omega, fun p hp => by have := this.2 p hp; omega⟩
attribute [local irreducible] E EL K Val Enters Rt Calls bodyPost Code.wp RQ
set_option maxHeartbeats 1000000 in
theorem texts_any (xs : List Post) (v : Value) (r : Int) (p : List UInt8) (w : World) (hv : Sl w v xs) (hlen : xs.length ≤ 1099511627776) (htx : ∀ q ∈ xs, q.text.length ≤ 1048576) (hT : Tabs w) :
    Calls Tryd.prog 28 #[.agg #[v], int r, str p] w (Rt fun u w' => Ext w w' ∧ Sl w' u (textsF xs r p)) := by
  refine calls_E (n := 34) (args := [.agg #[v], int r, str p]) Tryd.func28 rfl Tryd.ntmps28 (by simp) ?_
  have hv0 := hv
  obtain ⟨a, cap, rfl, hc, hm, hp⟩ := hv.sl
  refine E_seq ?_
  refine E_region ?_
  refine EL_box rfl rfl rfl rfl (fun bB wB xB hbB rB => ?_)
  (repeat' (first | refine eV rfl rfl (val_load rfl rfl rfl (rB.cellAt rfl)) ?_ | (refine at_EL ?_; first | refine eN ?_ | refine eV rfl rfl (zA rfl rfl) ?_ | refine eV rfl rfl (zB rfl rfl) ?_ | (refine at_call ?_; first | refine eV rfl rfl (zK rfl rfl) ?_) | refine eV rfl rfl (zH rfl rfl) ?_) | (refine at_K ?_; first | refine K_then ?_) | (refine at_E ?_; first | refine E_seq ?_ | refine E_region ?_ | refine E_block ?_)))
  refine E_loop (ι := Nat × Value) (fun x => [(1, int r), (2, str p), (7, x.2), (11, .slice a xs.length cap), (12, int xs.length), (13, int x.1)])
    (fun x wr => x.1 ≤ xs.length ∧ Ext wB wr ∧ wr.ownsRow wB.heap.size 9 1 x.2 (textsF (xs.take x.1) r p).length ((textsF (xs.take x.1) r p).map fun t => str t.l)) (fun x => xs.length - x.1) (0, .slice none 0 0)
    ⟨rfl, rfl, rfl, rfl, rfl, rfl, trivial⟩ ⟨Nat.zero_le _, Ext.refl _, World.ownsRow_nil _ _ _ _⟩ ?_
  rintro ⟨i, vO⟩ wr ⟨hi, hx, hown⟩
  dsimp only at hi hx hown ⊢
  have x0r := xB.trans hx
  have hol := texts_len xs r p i
  by_cases hlt : i < xs.length
  · obtain ⟨b, off, rfl⟩ := hp (by omega)
    obtain ⟨x, hxx⟩ : ∃ x, xs[i]? = some x := ⟨_, List.getElem?_eq_getElem hlt⟩
    obtain ⟨ivx, hatx, hivx⟩ := post_elem (hv0.ext x0r) hxx
    obtain ⟨ax, capx, rfl, hcx, hmx, hpx⟩ := hivx.sl
    have htk := texts_take (r := r) (p := p) hxx
    have hxl := htx x (List.mem_of_getElem? hxx)
    (repeat' (first | refine eV rfl rfl (val_indexAddr (m := i) rfl rfl rfl rfl (by omega)) ?_ | refine eV rfl rfl (val_loadA rfl rfl rfl hatx rfl) ?_ | (refine at_EL ?_; first | refine eN ?_ | refine eV rfl rfl (zA rfl rfl) ?_ | refine eV rfl rfl (zB rfl rfl) ?_ | (refine at_bin ?_; first | refine eD rfl rfl (zL rfl rfl rfl) (fun hh => ?_) (fun hh => ?_))) | (refine at_K ?_; first | refine K_then ?_ | refine K_then_exit ?_ | refine K_in_exit ?_) | (refine at_E ?_; first | refine E_seq ?_ | refine E_region ?_ | refine E_cond_t rfl ?_ | refine E_cond_f rfl ?_ | refine E_block ?_ | refine E_skip ?_ | refine E_ret ?_ | refine E_exit ?_)))
    all_goals (first | (exfalso; omega) | skip)
    refine EL_alloc rfl rfl rfl (fun b4 w3 x3 hb4 r3 => ?_)
    refine EL_storeP (cs := [int x.role, str x.text, .slice ax x.ids.length capx]) r3 x3 (by omega) rfl rfl rfl rfl rfl rfl rfl rfl (Nat.le_refl _) (fun w4 r4' x4 k4 => ?_)
    have r4 : Row w4 b4 42 [int x.role, str x.text, .slice ax x.ids.length capx] := r4'
    clear r4'
    have c43 := pMatch_any p x.text hxl
    by_cases hr : x.role = r
    · cases hmt : matchF p x.text with
      | true =>
        rw [hmt] at c43
        rw [hmt, decide_eq_true hr, Bool.true_and, if_pos rfl] at htk
        (repeat' (first | refine eV rfl rfl (val_load rfl rfl rfl (r4.cellAt rfl)) ?_ | (refine EL_call rfl rfl (entersF rfl rfl en43) (c43 _ (hT.ext (x0r.trans x4))) (fun vC wC hC => ?_); obtain ⟨rfl, xC⟩ := hC) | refine eV rfl rfl (val_load rfl rfl rfl ((r4.ext xC).cellAt rfl)) ?_ | (refine EL_app (own_ext hown (x4.trans (xC.trans xS))) (hx.trans (x4.trans (xC.trans xS))) rS.at rfl rfl rfl rfl rfl rfl rfl rfl rfl (by omega) (by omega) (fun vJ wJ oJ xJ _ => ?_)) | (refine at_EL ?_; first | refine eN ?_ | refine eO rfl rfl ?_ | refine eV rfl rfl (zA rfl rfl) ?_ | refine eV rfl rfl (zB rfl rfl) ?_ | (refine at_bin ?_; first | refine eD rfl rfl (zM rfl rfl rfl) (fun hh => ?_) (fun hh => ?_) | refine eV rfl rfl (zU rfl rfl rfl (by omega) (by omega)) ?_) | refine eV rfl rfl (zC rfl rfl rfl) ?_ | refine eV rfl rfl (zD rfl rfl rfl) ?_ | refine eV rfl rfl (zH rfl rfl) ?_ | refine eL rfl rfl rfl rfl rfl rfl rfl rfl (fun bS wS xS hbS rS => ?_)) | (refine at_K ?_; first | refine K_then ?_ | refine K_in ?_) | (refine at_E ?_; first | refine E_seq ?_ | refine E_region ?_ | refine E_cond_t rfl ?_ | refine E_cond_f rfl ?_ | refine E_skip ?_)))
        all_goals (first | (exfalso; omega) | (exact absurd hr ‹_›) | skip)
        refine K_rnd (i + 1, vJ) ⟨rfl, rfl, rfl, rfl, rfl, rfl, trivial⟩ ⟨by dsimp only; omega, xJ, ?_⟩ (by dsimp only; omega)
        dsimp only
        rw [htk]
        simpa [Value.cells] using oJ
      | false =>
        rw [hmt] at c43
        rw [hmt, Bool.and_false, if_neg (by simp), List.append_nil] at htk
        (repeat' (first | refine eV rfl rfl (val_load rfl rfl rfl (r4.cellAt rfl)) ?_ | (refine EL_call rfl rfl (entersF rfl rfl en43) (c43 _ (hT.ext (x0r.trans x4))) (fun vC wC hC => ?_); obtain ⟨rfl, xC⟩ := hC) | (refine at_EL ?_; first | refine eN ?_ | refine eO rfl rfl ?_ | refine eV rfl rfl (zA rfl rfl) ?_ | (refine at_bin ?_; first | refine eD rfl rfl (zM rfl rfl rfl) (fun hh => ?_) (fun hh => ?_) | refine eV rfl rfl (zU rfl rfl rfl (by omega) (by omega)) ?_) | refine eV rfl rfl (zC rfl rfl rfl) ?_ | refine eV rfl rfl (zD rfl rfl rfl) ?_ | refine eV rfl rfl (zH rfl rfl) ?_) | (refine at_K ?_; first | refine K_then ?_ | refine K_in ?_) | (refine at_E ?_; first | refine E_seq ?_ | refine E_region ?_ | refine E_cond_f rfl ?_ | refine E_skip ?_)))
        all_goals (first | (exfalso; omega) | (exact absurd hr ‹_›) | skip)
        refine K_rnd (i + 1, vO) ⟨rfl, rfl, rfl, rfl, rfl, rfl, trivial⟩ ⟨by dsimp only; omega, hx.trans (x4.trans xC), ?_⟩ (by dsimp only; omega)
        dsimp only
        rw [htk]
        exact own_ext hown (x4.trans xC)
    · rw [decide_eq_false hr, Bool.false_and, if_neg (by simp), List.append_nil] at htk
      (repeat' (first | refine eV rfl rfl (val_load rfl rfl rfl (r4.cellAt rfl)) ?_ | (refine at_EL ?_; first | refine eN ?_ | refine eO rfl rfl ?_ | refine eV rfl rfl (zA rfl rfl) ?_ | (refine at_bin ?_; first | refine eD rfl rfl (zM rfl rfl rfl) (fun hh => ?_) (fun hh => ?_) | refine eV rfl rfl (zU rfl rfl rfl (by omega) (by omega)) ?_) | refine eV rfl rfl (zD rfl rfl rfl) ?_ | refine eV rfl rfl (zH rfl rfl) ?_) | (refine at_K ?_; first | refine K_then ?_ | refine K_in ?_) | (refine at_E ?_; first | refine E_seq ?_ | refine E_region ?_ | refine E_cond_f rfl ?_ | refine E_skip ?_)))
      all_goals (first | (exfalso; omega) | skip)
      refine K_rnd (i + 1, vO) ⟨rfl, rfl, rfl, rfl, rfl, rfl, trivial⟩ ⟨by dsimp only; omega, hx.trans x4, ?_⟩ (by dsimp only; omega)
      dsimp only
      rw [htk]
      exact own_ext hown x4
  · have hi' : i = xs.length := by omega
    subst hi'
    rw [List.take_length] at hown hol
    (repeat' (first | (refine at_EL ?_; first | refine eN ?_ | refine eV rfl rfl (zA rfl rfl) ?_ | refine eV rfl rfl (zB rfl rfl) ?_ | (refine at_bin ?_; first | refine eD rfl rfl (zL rfl rfl rfl) (fun hh => ?_) (fun hh => ?_))) | (refine at_K ?_; first | refine K_then ?_ | refine K_then_exit ?_ | refine K_in_exit ?_) | (refine at_E ?_; first | refine E_seq ?_ | refine E_region ?_ | refine E_cond_t rfl ?_ | refine E_cond_f rfl ?_ | refine E_block ?_ | refine E_skip ?_ | refine E_ret ?_ | refine E_exit ?_)))
    all_goals (first | (exfalso; omega) | skip)
    exact ret_1 rfl rfl ⟨x0r, own_Sl (css := (textsF xs r p).map fun t => [str t.l]) (by rw [txts_flat]; exact hown) (txts_ats _ _) rfl (by omega)⟩
set_option maxHeartbeats 1000000 in
theorem build_any (ts : List Tier) (ns : List Note) (c0 c1 c2 c3 c4 tv nv : Value) (w : World) (ht : Sl w tv ts) (hn : Sl w nv ns) (hlen : ns.length ≤ 1099511627776) (hok : ∀ n ∈ ns, 0 ≤ n.tier ∧ n.tier < ts.length) :
    Calls Tryd.prog 20 #[.agg #[c0, c1, c2, c3, c4, tv, nv]] w (Rt fun u w' => Ext w w' ∧ Ix w' u (buildF ts ns)) := by
  refine calls_E (n := 28) (args := [.agg #[c0, c1, c2, c3, c4, tv, nv]]) Tryd.func20 rfl Tryd.ntmps20 (by simp) ?_
  have ht0 := ht
  have hn0 := hn
  obtain ⟨a, cap, rfl, hc, hm, hp⟩ := ht.sl
  obtain ⟨a', cap', rfl, hc', hm', hp'⟩ := hn.sl
  refine E_seq ?_
  refine E_region ?_
  refine EL_box rfl rfl rfl rfl (fun bB wB xB hbB rB0 => ?_)
  refine EL_alloc rfl rfl rfl (fun bA wA xA hbA rA0 => ?_)
  (repeat' (first | (refine at_EL ?_; first | refine eN ?_) | (refine at_K ?_; first | refine K_then ?_) | (refine at_E ?_; first | refine E_seq ?_ | refine E_region ?_)))
  refine EL_alloc rfl rfl rfl (fun bX wX xX hbX rX0 => ?_)
  have rB := rB0.ext xA
  have x0 := xB.trans xA
  have hBX : bX < wX.heap.size := rX0.lt
  have hA1 : bA < wA.heap.size := rA0.lt
  have hB1 : w.heap.size ≤ bA := by have := xB.size; omega
  have rBX := rB.ext xX
  (repeat' (first | refine eV rfl rfl (val_load rfl rfl rfl (rBX.cellAt rfl)) ?_ | (refine at_EL ?_; first | refine eN ?_ | refine eV rfl rfl (zA rfl rfl) ?_ | (refine at_call ?_; first | refine eV rfl rfl (zK rfl rfl) ?_) | refine eV rfl rfl (zH rfl rfl) ?_) | (refine at_K ?_; first | refine K_then ?_) | (refine at_E ?_; first | refine E_seq ?_ | refine E_region ?_ | refine E_block ?_)))
  refine E_loop (ι := Nat) (fun i => [(1, .pointer (some ⟨bB, 0, none⟩)), (2, .pointer (some ⟨bA, 0, none⟩)), (3, .pointer (some ⟨bX, 0, none⟩)), (7, .slice a' ns.length cap'), (8, int ns.length), (9, int i)])
    (fun i wr => i ≤ ns.length ∧ Ext wA wr ∧ ∃ sv, Row wr bX 24 [sv] ∧ SlG (fun b => b ≠ bX ∧ b ≠ bA) wr sv (buildF ts (ns.take i))) (fun i => ns.length - i) 0
    ⟨rfl, rfl, rfl, rfl, rfl, rfl, trivial⟩ ⟨Nat.zero_le _, xX, _, rX0, SlG.nil⟩ ?_
  rintro i wr ⟨hi, hx, sv, rX, hsv⟩
  have x0r := x0.trans hx
  have hsm := Small.build ts ns i
  by_cases hlt : i < ns.length
  · obtain ⟨b', off', rfl⟩ := hp' (by omega)
    obtain ⟨x, hxx⟩ : ∃ x, ns[i]? = some x := ⟨_, List.getElem?_eq_getElem hlt⟩
    have hok1 := hok x (List.mem_of_getElem? hxx)
    obtain ⟨b, off, rfl⟩ := hp (by omega)
    obtain ⟨m, hmm⟩ : ∃ m : Nat, x.tier = (m : Int) := ⟨x.tier.toNat, by omega⟩
    have hmlt : m < ts.length := by omega
    obtain ⟨t, htt⟩ : ∃ t, ts[m]? = some t := ⟨_, List.getElem?_eq_getElem hmlt⟩
    have hatn := note_elem (hn0.ext x0r) hxx
    have hro : roleAt ts x = t.role := by unfold roleAt; rw [hmm, Int.toNat_natCast, htt]
    have hbt := build_take (ts := ts) hxx
    rw [hro] at hbt
    (repeat' (first | refine eV rfl rfl (val_indexAddr (m := i) rfl rfl rfl rfl (by omega)) ?_ | refine eV rfl rfl (val_loadA rfl rfl rfl hatn rfl) ?_ | (refine at_EL ?_; first | refine eN ?_ | (refine at_bin ?_; first | refine eD rfl rfl (zL rfl rfl rfl) (fun hh => ?_) (fun hh => ?_))) | (refine at_K ?_; first | refine K_then ?_ | refine K_then_exit ?_ | refine K_in_exit ?_) | (refine at_E ?_; first | refine E_seq ?_ | refine E_region ?_ | refine E_cond_t rfl ?_ | refine E_cond_f rfl ?_ | refine E_block ?_ | refine E_skip ?_ | refine E_exit ?_)))
    all_goals (first | (exfalso; omega) | skip)
    refine EL_alloc rfl rfl rfl (fun b4 w3 x3 hb4 r3 => ?_)
    have hb4' : b4 < w3.heap.size := r3.lt
    have hbXr : bX < wr.heap.size := rX.lt
    refine EL_storeP (cs := [int x.id, int x.tier, int x.parent, int x.frm, int x.til, int x.rank, str x.text]) r3 x3 (by omega) rfl rfl rfl rfl rfl rfl rfl rfl (Nat.le_refl _) (fun w4 r4' x4 k4 => ?_)
    have r4 : Row w4 b4 57 [int x.id, int x.tier, int x.parent, int x.frm, int x.til, int x.rank, str x.text] := r4'
    clear r4'
    rw [hmm] at r4
    have rX4 := rX.ext x4
    have rB4 := rB.ext (hx.trans x4)
    have hatt := tier_elem (ht0.ext (x0r.trans x4)) htt
    have hsv4 := hsv.ext x4
    (repeat' (first | refine yV rfl rfl (fun wq _ xq => val_loadA (cs := [sv]) rfl rfl rfl (rX4.ext xq).at rfl) ?_ | refine yV rfl rfl (fun wq _ xq => val_load rfl rfl rfl ((rB4.ext xq).cellAt rfl)) ?_ | refine yV rfl rfl (fun wq _ xq => val_load rfl rfl rfl ((r4.ext xq).cellAt rfl)) ?_ | refine yV rfl rfl (fun _ _ _ => val_indexAddr (m := m) rfl rfl rfl rfl hmlt) ?_ | refine yV rfl rfl (fun wq _ xq => val_load rfl rfl rfl ((hatt.ext xq).cellAt rfl)) ?_ | (refine at_EL ?_; first | refine eN ?_) | (refine at_K ?_; first | refine K_then ?_) | (refine at_E ?_; first | refine E_dq mixedOk (by kernel_rfl) rfl ?_) | (refine at_RQ ?_; first | refine yV rfl rfl (fun _ _ _ => zH rfl rfl) ?_)))
    refine RQ_callR (fun u w' => IxG (fun b => b ≠ bX ∧ b ≠ bA) w' u (buildF ts (ns.take (i + 1)))) (fun _ => #[.agg #[sv], int t.role, str x.text, int x.id]) rfl rfl (fun _ _ _ _ xe h => h.ext xe) (fun _ _ _ => entersF rfl rfl en30)
      (fun wq δ xq _ => calls_mono (put_any _ sv t.role x.text x.id wq (hsv4.ext xq) (by have := hsm.1; omega) (fun p hp => by have := hsm.2 p hp; omega)) ?_) ?_
    · rintro u w' ⟨xe, s', rfl, hs'⟩
      refine ⟨⟨s', rfl, ?_⟩, xe⟩
      rw [hbt]
      exact hs'.wk fun b hb => hb.elim id (fun h => ⟨fun e => by subst e; have := x4.size; have := xq.size; omega, fun e => by subst e; have := hx.size; have := x4.size; have := xq.size; omega⟩)
    refine RQ_end (fun wq δ xq hR => ?_)
    obtain ⟨s', he, hs'⟩ := hR 25 _ rfl
    refine EL_storeP (cs := [s']) (v := .agg #[s']) (rX4.ext xq) (hx.trans (x4.trans xq)) (by omega) rfl rfl rfl rfl (show some (δ 25) = _ by rw [he]) rfl rfl (by obtain ⟨_, _, rfl, _⟩ := hs'; rfl) (Nat.le_refl _) (fun w5 r5 x5 k5 => ?_)
    (repeat' (first | (refine at_EL ?_; first | refine eN ?_ | refine eV rfl rfl (zA rfl rfl) ?_ | (refine at_bin ?_; first | refine eV rfl rfl (zU rfl rfl rfl (by omega) (by omega)) ?_)) | (refine at_K ?_; first | refine K_then ?_ | refine K_in ?_) | (refine at_E ?_; first | refine E_region ?_)))
    exact K_rnd (i + 1) ⟨rfl, rfl, rfl, rfl, rfl, rfl, trivial⟩ ⟨by omega, x5, s', r5, hs'.move (k5.mv fun b hb e => by cases e; exact hb.1 rfl)⟩ (by omega)
  · obtain rfl : i = ns.length := by omega
    rw [List.take_length] at hsv
    have hsv0 := hsv
    obtain ⟨aS, capS, rfl, _⟩ := hsv.sl
    (repeat' (first | refine eV rfl rfl (val_loadA (cs := [_]) rfl rfl rfl rX.at rfl) ?_ | (refine at_EL ?_; first | refine eN ?_ | (refine at_bin ?_; first | refine eD rfl rfl (zL rfl rfl rfl) (fun hh => ?_) (fun hh => ?_))) | (refine at_K ?_; first | refine K_then ?_ | refine K_then_exit ?_ | refine K_in_exit ?_) | (refine at_E ?_; first | refine E_seq ?_ | refine E_region ?_ | refine E_cond_t rfl ?_ | refine E_cond_f rfl ?_ | refine E_block ?_ | refine E_skip ?_ | refine E_exit ?_)))
    all_goals (first | (exfalso; omega) | skip)
    refine EL_storeP (cs := [_]) (rA0.ext hx) x0r hB1 rfl rfl rfl rfl rfl rfl rfl rfl (Nat.le_refl _) (fun w9 r9 x9 k9 => ?_)
    (repeat' (first | (refine at_EL ?_; first | refine eN ?_) | (refine at_K ?_; first | refine K_then ?_) | (refine at_E ?_; first | refine E_ret ?_)))
    exact ret_c rfl rfl rfl r9.at rfl ⟨x9, _, rfl, (hsv0.move (k9.mv fun b hb e => by cases e; exact hb.2 rfl)).any⟩
end Go.Proofs.YtjpjpgeeeigbkaaDoor
