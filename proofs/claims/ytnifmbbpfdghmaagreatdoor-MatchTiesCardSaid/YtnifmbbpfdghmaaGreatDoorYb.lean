/-
  Walks of align: Under's closure. Walks of align: Under (but for its sorting). Walks of align: slices.Values, AppendSeq (the kit's worked text on a range over a function, turned to this program). The library's slices.Sort at []int, laid at this program: what the kit's one command prints, in plain words.
-/
import Derived.Test.YtnifmbbpfdghmaaGreatDoorWp
import Derived.Test.YtnifmbbpfdghmaaGreatDoorY4
import Derived.Test.YtnifmbbpfdghmaaGreatDoorY3
import Derived.RangeFuncNested
import Derived.RangeFuncBound
import Derived.RangeFuncCalls
import Derived.RangeFuncLeaves
import Derived.RangeFuncBox
import Derived.Shelf.Abstract
import Derived.Shelf.RegionOpen
import Derived.WalkKit
import Derived.OwnWalkIn
import Derived.TacticsInMore
import Derived.LoopNIn
import Derived.LoopIn
import Derived.Maps.AppendAt
import Derived.Lib.OthersKept
import Derived.Test.YtnifmbbpfdghmaaGreatDoorChecked
import Derived.Test.YtnifmbbpfdghmaaGreatDoorProg
import Derived.Shelf.Sort.Plain
import Derived.Shelf.Slices.In.SortNone
import Derived.Sort.OwnSortedInts
set_option linter.all false
namespace Go.Proofs.YtnifmbbpfdghmaaGreatDoor
open Go.RowKit Go.En
def kidsM (d : Dc) (k : Int) : List Note := d.notes.filter fun n => decide (n.parent = k)
def kidsI (d : Dc) (k : Int) : List Int := (kidsM d k).map fun n => n.id
/-- the state of the collecting: what lies below w0 stands; the list so far -/
structure CI (w0 : World) (bM bO bF B2 : Nat) (w : World) (acc : List Int) (v : Value) : Prop where
  ext : Ext w0 w
  big : B2 ≤ w.heap.size
  fn : Row w bF 120 [.func (.func 105) #[] #[.pointer (some ⟨bM, 0, none⟩), .pointer (some ⟨bO, 0, none⟩), .pointer (some ⟨bF, 0, none⟩)] ]
  out : Row w bO 22 [v]
  own : w.ownsRow B2 3 1 v acc.length (acc.map int)
def foldK (d : Dc) (F : Nat) (l : List Note) : List Int := l.flatMap fun n => n.id :: dfsN d.notes F n.id
theorem foldK_snoc {d : Dc} {F : Nat} {l : List Note} {i : Nat} {c : Note} (h : l[i]? = some c) : foldK d F (l.take (i + 1)) = foldK d F (l.take i) ++ (c.id :: dfsN d.notes F c.id) := by
  obtain ⟨hi, rfl⟩ := List.getElem?_eq_some_iff.1 h
  unfold foldK
  rw [List.take_succ_eq_append_getElem hi, List.flatMap_append, List.flatMap_singleton]
theorem foldK_len {d : Dc} {F : Nat} {l : List Note} (i : Nat) : (foldK d F (l.take i)).length ≤ (foldK d F l).length := by
  unfold foldK
  have : (l.flatMap fun n => n.id :: dfsN d.notes F n.id) = ((l.take i).flatMap fun n => n.id :: dfsN d.notes F n.id) ++ ((l.drop i).flatMap fun n => n.id :: dfsN d.notes F n.id) := by
    rw [← List.flatMap_append, List.take_append_drop]
  rw [this, List.length_append]; omega
attribute [local irreducible] E EL K Val Enters Rt Calls bodyPost Code.wp RQ
set_option maxHeartbeats 4000000 in
set_option maxRecDepth 8000 in
theorem collect_any {d : Dc} (h : LightD d) {w0 : World} {bM r bO bF B2 : Nat} {f : Int → Option Value} (rM : Row w0 bM 119 [.map (some r)]) (hm : MapF w0 r f) (hk : ∀ k, Sl w0 ((f k).getD (.slice none 0 0)) (kidsI d k)) (h1 : w0.heap.size ≤ bO) (h2 : bO < B2) (h3 : w0.heap.size ≤ bF) (h4 : bF < B2) (hne : bO ≠ bF) :
    ∀ (F : Nat) (id : Int) (a : Note) (k : Nat) (acc : List Int) (v : Value) (w : World), getF d.notes id = some a → a.tier = (k : Int) → d.tiers.length ≤ F + k → acc.length + (dfsN d.notes F id).length ≤ 1000 → CI w0 bM bO bF B2 w acc v →
    Calls Tryz.prog 105 #[int id, .pointer (some ⟨bM, 0, none⟩), .pointer (some ⟨bO, 0, none⟩), .pointer (some ⟨bF, 0, none⟩)] w (Rt fun _ w' => ∃ v', CI w0 bM bO bF B2 w' (acc ++ dfsN d.notes F id) v') := by
  intro F
  induction F with
  | zero =>
    intro id a k acc v w ha hak hF
    obtain ⟨k', e1, e2⟩ := note_lt h (get_some ha).1
    omega
  | succ F ih =>
  intro id a k acc v w ha hak hF hlen I
  refine calls_E (n := 23) (args := [int id, .pointer (some ⟨bM, 0, none⟩), .pointer (some ⟨bO, 0, none⟩), .pointer (some ⟨bF, 0, none⟩)]) Tryz.func105 rfl Tryz.ntmps105 (by simp) ?_
  have hdfs : dfsN d.notes (F + 1) id = foldK d F (kidsM d id) := rfl
  rw [hdfs] at hlen ⊢
  obtain ⟨KS, hKS⟩ : ∃ KS, KS = kidsM d id := ⟨_, rfl⟩
  obtain ⟨KI, hKI⟩ : ∃ KI, KI = kidsI d id := ⟨_, rfl⟩
  have hKIm : KI = KS.map fun n => n.id := by rw [hKI, hKS]; rfl
  have hKil : KI.length = KS.length := by rw [hKIm, List.length_map]
  rw [← hKS] at hlen ⊢
  have hS := (hk id).ext I.ext
  rw [← hKI] at hS
  have hS0 := hS
  obtain ⟨sa, cap, he, hc, hmx, hp⟩ := hS.sl
  rw [he] at hS0
  have rMw := rM.ext I.ext
  have hmw := hm.ext I.ext
  (repeat' (first | refine eV rfl rfl (val_load rfl rfl rfl (rMw.cellAt rfl)) ?_ | refine eV (v := .slice sa KI.length cap) rfl rfl (by rw [← he]; exact val_lookup hmw rfl rfl rfl) ?_ | (refine at_EL ?_; first | refine eN ?_ | refine eV rfl rfl (zA rfl rfl) ?_ | (refine at_call ?_; first | refine eV rfl rfl (zK rfl rfl) ?_)) | (refine at_K ?_; first | refine K_then ?_) | (refine at_E ?_; first | refine E_seq ?_ | refine E_region ?_ | refine E_block ?_)))
  refine E_loop (ι := Nat × Value) (fun x => [(1, .pointer (some ⟨bM, 0, none⟩)), (2, .pointer (some ⟨bO, 0, none⟩)), (3, .pointer (some ⟨bF, 0, none⟩)), (9, .slice sa KI.length cap), (10, int KI.length), (11, int x.1)])
    (fun x wr => x.1 ≤ KS.length ∧ CI w0 bM bO bF B2 wr (acc ++ foldK d F (KS.take x.1)) x.2) (fun x => KS.length - x.1) (0, v)
    ⟨rfl, rfl, rfl, rfl, rfl, rfl, trivial⟩ ⟨Nat.zero_le _, by simpa [foldK] using I⟩ ?_
  rintro ⟨i, vO⟩ wr ⟨hi, J⟩
  dsimp only at hi J ⊢
  by_cases hlt : i < KS.length
  · obtain ⟨b, off, rfl⟩ := hp (by omega)
    obtain ⟨c, hc1⟩ : ∃ c, KS[i]? = some c := ⟨_, List.getElem?_eq_getElem hlt⟩
    have hcI : KI[i]? = some c.id := by rw [hKIm, List.getElem?_map, hc1]; rfl
    have hS1 : SlG Tt w0 (.slice (some ⟨b, off, none⟩) KI.length cap) KI := by have := hk id; rw [he, ← hKI] at this; exact this
    have hcx := int_elem (hS1.ext J.ext) hcI
    obtain ⟨hcm, hcp⟩ : c ∈ d.notes ∧ c.parent = id := by
      have := List.mem_of_getElem? hc1
      rw [hKS] at this
      obtain ⟨e1, e2⟩ := List.mem_filter.1 this
      exact ⟨e1, by simpa using e2⟩
    obtain ⟨kc, hkc, hlk⟩ := child_up h ha hak hcm hcp
    have hsn := foldK_snoc (d := d) (F := F) hc1
    have hl1 := foldK_len (d := d) (F := F) (l := KS) (i + 1)
    rw [hsn, List.length_append, List.length_cons] at hl1
    have hJo := J.out
    have hJf := J.fn
    have hown := J.own
    have hbig := J.big
    (repeat' (first | refine eV rfl rfl (val_indexAddr (m := i) rfl rfl rfl rfl (by omega)) ?_ | refine eV rfl rfl (val_load rfl rfl rfl hcx) ?_ | refine eV rfl rfl (val_load rfl rfl rfl (hJo.cellAt rfl)) ?_ | (refine EL_append (news := [int c.id]) rfl rfl rfl rfl (own_ext hown xS) rfl rS.at rfl rfl rfl (by omega) (by simp only [List.length_append]; omega) (by simp only [List.length_append]; omega) (by have := xS.size; omega) (fun vJ wJ oJ kJ => ?_)) | (refine at_EL ?_; first | refine eN ?_ | refine eV rfl rfl (zA rfl rfl) ?_ | refine eV rfl rfl (zB rfl rfl) ?_ | (refine at_bin ?_; first | refine eD rfl rfl (zL rfl rfl rfl) (fun hh => ?_) (fun hh => ?_)) | refine eL rfl rfl rfl rfl rfl rfl rfl rfl (fun bS wS xS hbS rS => ?_)) | (refine at_K ?_; first | refine K_then ?_ | refine K_then_exit ?_ | refine K_in_exit ?_) | (refine at_E ?_; first | refine E_seq ?_ | refine E_region ?_ | refine E_cond_t rfl ?_ | refine E_cond_f rfl ?_ | refine E_block ?_ | refine E_skip ?_ | refine E_exit ?_)))
    all_goals (first | (exfalso; omega) | skip)
    have hkb : ∀ bb, vO.ownBlock = some bb → B2 ≤ bb := fun bb e => (hown.lt bb e).1
    have hno : some bO ≠ vO.ownBlock := fun e => by have := hkb bO e.symm; omega
    have hnf : some bF ≠ vO.ownBlock := fun e => by have := hkb bF e.symm; omega
    have rO := kJ.row (hJo.ext xS) hno
    have rF := kJ.row (hJf.ext xS) hnf
    have hsz := J.ext.size
    have xJ : Ext w0 wJ := kJ.ext (J.ext.trans xS) (fun bb e => by have := hkb bb e; omega)
    have hbigJ : B2 ≤ wJ.heap.size := by have := Kb.size kJ; have := xS.size; omega
    obtain ⟨gJ, capJ, tJ, rfl, hJ1, hJ2, hJ3, hJ4, hJ5⟩ := own_open oJ (by omega)
    refine EL_store (v := .slice (some ⟨gJ, 0, none⟩) _ capJ) rfl rfl rfl rfl rfl rfl rfl rO (Nat.le_refl _) (fun w5 r5 k5 s5 => ?_)
    have rO5 : Row w5 bO 22 [.slice (some ⟨gJ, 0, none⟩) _ capJ] := r5
    have rF5 := k5.row rF (fun e => hne (Option.some.inj e).symm)
    have o5 := oJ.kept k5 (Or.inr (fun e => by have : gJ = bO := Option.some.inj e; omega))
    have x5 : Ext w0 w5 := k5.ext xJ (fun bb e => by cases e; exact h1)
    have hI5 : CI w0 bM bO bF B2 w5 (acc ++ foldK d F (KS.take i) ++ [c.id]) _ := ⟨x5, by omega, rF5, rO5, by simpa [Nat.add_assoc] using o5⟩
    have cI := ih c.id c kc (acc ++ foldK d F (KS.take i) ++ [c.id]) _ w5 (get_mem (ids_rise h) hcm) hkc (by omega) (by simp only [List.length_append, List.length_cons, List.length_nil]; omega) hI5
    (repeat' (first | refine eV rfl rfl (val_load rfl rfl rfl (rF5.cellAt rfl)) ?_ | (refine EL_call rfl rfl (entersC (cap := [.pointer (some ⟨bM, 0, none⟩), .pointer (some ⟨bO, 0, none⟩), .pointer (some ⟨bF, 0, none⟩)]) rfl rfl rfl en105) cI (fun vC wC hC => ?_); obtain ⟨v', J'⟩ := hC) | (refine at_EL ?_; first | refine eN ?_ | refine eV rfl rfl (zA rfl rfl) ?_ | (refine at_bin ?_; first | refine eV rfl rfl (zU rfl rfl rfl (by omega) (by omega)) ?_)) | (refine at_K ?_; first | refine K_then ?_ | refine K_in ?_) | (refine at_E ?_; first | refine E_region ?_)))
    refine K_rnd (i + 1, v') ⟨rfl, rfl, rfl, rfl, rfl, rfl, trivial⟩ ⟨by dsimp only; omega, ?_⟩ (by dsimp only; omega)
    dsimp only
    rw [hsn]
    simpa using J'
  · obtain rfl : i = KS.length := by omega
    rw [List.take_length] at J
    (repeat' (first | (refine at_EL ?_; first | refine eN ?_ | (refine at_bin ?_; first | refine eD rfl rfl (zL rfl rfl rfl) (fun hh => ?_) (fun hh => ?_))) | (refine at_K ?_; first | refine K_then ?_ | refine K_then_exit ?_ | refine K_in_exit ?_) | (refine at_E ?_; first | refine E_seq ?_ | refine E_region ?_ | refine E_cond_t rfl ?_ | refine E_cond_f rfl ?_ | refine E_block ?_ | refine E_skip ?_ | refine E_exit ?_)))
    all_goals (first | (exfalso; omega) | skip)
    exact ret_n (ret_0 rfl ⟨_, J⟩)
end Go.Proofs.YtnifmbbpfdghmaaGreatDoor
namespace Go.Proofs.YtnifmbbpfdghmaaGreatDoor
open Go.RowKit Go.En
theorem filter_yes {α : Type} {p : α → Bool} {l : List α} {i : Nat} {x : α} (h : l[i]? = some x) (hp : p x = true) : (l.take (i + 1)).filter p = (l.take i).filter p ++ [x] := by
  obtain ⟨hi, rfl⟩ := List.getElem?_eq_some_iff.1 h
  rw [List.take_succ_eq_append_getElem hi, List.filter_append]
  simp [hp]
theorem filter_no {α : Type} {p : α → Bool} {l : List α} {i : Nat} {x : α} (h : l[i]? = some x) (hp : p x = false) : (l.take (i + 1)).filter p = (l.take i).filter p := by
  obtain ⟨hi, rfl⟩ := List.getElem?_eq_some_iff.1 h
  rw [List.take_succ_eq_append_getElem hi, List.filter_append]
  simp [hp]
theorem app_exB {P : Program} {w : World} (t ty : TypeId) {e : TypeId} {z : Value} {size bytes : Nat} [ut : UT P t (.slice e)] [ti : TI P e z size bytes] {v : Value} {B m : Nat} {xs : List Value} {b off q : Nat} (c : Nat) {news : List Value}
    (hown : w.ownsRow B e size v m xs) (hB : B ≤ w.heap.size) (hat : At w b off news) (hl : news.length = q * size)
    (h1 : news.all Value.oneCell' = true) (hz : z.cells.size = size) (hsz : Nat.ble 1 size = true) (hmax : (m + q) * bytes ≤ 140737488355328) (hmax' : m + q ≤ 9223372036854775807) :
    ∃ v' w', (Builtin.append_ #[t, t] ty #[v, .slice (some ⟨b, off, none⟩) q c]).run P w = .ok v' w' ∧ w'.ownsRow B e size v' (m + q) (xs ++ news) ∧ Kb v.ownBlock w w' ∧ (v'.ownBlock = v.ownBlock ∨ v'.ownBlock = some w.heap.size) := by
  obtain ⟨i0, hi, hz0, hz1, hz2⟩ := info_parts ti.i
  obtain ⟨v', w', hr, h2, h3, _, h4⟩ := run_append_own_at (P := P) (w := w) (ty := ty) B t e i0 z size bytes ut.u hi hz0 hz1 hz2 hz (Nat.le_of_ble_eq_true hsz) v m xs hown ⟨b, off, none⟩ q c news hl (fun j u hu => by rw [addr_add]; exact hat j u hu)
    (fun u hu => List.all_eq_true.1 h1 u hu) (by unfold maxLen; omega) hmax hB
  exact ⟨v', w', hr, h2, h3, h4⟩
/-- the notes up to i with a parent -/
def kidsT (d : Dc) (i : Nat) (k : Int) : List Int := ((d.notes.take i).filter fun n => decide (n.parent = k)).map fun n => n.id
theorem kidsT_all (d : Dc) (k : Int) : kidsT d d.notes.length k = kidsI d k := by
  unfold kidsT kidsI kidsM
  rw [List.take_length]
theorem kidsT_yes {d : Dc} {i : Nat} {q : Note} (h : d.notes[i]? = some q) : kidsT d (i + 1) q.parent = kidsT d i q.parent ++ [q.id] := by
  unfold kidsT
  rw [filter_yes h (by simp), List.map_append]; rfl
theorem kidsT_no {d : Dc} {i : Nat} {q : Note} {k : Int} (h : d.notes[i]? = some q) (hk : k ≠ q.parent) : kidsT d (i + 1) k = kidsT d i k := by
  unfold kidsT
  rw [filter_no h (by simp; exact fun e => hk e.symm)]
theorem kidsT_len (d : Dc) (i : Nat) (k : Int) : (kidsT d i k).length ≤ d.notes.length := by
  unfold kidsT
  rw [List.length_map]
  exact Nat.le_trans (List.length_filter_le _ _) (by rw [List.length_take]; omega)
/-- the map so far -/
structure KF (d : Dc) (i : Nat) (Bw : Nat) (w : World) (f : Int → Option Value) : Prop where
  none_ : ∀ k, f k = none → kidsT d i k = []
  some_ : ∀ k v, f k = some v → w.ownsRow Bw 3 1 v (kidsT d i k).length ((kidsT d i k).map int) ∧ 0 < (kidsT d i k).length
  apart : ∀ k k' v v', k ≠ k' → f k = some v → f k' = some v' → v.ownBlock ≠ v'.ownBlock
theorem own_some {w : World} {B : Nat} {e : TypeId} {size n : Nat} {v : Value} {xs : List Value} (h : w.ownsRow B e size v n xs) (h0 : 0 < n) : ∃ b, v.ownBlock = some b := by
  obtain ⟨g, cap, tail, rfl, _⟩ := own_open h h0
  exact ⟨g, rfl⟩
theorem KF.get {d : Dc} {i Bw : Nat} {w : World} {f : Int → Option Value} (h : KF d i Bw w f) (k : Int) : w.ownsRow Bw 3 1 ((f k).getD (.slice none 0 0)) (kidsT d i k).length ((kidsT d i k).map int) := by
  cases hf : f k with
  | none => rw [h.none_ k hf]; exact World.ownsRow_nil _ _ _ _
  | some v => exact (h.some_ k v hf).1
theorem KF.next {d : Dc} {i Bw r : Nat} {w w1 w2 w3 : World} {f : Int → Option Value} {q : Note} {v' : Value} (h : KF d i Bw w f) (hq : d.notes[i]? = some q) (hr : r < Bw) (x1 : Ext w w1) (k2 : Kb ((f q.parent).getD (.slice none 0 0)).ownBlock w1 w2) (k3 : Kb (some r) w2 w3)
    (ho : w2.ownsRow Bw 3 1 v' ((kidsT d i q.parent).length + 1) ((kidsT d i q.parent).map int ++ [int q.id])) (hb : v'.ownBlock = ((f q.parent).getD (.slice none 0 0)).ownBlock ∨ v'.ownBlock = some w1.heap.size) : KF d (i + 1) Bw w3 (fun j => if j = q.parent then some v' else f j) := by
  have kept3 : ∀ {v : Value} {n : Nat} {xs : List Value}, w2.ownsRow Bw 3 1 v n xs → w3.ownsRow Bw 3 1 v n xs := fun {v n xs} hv => hv.kept k3 (Or.inr (fun e => by have := (hv.lt r e).1; omega))
  have old : ∀ k v, k ≠ q.parent → f k = some v → w3.ownsRow Bw 3 1 v (kidsT d i k).length ((kidsT d i k).map int) := fun k v hk hv => by
    have h1 := own_ext (h.some_ k v hv).1 x1
    refine kept3 (h1.kept k2 ?_)
    cases hp : f q.parent with
    | none =>
      right
      obtain ⟨b, hb'⟩ := own_some h1 (h.some_ k v hv).2
      rw [hb']
      intro e; cases e
    | some v0 => exact Or.inr (h.apart k q.parent v v0 hk hv hp)
  have sep : ∀ k v, k ≠ q.parent → f k = some v → v.ownBlock ≠ v'.ownBlock := fun k v hk hv e => by
    have h1 := (h.some_ k v hv)
    obtain ⟨b, hb'⟩ := own_some h1.1 h1.2
    rcases hb with hb | hb
    · cases hp : f q.parent with
      | none =>
        rw [hp] at hb
        rw [e, hb] at hb'
        cases hb'
      | some v0 =>
        rw [hp] at hb
        exact h.apart k q.parent v v0 hk hv hp (e.trans hb)
    · rw [e, hb] at hb'
      have hlt := (h1.1.lt b (by rw [e, hb]; exact hb')).2
      have := x1.size
      cases hb'
      omega
  refine ⟨fun k hk => ?_, fun k v hv => ?_, fun k k' v u hne hv hu => ?_⟩
  · by_cases he : k = q.parent
    · rw [if_pos he] at hk; cases hk
    · rw [if_neg he] at hk
      rw [kidsT_no hq he]; exact h.none_ k hk
  · by_cases he : k = q.parent
    · rw [if_pos he] at hv; cases hv
      subst he
      rw [kidsT_yes hq, List.length_append, List.map_append]
      exact ⟨kept3 ho, by simp⟩
    · rw [if_neg he] at hv
      rw [kidsT_no hq he]
      exact ⟨old k v he hv, (h.some_ k v hv).2⟩
  · by_cases he : k = q.parent
    · rw [if_pos he] at hv; cases hv
      by_cases he' : k' = q.parent
      · exact absurd (he.trans he'.symm) hne
      · rw [if_neg he'] at hu
        exact fun e => sep k' u he' hu e.symm
    · rw [if_neg he] at hv
      by_cases he' : k' = q.parent
      · rw [if_pos he'] at hu; cases hu
        exact sep k v he hv
      · rw [if_neg he'] at hu
        exact h.apart k k' v u hne hv hu
theorem KF.ext {d : Dc} {i Bw : Nat} {w w' : World} {f : Int → Option Value} (h : KF d i Bw w f) (x : Ext w w') : KF d i Bw w' f :=
  ⟨h.none_, fun k v hv => ⟨own_ext (h.some_ k v hv).1 x, (h.some_ k v hv).2⟩, h.apart⟩
attribute [local irreducible] E EL K Val Enters Rt Calls bodyPost Code.wp RQ
set_option maxHeartbeats 8000000 in
set_option maxRecDepth 8000 in
theorem under_pre {d : Dc} (h : LightD d) (hs39 : ∀ (l : List Int) (v : Value) (w : World), Sl w v l → l.Nodup → l.length ≤ 14 → Calls Tryz.prog 106 #[v] w (Rt fun u w' => Ext w w' ∧ Sl w' u (l.mergeSort (fun x y => decide (x ≤ y))))) (v : Value) (id : Int) (w : World) (hv : DcAt w v d) : Calls Tryz.prog 62 #[v, int id] w (Rt fun u w' => Ext w w' ∧ Sl w' u (underR d id)) := by
  have hd0 := hv
  have hN := h.nnotes
  obtain ⟨sv, tv, nv, rfl, _, ht, hn⟩ := hv
  refine calls_E (n := 46) (args := [.agg #[int d.rid, str d.rname, int d.len, int d.day, sv, tv, nv], int id]) Tryz.func62 rfl Tryz.ntmps62 (by simp) ?_
  have hn0 := hn
  obtain ⟨a, cap, rfl, hc, hm, hp⟩ := hn.sl
  refine E_seq ?_
  refine E_region ?_
  refine EL_box rfl rfl rfl rfl (fun bD wD xD hbD rD0 => ?_)
  have rD : Row wD bD 28 [int d.rid, str d.rname, int d.len, int d.day, sv, tv, .slice a d.notes.length cap] := rD0
  clear rD0
  (repeat' (first | refine EL_makeMap rfl rfl rfl (fun r wR hr mR xR => ?_) | (refine at_EL ?_; first | refine eN ?_ | refine eV rfl rfl (zB rfl rfl) ?_) | (refine at_K ?_; first | refine K_then ?_) | (refine at_E ?_; first | refine E_seq ?_ | refine E_region ?_)))
  refine EL_alloc rfl rfl rfl (fun bM wM xM hbM rM0 => ?_)
  refine EL_storeP (cs := [.map (some r)]) rM0 (xR.trans xM) (by have := xR.size; omega) rfl rfl rfl rfl rfl rfl rfl rfl (Nat.le_refl _) (fun w3 rM1 x3 k3 => ?_)
  have rM : Row w3 bM 119 [.map (some r)] := rM1
  have hrM : r ≠ bM := fun e => by have := mR.lt; omega
  have mM : MapF w3 r (fun _ => none) := (mR.ext xM).kb k3 (fun e => hrM (Option.some.inj e))
  have hrlt : r < w3.heap.size := mM.lt
  have hblt : bM < w3.heap.size := rM.lt
  have hrD : wD.heap.size ≤ r := by omega
  have hbD2 : wD.heap.size ≤ bM := by have := xR.size; omega
  clear rM0 rM1 k3 mR
  have rD3 := rD.ext x3
  (repeat' (first | refine eV rfl rfl (val_load rfl rfl rfl (rD3.cellAt rfl)) ?_ | (refine at_EL ?_; first | refine eN ?_ | refine eV rfl rfl (zA rfl rfl) ?_ | (refine at_call ?_; first | refine eV rfl rfl (zK rfl rfl) ?_) | refine eV rfl rfl (zH rfl rfl) ?_) | (refine at_K ?_; first | refine K_then ?_) | (refine at_E ?_; first | refine E_seq ?_ | refine E_region ?_ | refine E_block ?_)))
  obtain ⟨Bw, hBw⟩ : ∃ Bw, Bw = w3.heap.size := ⟨_, rfl⟩
  rw [← hBw] at hrlt hblt
  refine E_loop (ι := Nat × (Int → Option Value)) (fun x => [(1, int id), (2, .pointer (some ⟨bD, 0, none⟩)), (5, .pointer (some ⟨bM, 0, none⟩)), (14, .slice a d.notes.length cap), (15, int d.notes.length), (16, int x.1)])
    (fun x wr => x.1 ≤ d.notes.length ∧ Ext wD wr ∧ Bw ≤ wr.heap.size ∧ Row wr bM 119 [.map (some r)] ∧ MapF wr r x.2 ∧ KF d x.1 Bw wr x.2) (fun x => d.notes.length - x.1) (0, fun _ => none)
    ⟨rfl, rfl, rfl, rfl, rfl, rfl, trivial⟩ ⟨Nat.zero_le _, x3, by omega, rM, mM, ⟨fun _ _ => rfl, fun _ _ e => (by cases e), fun _ _ _ _ _ e => (by cases e)⟩⟩ ?_
  rintro ⟨i, f⟩ wr ⟨hi, hx, hBr, rMr, mr, kf⟩
  dsimp only at hi hx rMr mr kf ⊢
  have rDr := rD.ext hx
  have hXr := xD.trans hx
  by_cases hlt : i < d.notes.length
  · obtain ⟨b, off, rfl⟩ := hp (by omega)
    obtain ⟨q, hq⟩ : ∃ q, d.notes[i]? = some q := ⟨_, List.getElem?_eq_getElem hlt⟩
    have hat := note_elem (hn0.ext hXr) hq
    (repeat' (first | refine eV rfl rfl (val_indexAddr (m := i) rfl rfl rfl rfl (by omega)) ?_ | refine eV rfl rfl (val_loadA rfl rfl rfl hat rfl) ?_ | (refine at_EL ?_; first | refine eN ?_ | (refine at_bin ?_; first | refine eD rfl rfl (zL rfl rfl rfl) (fun hh => ?_) (fun hh => ?_))) | (refine at_K ?_; first | refine K_then ?_ | refine K_then_exit ?_ | refine K_in_exit ?_) | (refine at_E ?_; first | refine E_seq ?_ | refine E_region ?_ | refine E_cond_t rfl ?_ | refine E_cond_f rfl ?_ | refine E_block ?_ | refine E_skip ?_ | refine E_exit ?_)))
    all_goals (first | (exfalso; omega) | skip)
    refine EL_alloc rfl rfl rfl (fun b7 w7 x7 hb7 r7 => ?_)
    refine EL_storeP (cs := noteC q) r7 x7 (by omega) rfl rfl rfl rfl rfl rfl rfl rfl (Nat.le_refl _) (fun w8 r8' x8 k8 => ?_)
    have r8 : Row w8 b7 74 (noteC q) := r8'
    have hb78 : b7 < w8.heap.size := r8.lt
    have hb7r : wr.heap.size ≤ b7 := by omega
    clear r8' r7 k8
    have rM8 := rMr.ext x8
    have m8 := mr.ext x8
    have kf8 := kf.ext x8
    have hx8 := hx.trans x8
    have hB8 : Bw ≤ w8.heap.size := by have := x8.size; omega
    refine EL_nil ?_
    refine K_then ?_
    obtain ⟨v0, hv0⟩ : ∃ v0, v0 = (f q.parent).getD (.slice none 0 0) := ⟨_, rfl⟩
    have own0 := kf.get q.parent
    rw [← hv0] at own0
    have hol := kidsT_len d i q.parent
    have xd := ext_drew w8
    obtain ⟨w1, hw1⟩ : ∃ w1, w1 = w8.drew.alloc (.cells [int q.id].toArray 3) := ⟨_, rfl⟩
    have x1 : Ext w8.drew w1 := hw1 ▸ ext_alloc _ _
    have rL : Row w1 w8.drew.heap.size 3 [int q.id] := by rw [hw1]; exact row_alloc _ _ _
    have x81 := xd.trans x1
    have own1 := own_ext own0 (x8.trans x81)
    obtain ⟨v', w2, hrun, ho2, k2, hb2⟩ := app_exB (P := Tryz.prog) 22 22 1 (news := [int q.id]) own1 (by have := x81.size; omega) rL.at rfl rfl rfl rfl (by omega) (by omega)
    have hrne : ∀ bb, bb < Bw → some bb ≠ v0.ownBlock := fun bb hlt e => by have := (own0.lt bb e.symm).1; omega
    have h7ne : some b7 ≠ v0.ownBlock := fun e => by have := (own0.lt b7 e.symm).2; omega
    have m2 := (m8.ext x81).kb k2 (hrne r hrlt)
    obtain ⟨w4, mu, k4, hst⟩ := mapUpd_ex (P := Tryz.prog) (t := 119) (v := v') (k := q.parent) inferInstance inferInstance m2
    have rMd := rM8.ext xd
    have rM1 := rM8.ext x81
    have rM2 := k2.row rM1 (hrne bM hblt)
    have r7d := r8.ext xd
    have r71 := r8.ext x81
    have r72 := k2.row r71 h7ne
    have rM4 := k4.row rM2 (fun e => hrM (Option.some.inj e).symm)
    have hx4 : Ext wD w4 := k4.ext (k2.ext (hx8.trans x81) (fun bb e => by have := (own0.lt bb e).1; omega)) (fun bb e => by cases e; omega)
    have kf4 := kf.next hq hrlt (x8.trans x81) (hv0 ▸ k2) k4 (by simpa using ho2) (hv0 ▸ hb2)
    have hB4 : Bw ≤ w4.heap.size := by have := Kb.size k4; have := Kb.size k2; have := x81.size; omega
    refine E.sub (M := [(1, int id), (2, .pointer (some ⟨bD, 0, none⟩)), (5, .pointer (some ⟨bM, 0, none⟩)), (7, .pointer (some ⟨b7, 0, none⟩)), (14, .slice (some ⟨b, off, none⟩) d.notes.length cap), (15, int d.notes.length), (16, int i)]) ⟨rfl, rfl, rfl, rfl, rfl, rfl, rfl, trivial⟩ ?_
    refine E_steps (fun p => match p with | 0 => w8.drew | 1 => w1 | 2 => w2 | _ => w4)
      [some (20, .map (some r)), some (21, .pointer (some ⟨b7, 0 + 2, none⟩)), some (22, int q.parent), some (23, .map (some r)), some (24, .pointer (some ⟨b7, 0 + 2, none⟩)), some (25, int q.parent), some (26, v0), some (27, .pointer (some ⟨b7, 0 + 0, none⟩)), some (28, int q.id), some (29, .slice (some ⟨w8.drew.heap.size, 0, none⟩) 1 1), some (30, v'), none]
      [(0, 2, true), (0, 2, true), (0, 2, true), (0, 1, true), (0, 1, true), (0, 1, true), (0, 1, true), (0, 0, true), (0, 0, true), (0, 0, false), (1, 0, false), (2, 0, false)]
      [9, 10, 11] mixedOk (by kernel_rfl) (by decide) rfl rfl rfl rfl
      ⟨fun p _ hp => (match p, hp with
          | 0, _ => val_load rfl rfl rfl (rMd.cellAt rfl)
          | 1, _ => val_load rfl rfl rfl (rM1.cellAt rfl)
          | 2, _ => val_load rfl rfl rfl (rM2.cellAt rfl)
          | p + 3, hp => absurd hp (by omega)),
        fun _ _ _ => zH rfl rfl,
        fun p _ hp => (match p, hp with
          | 0, _ => val_load rfl rfl rfl (r7d.cellAt rfl)
          | 1, _ => val_load rfl rfl rfl (r71.cellAt rfl)
          | 2, _ => val_load rfl rfl rfl (r72.cellAt rfl)
          | p + 3, hp => absurd hp (by omega)),
        fun p _ hp => (match p, hp with
          | 0, _ => val_load rfl rfl rfl (rMd.cellAt rfl)
          | 1, _ => val_load rfl rfl rfl (rM1.cellAt rfl)
          | p + 2, hp => absurd hp (by omega)),
        fun _ _ _ => zH rfl rfl,
        fun p _ hp => (match p, hp with
          | 0, _ => val_load rfl rfl rfl (r7d.cellAt rfl)
          | 1, _ => val_load rfl rfl rfl (r71.cellAt rfl)
          | p + 2, hp => absurd hp (by omega)),
        fun p _ hp => (match p, hp with
          | 0, _ => hv0 ▸ val_lookup (m8.ext xd) rfl rfl rfl
          | 1, _ => hv0 ▸ val_lookup (m8.ext x81) rfl rfl rfl
          | p + 2, hp => absurd hp (by omega)),
        fun _ _ _ => zH rfl rfl,
        fun p _ hp => (match p, hp with
          | 0, _ => val_load rfl rfl rfl (r7d.cellAt rfl)
          | p + 1, hp => absurd hp (by omega)),
        fun ρ ha => hw1 ▸ run_lit (vs := [int q.id]) (cs := [int q.id]) rfl rfl rfl rfl rfl rfl ha,
        step_app rfl rfl rfl hrun,
        hst _ _ _ _ _ rfl rfl rfl rfl, trivial⟩ ?_
    refine at_K (w := w4) ?_
    (repeat' (first | (refine at_EL ?_; first | refine eN ?_ | refine eV rfl rfl (zA rfl rfl) ?_ | (refine at_bin ?_; first | refine eV rfl rfl (zU rfl rfl rfl (by omega) (by omega)) ?_)) | (refine at_K ?_; first | refine K_then ?_ | refine K_in ?_) | (refine at_E ?_; first | refine E_region ?_)))
    exact K_rnd (i + 1, fun j => if j = q.parent then some v' else f j) ⟨rfl, rfl, rfl, rfl, rfl, rfl, trivial⟩ ⟨by dsimp only; omega, hx4, hB4, rM4, mu, kf4⟩ (by dsimp only; omega)
  · obtain rfl : i = d.notes.length := by omega
    have cg := tget_any d _ id wr (hd0.ext hXr)
    cases hg : getF d.notes id with
    | none =>
      rw [getR_none hg] at cg
      (repeat' (first | refine eV rfl rfl (val_loadA rfl rfl rfl rDr.at rfl) ?_ | (refine EL_call rfl rfl (entersF rfl rfl en82) cg (fun vC wC hC => ?_); obtain ⟨rfl, xC⟩ := hC) | (refine at_EL ?_; first | refine eN ?_ | refine eV rfl rfl (zA rfl rfl) ?_ | (refine at_bin ?_; first | refine eD rfl rfl (zL rfl rfl rfl) (fun hh => ?_) (fun hh => ?_)) | refine eV rfl rfl (zF rfl rfl rfl) ?_) | (refine at_K ?_; first | refine K_then ?_ | refine K_then_exit ?_ | refine K_in_exit ?_) | (refine at_E ?_; first | refine E_seq ?_ | refine E_region ?_ | refine E_cond_t rfl ?_ | refine E_cond_f rfl ?_ | refine E_block ?_ | refine E_skip ?_ | refine E_exit ?_)))
      all_goals (first | (exfalso; omega) | skip)
      refine EL_alloc rfl rfl rfl (fun bP wP xP hbP rP0 => ?_)
      refine EL_storeP (cs := noteC zeroN) rP0 xP (by omega) rfl rfl rfl rfl rfl rfl rfl rfl (Nat.le_refl _) (fun w4 rP1 x4 k4 => ?_)
      (repeat' (first | (refine at_EL ?_; first | refine eN ?_ | refine eV rfl rfl (zA rfl rfl) ?_ | refine eV rfl rfl (zB rfl rfl) ?_ | refine eV rfl rfl (zE rfl rfl) ?_) | (refine at_K ?_; first | refine K_then ?_ | refine K_then_ret ?_) | (refine at_E ?_; first | refine E_seq ?_ | refine E_region ?_ | refine E_cond_t rfl ?_ | refine E_ret ?_)))
      exact ret_1 rfl rfl ⟨hXr.trans (xC.trans x4), by rw [under_none h hg]; exact SlG.nil⟩
    | some p =>
      rw [getR_val hg] at cg
      (repeat' (first | refine eV rfl rfl (val_loadA rfl rfl rfl rDr.at rfl) ?_ | (refine EL_call rfl rfl (entersF rfl rfl en82) cg (fun vC wC hC => ?_); obtain ⟨rfl, xC⟩ := hC) | (refine at_EL ?_; first | refine eN ?_ | refine eV rfl rfl (zA rfl rfl) ?_ | (refine at_bin ?_; first | refine eD rfl rfl (zL rfl rfl rfl) (fun hh => ?_) (fun hh => ?_)) | refine eV rfl rfl (zF rfl rfl rfl) ?_) | (refine at_K ?_; first | refine K_then ?_ | refine K_then_exit ?_ | refine K_in_exit ?_) | (refine at_E ?_; first | refine E_seq ?_ | refine E_region ?_ | refine E_cond_t rfl ?_ | refine E_cond_f rfl ?_ | refine E_block ?_ | refine E_skip ?_ | refine E_exit ?_)))
      all_goals (first | (exfalso; omega) | skip)
      refine EL_alloc rfl rfl rfl (fun bP wP xP hbP rP0 => ?_)
      refine EL_storeP (cs := noteC p) rP0 xP (by omega) rfl rfl rfl rfl rfl rfl rfl rfl (Nat.le_refl _) (fun w4 rP1 x4 k4 => ?_)
      have x4r := xC.trans x4
      clear rP0 rP1 k4
      (repeat' (first | (refine at_EL ?_; first | refine eN ?_ | refine eV rfl rfl (zA rfl rfl) ?_ | refine eV rfl rfl (zB rfl rfl) ?_ | refine eV rfl rfl (zE rfl rfl) ?_) | (refine at_K ?_; first | refine K_then ?_) | (refine at_E ?_; first | refine E_seq ?_ | refine E_region ?_ | refine E_cond_f rfl ?_ | refine E_skip ?_)))
      refine EL_alloc rfl rfl rfl (fun bO w5 x5 hbO rO0 => ?_)
      have rO : Row w5 bO 22 [.slice none 0 0] := rO0
      (repeat' (first | (refine at_EL ?_; first | refine eN ?_) | (refine at_K ?_; first | refine K_then ?_) | (refine at_E ?_; first | refine E_seq ?_ | refine E_region ?_)))
      refine EL_alloc rfl rfl rfl (fun bF w6 x6 hbF rF0 => ?_)
      have rF : Row w6 bF 120 [.nilFunc] := rF0
      clear rO0 rF0
      obtain ⟨k0, hk0, hk0l⟩ := note_lt h (get_some hg).1
      have x46 := x5.trans x6
      (repeat' (first | refine eV rfl rfl (val_makeFunc (vs := [.pointer (some ⟨bM, 0, none⟩), .pointer (some ⟨bO, 0, none⟩), .pointer (some ⟨bF, 0, none⟩)]) rfl rfl) ?_ | (refine at_EL ?_; first | refine eN ?_) | (refine at_K ?_; first | refine K_then ?_) | (refine at_E ?_; first | refine E_seq ?_ | refine E_region ?_)))
      refine EL_storeP (cs := [.func (.func 105) #[] #[.pointer (some ⟨bM, 0, none⟩), .pointer (some ⟨bO, 0, none⟩), .pointer (some ⟨bF, 0, none⟩)] ]) rF x6 (by omega) rfl rfl rfl rfl rfl rfl rfl rfl (Nat.le_refl _) (fun w7 rF7 x7 k7 => ?_)
      have rF7' : Row w7 bF 120 [.func (.func 105) #[] #[.pointer (some ⟨bM, 0, none⟩), .pointer (some ⟨bO, 0, none⟩), .pointer (some ⟨bF, 0, none⟩)] ] := rF7
      have rO7 := rO.ext x7
      have x47 := x5.trans x7
      have hO4 : w4.heap.size ≤ bO := by omega
      have hF4 : w4.heap.size ≤ bF := by have := x5.size; omega
      have hO7 : bO < w7.heap.size := rO7.lt
      have hF7 : bF < w7.heap.size := rF7'.lt
      have hOF : bO ≠ bF := fun e => by have := rO.lt; omega
      have hkk : ∀ k, Sl w4 ((f k).getD (.slice none 0 0)) (kidsI d k) := fun k => by
        have := own_ext (kf.get k) x4r
        rw [kidsT_all] at this
        exact own_Sl (css := (kidsI d k).map fun z => [int z]) (by rw [ints_flat]; exact this) (ints_ats _ _) rfl (by have := kidsT_len d d.notes.length k; rw [kidsT_all] at this; omega)
      have hdl := dfs_len h d.tiers.length id p k0 hg hk0 (by omega)
      have cC := collect_any h (rMr.ext x4r) (mr.ext x4r) hkk hO4 hO7 hF4 hF7 hOF d.tiers.length id p k0 [] (.slice none 0 0) w7 hg hk0 (by omega) (by simp; omega) ⟨x47, Nat.le_refl _, rF7', rO7, World.ownsRow_nil _ _ _ _⟩
      (repeat' (first | refine eV rfl rfl (val_load rfl rfl rfl (rF7'.cellAt rfl)) ?_ | (refine EL_call rfl rfl (entersC (cap := [.pointer (some ⟨bM, 0, none⟩), .pointer (some ⟨bO, 0, none⟩), .pointer (some ⟨bF, 0, none⟩)]) rfl rfl rfl en105) cC (fun vC wE hE => ?_); obtain ⟨v', J⟩ := hE) | (refine at_EL ?_; first | refine eN ?_ | refine eV rfl rfl (zA rfl rfl) ?_) | (refine at_K ?_; first | refine K_then ?_) | (refine at_E ?_; first | refine E_seq ?_ | refine E_region ?_)))
      have hJ := J.own
      rw [List.nil_append] at hJ
      have hJo := J.out
      have sJ : Sl wE v' (dfsN d.notes d.tiers.length id) := own_Sl (css := (dfsN d.notes d.tiers.length id).map fun z => [int z]) (by rw [ints_flat]; exact hJ) (ints_ats _ _) (by simp) (by omega)
      have cS := hs39 _ v' wE sJ (dfs_nodup h d.tiers.length id p k0 hg hk0 (by omega)) hdl
      rw [under_sort h hg hk0 d.tiers.length (Nat.le_refl _)] at cS
      have xE := J.ext
      (repeat' (first | refine eV rfl rfl (val_load rfl rfl rfl (hJo.cellAt rfl)) ?_ | (refine EL_call rfl rfl (entersF rfl rfl en106) cS (fun vS wS hS => ?_); obtain ⟨xS, sS⟩ := hS) | (refine at_EL ?_; first | refine eN ?_ | refine eV rfl rfl (zB rfl rfl) ?_) | (refine at_K ?_; first | refine K_then ?_) | (refine at_E ?_; first | refine E_ret ?_)))
      exact ret_1 rfl rfl ⟨hXr.trans (x4r.trans (xE.trans xS)), sS⟩
end Go.Proofs.YtnifmbbpfdghmaaGreatDoor
namespace Go.Proofs.YtnifmbbpfdghmaaGreatDoor
open Go.RowKit Go.Shelf Go.Lib
attribute [local go_sem] Oper.semAt_some
def upTo {α : Type} (f : Nat → α) (k : Nat) : List α := (List.range k).map f
theorem upTo_succ {α : Type} (f : Nat → α) (k : Nat) : upTo f (k + 1) = upTo f k ++ [f k] := by simp [upTo, List.range_succ]
theorem upTo_length {α : Type} (f : Nat → α) (k : Nat) : (upTo f k).length = k := by simp [upTo]
theorem upTo_all (zs : List Int) : upTo (fun j => zs[j]?.getD 0) zs.length = zs := by
  apply List.ext_getElem
  · simp [upTo]
  · intro i h1 h2
    simp [upTo, h2]
theorem info22 : (Tryz.prog.info? 3).map (fun i => (i.zero, i.size, i.bytes)) = some (some (.int .i64 0), 1, 8) := by kernel_rfl
set_option maxRecDepth 100000 in
set_option maxHeartbeats 2000000 in
theorem values1_in (F : Fence) (n : Nat) (h7 : F.fn 168) (hro : F.round = none) (hn : 1 ≤ n) (l Bs n₀ b off len cap : Nat) (zs : List Int) (hreach : len * 8 ≤ 140737488351232) (hb : b < n₀) (J Jx : List Int → World → Prop)
    (hY : ∀ pre x W, J pre W → pre.length < len → YieldAt F (n - 1) Tryz.prog l #[.int .i64 x] W fun e W' =>
      (e = .returned (.bool true) ∧ J (pre ++ [x]) W' ∧ Below n₀ W W') ∨ (e = .returned (.bool false) ∧ Jx (pre ++ [x]) W'))
    (W : World) (hBs : W.cell? ⟨Bs, 0, none⟩ = some (.slice (some ⟨b, off, none⟩) len cap)) (hc : ∀ j, j < len → W.cell? ⟨b, off + j, none⟩ = some (.int .i64 (zs[j]?.getD 0))) (h0 : J [] W) :
    CallsIn F n Tryz.prog 168 #[.func (.yield l) #[] #[], .pointer (some ⟨Bs, 0, none⟩)] W fun e W' => (∃ v, e = .returned v) ∧
      ((∃ ys, ys = upTo (fun j => zs[j]?.getD 0) len ∧ J ys W') ∨ (∃ pre, (∃ k, k ≤ len ∧ pre = upTo (fun j => zs[j]?.getD 0) k) ∧ Jx pre W')) := by
  refine callsIn_of_wp Tryz.func168 rfl h7 ?_ hro
  simp only [Tryz.ntmps168, List.size_toArray, List.length_cons, List.length_nil, Nat.reduceAdd, Nat.reduceSub, Array.replicate_succ, Array.replicate_zero, List.push_toArray, List.append_toArray, List.nil_append, List.cons_append]
  gi_wp2
  gi_loopw [7] (fun i wr => ∃ k : Nat, k ≤ len ∧ i = .int .i64 k ∧ J (upTo (fun j => zs[j]?.getD 0) k) wr ∧ Below n₀ W wr)
    (fun i _ => len - (intOf i).toNat)
  case atStart => exact ⟨0, Nat.zero_le _, rfl, h0, Below.refl _ _⟩
  case round =>
    obtain ⟨k, hk, rfl, hJs, hnx⟩ := hrel
    have hcx : k < len → wr.cell? ⟨b, off + k, none⟩ = some (.int .i64 (zs[k]?.getD 0)) := fun h => (hnx.cell (p := ⟨b, off + k, none⟩) hb).trans (hc k h)
    by_cases hlt : k < len
    · obtain ⟨fn, tmps, assign, body, hy, hR⟩ := hY _ (zs[k]?.getD 0) wr hJs (by rw [upTo_length]; exact hlt)
      have hcx' := hcx hlt
      gi_wp2
      refine hR.mono ?_
      rintro e W3 (⟨rfl, hJ3, hk3⟩ | ⟨rfl, hJx3⟩)
      · gi_wp2
        go_roundw
        case rel => exact ⟨k + 1, by omega, by simp, by rw [upTo_succ]; exact hJ3, hnx.trans hk3⟩
        case measure => simp [intOf]; omega
      · gi_wp2
        refine bodyPost_ret (results_none rfl _ _ _) rfl ?_
        exact ⟨⟨_, rfl⟩, .inr ⟨_, ⟨k + 1, by omega, (upTo_succ _ _).symm⟩, hJx3⟩⟩
    · obtain rfl : k = len := by omega
      gi_wp2
      go_end0
      exact ⟨⟨_, rfl⟩, .inl ⟨_, rfl, hJs⟩⟩
/-- the slice value holds these numbers, in a block below n₀; or there are none -/
def Ints (n₀ : Nat) (W : World) (sv : Value) (zs : List Int) : Prop :=
  ((∃ a cap, sv = .slice a 0 cap) ∧ zs = []) ∨ ∃ b off cap, sv = .slice (some ⟨b, off, none⟩) zs.length cap ∧ b < n₀ ∧ ∀ j, j < zs.length → W.cell? ⟨b, off + j, none⟩ = some (.int .i64 (zs[j]?.getD 0))
theorem Ints.below {n₀ : Nat} {A B : World} (h : Below n₀ A B) {sv : Value} {zs : List Int} : Ints n₀ A sv zs → Ints n₀ B sv zs
  | .inl e => .inl e
  | .inr ⟨b, off, cap, e, hb, hc⟩ => .inr ⟨b, off, cap, e, hb, fun j hj => (h.cell (p := ⟨b, off + j, none⟩) hb).trans (hc j hj)⟩
set_option maxRecDepth 100000 in
set_option maxHeartbeats 1000000 in
theorem values1_nil_in (F : Fence) (n : Nat) (h7 : F.fn 168) (hro : F.round = none) (l Bs : Nat) (a : Option Addr) (cap : Nat) (J : List Int → World → Prop) (W : World) (hBs : W.cell? ⟨Bs, 0, none⟩ = some (.slice a 0 cap)) (h0 : J [] W) :
    CallsIn F n Tryz.prog 168 #[.func (.yield l) #[] #[], .pointer (some ⟨Bs, 0, none⟩)] W fun e W' => (∃ v, e = .returned v) ∧ J [] W' := by
  refine callsIn_of_wp Tryz.func168 rfl h7 ?_ hro
  simp only [Tryz.ntmps168, List.size_toArray, List.length_cons, List.length_nil, Nat.reduceAdd, Nat.reduceSub, Array.replicate_succ, Array.replicate_zero, List.push_toArray, List.append_toArray, List.nil_append, List.cons_append]
  gi_wp2
  gi_loopw [7] (fun i wr => i = .int .i64 0 ∧ J [] wr) (fun _ _ => 0)
  case atStart => exact ⟨rfl, h0⟩
  case round =>
    obtain ⟨rfl, hJs⟩ := hrel
    gi_wp2
    go_end0
    exact ⟨⟨_, rfl⟩, hJs⟩
theorem values_stops (F : Fence) (n : Nat) (h7 : F.fn 168) (hro : F.round = none) (hn : 1 ≤ n) (Bs n₀ : Nat) (sv : Value) (zs : List Int) (hreach : zs.length * 8 ≤ 140737488351232) (w : World) (hBs : Bs < w.heap.size) (hn₀ : n₀ ≤ w.heap.size)
    (hc : w.cell? ⟨Bs, 0, none⟩ = some sv) (hI : Ints n₀ w sv zs) :
    SeqStopsK F n Tryz.prog 168 #[.pointer (some ⟨Bs, 0, none⟩)] (fun x : Int => #[Value.int .i64 x]) (Below n₀) (fun ys => ys = zs) (fun _ => True) zs.length w := fun l J Jx W hW _ _ hY h0 => by
  have hc' := (hW.cell (p := ⟨Bs, 0, none⟩) hBs).trans hc
  rcases hI.below (hW.mono hn₀) with ⟨⟨a, cap, rfl⟩, rfl⟩ | ⟨b, off, cap, rfl, hb, hcs⟩
  · exact (values1_nil_in F n h7 hro l Bs a cap J W hc' h0).mono fun e W' ⟨he, hj⟩ => ⟨he, .inl ⟨_, rfl, hj⟩⟩
  · refine (values1_in F n h7 hro hn l Bs n₀ b off zs.length cap zs hreach hb J Jx hY W hc' hcs h0).mono ?_
    rintro e W' ⟨he, ⟨ys, rfl, hj⟩ | ⟨pre, _, hj⟩⟩
    · exact ⟨he, .inl ⟨_, upTo_all zs, hj⟩⟩
    · exact ⟨he, .inr ⟨_, trivial, hj⟩⟩
set_option maxRecDepth 100000 in
set_option maxHeartbeats 4000000 in
theorem appendSeq_any (sv : Value) (zs : List Int) (hl : zs.length ≤ 1048576) (Bs : Nat) (w : World) (hBs : Bs < w.heap.size) (hcell : w.cell? ⟨Bs, 0, none⟩ = some sv) (hI : Ints w.heap.size w sv zs) :
    Calls Tryz.prog 182 #[.slice none 0 0, .func (.func 168) #[] #[.pointer (some ⟨Bs, 0, none⟩)] ] w fun e w' => ∃ v, e = .returned v ∧ w'.ownsRow w.heap.size 3 1 v zs.length (zs.map (.int .i64)) ∧ Below w.heap.size w w' := by
  obtain ⟨i0, hi, hz0, hz1, hz2⟩ := info_parts info22
  refine callsIn_wide (n := 5) |>.1 ?_
  refine callsIn_of_wp_marks Tryz.func182 rfl trivial ?_ rfl
  simp only [Tryz.ntmps182, List.size_toArray, List.length_cons, List.length_nil, Nat.reduceAdd, Nat.reduceSub, Array.replicate_succ, Array.replicate_zero, List.push_toArray, List.append_toArray, List.nil_append, List.cons_append]
  gi_wp2
  have bO := Boxed.new w 22 (.slice none 0 0)
  have hB0 : Below w.heap.size w (w.alloc (.cells #[.slice none 0 0] 22)) := (Below.refl _ w).alloc (Nat.le_refl _) _
  refine wpIn_rangeFunc_ownG rfl (by omega) (gf := 168) (lb := #[.pointer (some ⟨Bs, 0, none⟩)]) rfl trivial (enters_of Tryz.func168 (by kernel_rfl) rfl)
    (values_stops Fence.wide 4 trivial rfl (by omega) Bs w.heap.size sv zs (by omega) _ (by simp; omega) (by simp) ((hB0.cell (p := ⟨Bs, 0, none⟩) hBs).trans hcell) (hI.below hB0)) belowK_t (belowK_b (by simp)) (Below.refl _ _) (fun _ => rfl)
    (fun pre W => (∃ v, Boxed W w.heap.size 22 v ∧ W.ownsRow w.heap.size 3 1 v pre.length (pre.map fun x => .int .i64 x) ∧ True) ∧ Below w.heap.size w W)
    (fun _ _ _ => False)
    (OwnFrom.and (Own.from (holdsRow_own w.heap.size w.heap.size 22 3 1 (fun pre : List Int => pre.length) (fun pre => pre.map fun x => Value.int .i64 x) (fun pre v => True)) _) (ownFrom_below (Nat.le_refl _) (by simp)))
    (fun _ _ _ _ _ hs _ _ => hs)
    ⟨⟨_, bO, World.ownsRow_nil _ _ _ _, trivial⟩, hB0⟩
    (fun x => { tmps := #[.slice none 0 0, .func (.func 168) #[] #[.pointer (some ⟨Bs, 0, none⟩)], .pointer (some ⟨w.heap.size, 0, none⟩), undef, .slice none 0 0, .int .i64 x, .func (.func 168) #[] #[.pointer (some ⟨Bs, 0, none⟩)], .int .i64 x, undef, undef, undef, undef, undef], defers := [] }) ?assign ?body ?done ?stop
  case assign =>
    intro l x W K hK
    gi_wp2
    exact hK
  case body =>
    rintro lv pre x W ⟨⟨v, hv, hrow, -⟩, hB⟩ hlt
    have hc := hv.cell
    gi_wp2_with (gi_at_builtin; refine wpListIn_append_own _ rfl _ _ 22 rfl w.heap.size 3 i0 (.int .i64 0) 1 8 Tryz.underlying22 hi hz0 hz1 hz2 rfl (by decide) _ _ _ rfl (hrow.alloc _) ⟨W.heap.size, 0, none⟩ 1 1 [.int .i64 x] rfl rfl (cell_one_new _ _ _) (by simp [Value.oneCell']) (by unfold maxLen; omega) (by omega) (by have := hB.size; simp; omega) ?_; intro v' w1 hown' hgrow _; obtain ⟨g', cap', rfl⟩ := ownsRow_succ hown'; obtain ⟨hv1, hv2, hr2, hk2, hb2⟩ := hv.appended (by decide) hrow hB.size (by omega) hown' hgrow; have hc1 := hv1.cell; have hf1 := hv1.frozen)
    exact ⟨hk2.from _, hb2, ⟨_, hv2, by simpa using hr2, trivial⟩, hB.trans hb2⟩
  case done =>
    rintro D ys W hD rfl ⟨⟨v, hv, hrow, -⟩, hB⟩ hK
    have hc := hv.cell
    gi_wp2
    refine ⟨by simp, .inl ⟨_, _, rfl, run_takeDeferred hK, ?_⟩⟩
    refine ⟨_, results_tmp rfl _ _ _, v, rfl, ?_, hB.trans (belowK_b (w := w) (Nat.le_refl _) W D _ _ (by simp at hD; omega) hK rfl rfl)⟩
    exact ownsRow_putObj hrow _ hK rfl
  case stop =>
    rintro D c pre W _ _ h _
    exact h.elim
end Go.Proofs.YtnifmbbpfdghmaaGreatDoor
namespace Go.Proofs
open Go.RowKit Go.Shelf Go.Lib
def Tryz.laysSort_ren : Go.Shelf.Ren := ⟨fun | 189 => 167 | 125 => 184 | 257 => 183 | 128 => 197 | 129 => 198 | 294 => 188 | 295 => 189 | 296 => 190 | 297 => 191 | 298 => 192 | 299 => 193 | 216 => 194 | 300 => 195 | 301 => 196 | 328 => 201 | 329 => 202 | 330 => 203 | 331 => 204 | 332 => 205 | 215 => 181 | 343 => 206 | n => n, fun | 28 => 22 | 3 => 3 | 46 => 173 | 0 => 0 | 51 => 193 | 53 => 184 | 4 => 4 | 183 => 187 | 182 => 186 | 131 => 143 | 5 => 5 | 9 => 9 | 218 => 195 | 222 => 199 | 228 => 201 | 229 => 135 | n => n, fun | n => n⟩
theorem Tryz.laysSort : Go.Proofs.Lays.n189 Tryz.prog Tryz.laysSort_ren := {
  mixed := by kernel_rfl
  f125 := Tryz.func184.trans (congrArg some (by kernel_rfl))
  f128 := Tryz.func197.trans (congrArg some (by kernel_rfl))
  f129 := Tryz.func198.trans (congrArg some (by kernel_rfl))
  f189 := Tryz.func167.trans (congrArg some (by kernel_rfl))
  f215 := Tryz.func181.trans (congrArg some (by kernel_rfl))
  f216 := Tryz.func194.trans (congrArg some (by kernel_rfl))
  f257 := Tryz.func183.trans (congrArg some (by kernel_rfl))
  f294 := Tryz.func188.trans (congrArg some (by kernel_rfl))
  f295 := Tryz.func189.trans (congrArg some (by kernel_rfl))
  f296 := Tryz.func190.trans (congrArg some (by kernel_rfl))
  f297 := Tryz.func191.trans (congrArg some (by kernel_rfl))
  f298 := Tryz.func192.trans (congrArg some (by kernel_rfl))
  f299 := Tryz.func193.trans (congrArg some (by kernel_rfl))
  f300 := Tryz.func195.trans (congrArg some (by kernel_rfl))
  f301 := Tryz.func196.trans (congrArg some (by kernel_rfl))
  f328 := Tryz.func201.trans (congrArg some (by kernel_rfl))
  f329 := Tryz.func202.trans (congrArg some (by kernel_rfl))
  f330 := Tryz.func203.trans (congrArg some (by kernel_rfl))
  f331 := Tryz.func204.trans (congrArg some (by kernel_rfl))
  f332 := Tryz.func205.trans (congrArg some (by kernel_rfl))
  f343 := Tryz.func206.trans (congrArg some (by kernel_rfl))
  t0 := Tryz.underlying0
  a0 := Tryz.isAgg0
  z0 := Tryz.sizeOf0
  v0 := Tryz.zeroValue0
  t3 := Tryz.underlying3
  a3 := Tryz.isAgg3
  z3 := Tryz.sizeOf3
  v3 := Tryz.zeroValue3
  t4 := Tryz.underlying4
  a4 := Tryz.isAgg4
  z4 := Tryz.sizeOf4
  v4 := Tryz.zeroValue4
  t5 := Tryz.underlying5
  a5 := Tryz.isAgg5
  z5 := Tryz.sizeOf5
  v5 := Tryz.zeroValue5
  t9 := Tryz.underlying9
  a9 := Tryz.isAgg9
  z9 := Tryz.sizeOf9
  v9 := Tryz.zeroValue9
  t28 := Tryz.underlying22
  a28 := Tryz.isAgg22
  z28 := Tryz.sizeOf22
  v28 := Tryz.zeroValue22
  t46 := Tryz.underlying173
  a46 := Tryz.isAgg173
  z46 := Tryz.sizeOf173
  v46 := Tryz.zeroValue173
  t51 := Tryz.underlying193
  a51 := Tryz.isAgg193
  z51 := Tryz.sizeOf193
  v51 := Tryz.zeroValue193
  t53 := Tryz.underlying184
  a53 := Tryz.isAgg184
  z53 := Tryz.sizeOf184
  v53 := Tryz.zeroValue184
  t131 := Tryz.underlying143
  a131 := Tryz.isAgg143
  z131 := Tryz.sizeOf143
  v131 := Tryz.zeroValue143
  t182 := Tryz.underlying186
  a182 := Tryz.isAgg186
  z182 := Tryz.sizeOf186
  v182 := Tryz.zeroValue186
  t183 := Tryz.underlying187
  a183 := Tryz.isAgg187
  z183 := Tryz.sizeOf187
  v183 := Tryz.zeroValue187
  t218 := Tryz.underlying195
  a218 := Tryz.isAgg195
  z218 := Tryz.sizeOf195
  v218 := Tryz.zeroValue195
  t222 := Tryz.underlying199
  a222 := Tryz.isAgg199
  z222 := Tryz.sizeOf199
  v222 := Tryz.zeroValue199
  t228 := Tryz.underlying201
  a228 := Tryz.isAgg201
  z228 := Tryz.sizeOf201
  v228 := Tryz.zeroValue201
  t229 := Tryz.underlying135
  a229 := Tryz.isAgg135
  z229 := Tryz.sizeOf135
  v229 := Tryz.zeroValue135 }
end Go.Proofs
namespace Go.Proofs.YtnifmbbpfdghmaaGreatDoor
open Go.RowKit Go.En Go.Sort
theorem sort71_any (l : List Int) (v : Value) (B : Nat) (w : World) (h : w.ownsRow B 3 1 v l.length (l.map int)) (hlen : l.length ≤ 1000) : Calls Tryz.prog 167 #[v] w (Rt fun _ w' => w'.ownsRow B 3 1 v l.length ((l.mergeSort (fun x y => decide (x ≤ y))).map int) ∧ Kb v.ownBlock w w') := by
  rcases h.2 with ⟨rfl, h0⟩ | ⟨g, cap, cur, rfl, hb, hg, h1, h2, h3, h4⟩
  · have hl : l = [] := List.length_eq_zero_iff.1 h0
    subst hl
    have c := Any.slices_Sort_int_none Tryz.laysSort none 0 w
    refine Calls.mono c ?_
    rintro e w' ⟨rfl, rfl⟩
    exact ⟨_, rfl, by simpa using h, Kb.refl _ _⟩
  · have hH := holds_of_blockI (ss := l) hg (by rw [Nat.mul_one] at h4; exact h4)
    have c := Any.slices_Sort_int Tryz.laysSort g 0 cap l w hH (Array.getElem?_eq_some_iff.1 hg).1 (by omega)
    refine Calls.mono c ?_
    rintro e w' ⟨rfl, n, os, rfl⟩
    exact ⟨_, rfl, ownsRow_sortedI (by simp) hb hg h1 h2 h3, grownBy_sortedI _⟩
theorem sl_Ints {w : World} {v : Value} {l : List Int} (h : Sl w v l) : Ints w.heap.size w v l := by
  obtain ⟨a, cap, rfl, hc, hm, hp⟩ := h.sl
  by_cases h0 : 0 < l.length
  · obtain ⟨b, off, rfl, hat⟩ := sl_ints h h0
    refine .inr ⟨b, off, cap, rfl, hat.lt (by simpa using h0), fun j hj => ?_⟩
    have := hat j (int (l[j]?.getD 0)) (by rw [List.getElem?_map, List.getElem?_eq_getElem hj]; rfl)
    exact this
  · obtain rfl : l = [] := List.length_eq_zero_iff.1 (by omega)
    exact .inl ⟨⟨a, cap, rfl⟩, rfl⟩
theorem seq_any (l : List Int) (v : Value) (b : Nat) (w : World) (hr : Row w b 22 [v]) (hv : Sl w v l) (hl : l.length ≤ 1000) : Calls Tryz.prog 182 #[.slice none 0 0, .func (.func 168) #[] #[.pointer (some ⟨b, 0, none⟩)] ] w (Rt fun u w' => Ext w w' ∧ w'.ownsRow w.heap.size 3 1 u l.length (l.map int)) := by
  refine Calls.mono (appendSeq_any v l (by omega) b w hr.lt (hr.cellAt (j := 0) rfl) (sl_Ints hv)) ?_
  rintro e w' ⟨u, rfl, ho, hb⟩
  exact ⟨u, rfl, hb, ho⟩
attribute [local irreducible] E EL K Val Enters Rt Calls bodyPost Code.wp RQ
set_option maxRecDepth 8000 in
theorem values_any (a : Option Addr) (n cap : Nat) (w : World) : Calls Tryz.prog 137 #[.slice a n cap] w (Rt fun u w' => ∃ b, u = .func (.func 168) #[] #[.pointer (some ⟨b, 0, none⟩)] ∧ Row w' b 22 [.slice a n cap] ∧ Ext w w') := by
  refine calls_E (n := 4) (args := [.slice a n cap]) Tryz.func137 rfl Tryz.ntmps137 (by simp) ?_
  refine E_seq ?_
  refine E_region ?_
  refine EL_box rfl rfl rfl rfl (fun bS wS xS hbS rS0 => ?_)
  have rS : Row wS bS 22 [.slice a n cap] := rS0
  (repeat' (first | refine eV rfl rfl (val_makeFunc (vs := [.pointer (some ⟨bS, 0, none⟩)]) rfl rfl) ?_ | (refine at_EL ?_; first | refine eN ?_ | refine eV rfl rfl (zB rfl rfl) ?_) | (refine at_K ?_; first | refine K_then ?_) | (refine at_E ?_; first | refine E_seq ?_ | refine E_region ?_ | refine E_ret ?_)))
  exact ret_1 rfl rfl ⟨bS, rfl, rS, xS⟩
set_option maxRecDepth 8000 in
theorem collect70_any (l : List Int) (v : Value) (b : Nat) (w : World) (hr : Row w b 22 [v]) (hv : Sl w v l) (hl : l.length ≤ 1000) : Calls Tryz.prog 166 #[.func (.func 168) #[] #[.pointer (some ⟨b, 0, none⟩)] ] w (Rt fun u w' => Ext w w' ∧ w'.ownsRow w.heap.size 3 1 u l.length (l.map int)) := by
  refine calls_E (n := 5) (args := [.func (.func 168) #[] #[.pointer (some ⟨b, 0, none⟩)] ]) Tryz.func166 rfl Tryz.ntmps166 (by simp) ?_
  have c := seq_any l v b w hr hv hl
  (repeat' (first | (refine EL_call rfl rfl (entersF rfl rfl en182) c (fun vC wC hC => ?_); obtain ⟨xC, oC⟩ := hC) | (refine at_EL ?_; first | refine eN ?_ | refine eV rfl rfl (zA rfl rfl) ?_ | refine eV rfl rfl (zB rfl rfl) ?_) | (refine at_K ?_; first | refine K_then ?_) | (refine at_E ?_; first | refine E_seq ?_ | refine E_region ?_ | refine E_ret ?_)))
  exact ret_1 rfl rfl ⟨xC, oC⟩
set_option maxRecDepth 8000 in
theorem sorted54_any (l : List Int) (v : Value) (b : Nat) (w : World) (hr : Row w b 22 [v]) (hv : Sl w v l) (hl : l.length ≤ 1000) : Calls Tryz.prog 136 #[.func (.func 168) #[] #[.pointer (some ⟨b, 0, none⟩)] ] w (Rt fun u w' => Ext w w' ∧ w'.ownsRow w.heap.size 3 1 u l.length ((l.mergeSort (fun x y => decide (x ≤ y))).map int)) := by
  refine calls_E (n := 9) (args := [.func (.func 168) #[] #[.pointer (some ⟨b, 0, none⟩)] ]) Tryz.func136 rfl Tryz.ntmps136 (by simp) ?_
  have c := collect70_any l v b w hr hv hl
  (repeat' (first | (refine EL_call rfl rfl (entersF rfl rfl en166) c (fun vC wC hC => ?_); obtain ⟨xC, oC⟩ := hC) | (refine at_EL ?_; first | refine eN ?_ | refine eV rfl rfl (zA rfl rfl) ?_ | refine eV rfl rfl (zB rfl rfl) ?_) | (refine at_K ?_; first | refine K_then ?_) | (refine at_E ?_; first | refine E_seq ?_ | refine E_region ?_)))
  have c2 := sort71_any l vC w.heap.size wC oC hl
  (repeat' (first | (refine EL_call rfl rfl (entersF rfl rfl en167) c2 (fun vD wD hD => ?_); obtain ⟨oD, kD⟩ := hD) | (refine at_EL ?_; first | refine eN ?_ | refine eV rfl rfl (zA rfl rfl) ?_ | refine eV rfl rfl (zB rfl rfl) ?_) | (refine at_K ?_; first | refine K_then ?_) | (refine at_E ?_; first | refine E_seq ?_ | refine E_region ?_ | refine E_ret ?_)))
  exact ret_1 rfl rfl ⟨own_anchor oC xC kD, oD⟩
set_option maxRecDepth 8000 in
theorem compact_any (l : List Int) (v : Value) (w : World) (hv : Sl w v l) (hne : ∀ i x y, l[i]? = some x → l[i + 1]? = some y → x ≠ y) : Calls Tryz.prog 135 #[v] w (Rt fun u w' => u = v ∧ Ext w w') := by
  have hv0 := hv
  obtain ⟨a, cap, rfl, hc, hm, hp⟩ := hv.sl
  refine calls_E (n := 61) (args := [.slice a l.length cap]) Tryz.func135 rfl Tryz.ntmps135 (by simp) ?_
  by_cases h2 : l.length < 2
  · (repeat' ((fail_if_success (refine E_seq (x := (Code.block 0 _)) ?_)); first | (refine at_EL ?_; first | refine eN ?_ | refine eV rfl rfl (zA rfl rfl) ?_ | refine eV rfl rfl (zB rfl rfl) ?_ | (refine at_bin ?_; first | refine eD rfl rfl (zL rfl rfl rfl) (fun hh => ?_) (fun hh => ?_)) | (refine at_call ?_; first | refine eV rfl rfl (zK rfl rfl) ?_)) | (refine at_K ?_; first | refine K_then ?_ | refine K_then_ret ?_) | (refine at_E ?_; first | refine E_seq ?_ | refine E_region ?_ | refine E_cond_t rfl ?_ | refine E_cond_f rfl ?_ | refine E_block ?_ | refine E_skip ?_ | refine E_ret ?_)))
    all_goals (first | (exfalso; omega) | skip)
    all_goals exact ret_1 rfl rfl ⟨rfl, Ext.refl _⟩
  · (repeat' ((fail_if_success (refine E_seq (x := (Code.block 0 _)) ?_)); first | (refine at_EL ?_; first | refine eN ?_ | refine eV rfl rfl (zA rfl rfl) ?_ | refine eV rfl rfl (zB rfl rfl) ?_ | (refine at_bin ?_; first | refine eD rfl rfl (zL rfl rfl rfl) (fun hh => ?_) (fun hh => ?_)) | (refine at_call ?_; first | refine eV rfl rfl (zK rfl rfl) ?_)) | (refine at_K ?_; first | refine K_then ?_ | refine K_then_ret ?_) | (refine at_E ?_; first | refine E_seq ?_ | refine E_region ?_ | refine E_cond_t rfl ?_ | refine E_cond_f rfl ?_ | refine E_block ?_ | refine E_skip ?_ | refine E_ret ?_)))
    all_goals (first | (exfalso; omega) | skip)
    refine E_loop (ι := Nat) (fun i => [(0, .slice a l.length cap), (3, int i)])
      (fun i wr => 1 ≤ i ∧ i ≤ l.length ∧ Ext w wr) (fun i => l.length - i) 1
      ⟨rfl, rfl, trivial⟩ ⟨Nat.le_refl _, by omega, Ext.refl _⟩ ?_
    rintro i wr ⟨hi1, hi, hx⟩
    by_cases hlt : i < l.length
    · obtain ⟨b, off, rfl⟩ := hp (by omega)
      obtain ⟨x, hxl⟩ : ∃ x, l[i - 1]? = some x := ⟨_, List.getElem?_eq_getElem (by omega)⟩
      obtain ⟨y, hyl⟩ : ∃ y, l[i]? = some y := ⟨_, List.getElem?_eq_getElem hlt⟩
      have cx := int_elem (hv0.ext hx) hxl
      have cy := int_elem (hv0.ext hx) hyl
      have hxy : decide (y = x) = false := decide_eq_false (fun e => hne (i - 1) x y hxl (by rw [show i - 1 + 1 = i by omega]; exact hyl) e.symm)
      (repeat' (first | refine yV rfl rfl (fun _ _ _ => val_indexAddr (m := i) rfl rfl rfl rfl (by omega)) ?_ | refine yV rfl rfl (fun _ _ _ => val_indexAddr (m := i - 1) rfl rfl rfl (by omega) (by omega)) ?_ | refine yV rfl rfl (fun wq _ xq => val_load rfl rfl rfl (xq.cell cx)) ?_ | refine yV rfl rfl (fun wq _ xq => val_load rfl rfl rfl (xq.cell cy)) ?_ | refine yV (v := .bool false) rfl rfl (fun _ _ _ => by rw [← hxy]; exact zM rfl rfl rfl) ?_ | (refine at_EL ?_; first | refine eN ?_ | refine eV rfl rfl (zA rfl rfl) ?_ | refine eV rfl rfl (zB rfl rfl) ?_ | (refine at_bin ?_; first | refine eD rfl rfl (zL rfl rfl rfl) (fun hh => ?_) (fun hh => ?_) | refine eV rfl rfl (zU rfl rfl rfl (by omega) (by omega)) ?_) | (refine at_call ?_; first | refine eV rfl rfl (zK rfl rfl) ?_)) | (refine at_K ?_; first | refine K_then ?_ | refine K_in ?_ | refine K_then_exit ?_ | refine K_in_exit ?_) | (refine at_E ?_; first | refine E_seq ?_ | refine E_region ?_ | refine E_cond_t rfl ?_ | refine E_cond_f rfl ?_ | refine E_block ?_ | refine E_skip ?_ | refine E_ret ?_ | refine E_exit ?_ | refine E_dq mixedOk (by kernel_rfl) rfl ?_) | (refine at_RQ ?_; first | refine yN rfl (fun wq xq => ?_) | refine yV rfl rfl (fun _ _ _ => zA rfl rfl) ?_ | (refine at_binR ?_; first | refine yV rfl rfl (fun _ _ _ => zV rfl rfl rfl (by omega) (by omega)) ?_))))
      all_goals (first | (exfalso; omega) | skip)
      exact K_rnd (i + 1) ⟨rfl, rfl, trivial⟩ ⟨by omega, by omega, hx.trans xq⟩ (by omega)
    · (repeat' (first | (refine at_EL ?_; first | refine eN ?_ | refine eV rfl rfl (zA rfl rfl) ?_ | refine eV rfl rfl (zB rfl rfl) ?_ | (refine at_bin ?_; first | refine eD rfl rfl (zL rfl rfl rfl) (fun hh => ?_) (fun hh => ?_)) | (refine at_call ?_; first | refine eV rfl rfl (zK rfl rfl) ?_)) | (refine at_K ?_; first | refine K_then ?_ | refine K_then_exit ?_ | refine K_in_exit ?_) | (refine at_E ?_; first | refine E_seq ?_ | refine E_region ?_ | refine E_cond_t rfl ?_ | refine E_cond_f rfl ?_ | refine E_block ?_ | refine E_skip ?_ | refine E_ret ?_ | refine E_exit ?_)))
      all_goals (first | (exfalso; omega) | skip)
      exact ret_1 rfl rfl ⟨rfl, hx⟩
set_option maxRecDepth 8000 in
theorem sorted39_any (l : List Int) (v : Value) (w : World) (hv : Sl w v l) (hn : l.Nodup) (hl : l.length ≤ 14) : Calls Tryz.prog 106 #[v] w (Rt fun u w' => Ext w w' ∧ Sl w' u (l.mergeSort (fun x y => decide (x ≤ y)))) := by
  have hv0 := hv
  obtain ⟨a, cap, rfl, hc, hm, hp⟩ := hv.sl
  refine calls_E (n := 7) (args := [.slice a l.length cap]) Tryz.func106 rfl Tryz.ntmps106 (by simp) ?_
  have c1 := values_any a l.length cap w
  (repeat' (first | (refine EL_call rfl rfl (entersF rfl rfl en137) c1 (fun vC wC hC => ?_); obtain ⟨b, rfl, rB, xC⟩ := hC) | (refine at_EL ?_; first | refine eN ?_ | refine eV rfl rfl (zA rfl rfl) ?_ | refine eV rfl rfl (zB rfl rfl) ?_) | (refine at_K ?_; first | refine K_then ?_) | (refine at_E ?_; first | refine E_seq ?_ | refine E_region ?_)))
  have c2 := sorted54_any l _ b wC rB (hv0.ext xC) (by omega)
  have hsl : (l.mergeSort (fun x y => decide (x ≤ y))).length = l.length := by simp
  have hnd : (l.mergeSort (fun x y => decide (x ≤ y))).Nodup := (List.mergeSort_perm l _).nodup_iff.2 hn
  (repeat' (first | (refine EL_call rfl rfl (entersF rfl rfl en136) c2 (fun vD wD hD => ?_); obtain ⟨xD, oD⟩ := hD)))
  have sD : Sl wD vD (l.mergeSort (fun x y => decide (x ≤ y))) := own_Sl (css := (l.mergeSort (fun x y => decide (x ≤ y))).map fun z => [int z]) (by rw [ints_flat]; exact oD) (ints_ats _ _) hsl.symm (by omega)
  have c3 := compact_any _ vD wD sD (fun i x y hx hy e => by
    have h1 := (List.getElem?_eq_some_iff.1 hx).1
    have := (List.getElem?_inj h1 hnd).1 (by rw [hx, hy, e] : _ = (l.mergeSort (fun x y => decide (x ≤ y)))[i + 1]?)
    omega)
  (repeat' (first | (refine EL_call rfl rfl (entersF rfl rfl en135) c3 (fun vE wE hE => ?_); obtain ⟨rfl, xE⟩ := hE) | (refine at_EL ?_; first | refine eN ?_ | refine eV rfl rfl (zB rfl rfl) ?_) | (refine at_K ?_; first | refine K_then ?_) | (refine at_E ?_; first | refine E_ret ?_)))
  exact ret_1 rfl rfl ⟨xC.trans (xD.trans xE), sD.ext xE⟩
theorem under_any {d : Dc} (h : LightD d) (v : Value) (id : Int) (w : World) (hv : DcAt w v d) : Calls Tryz.prog 62 #[v, int id] w (Rt fun u w' => Ext w w' ∧ Sl w' u (underR d id)) := under_pre h (fun l v w => sorted39_any l v w) v id w hv
end Go.Proofs.YtnifmbbpfdghmaaGreatDoor
