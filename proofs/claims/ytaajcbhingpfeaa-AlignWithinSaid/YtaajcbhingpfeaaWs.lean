/-
  Walks of align: Under's closure.
-/
import Derived.Test.YtaajcbhingpfeaaWr
import Derived.Test.YtaajcbhingpfeaaY4
import Derived.Test.YtaajcbhingpfeaaY1
set_option linter.all false
namespace Go.Proofs.Ytaajcbhingpfeaa
open Go.RowKit Go.En
def kidsM (d : Dc) (k : Int) : List Note := d.notes.filter fun n => decide (n.parent = k)
def kidsI (d : Dc) (k : Int) : List Int := (kidsM d k).map fun n => n.id
/-- the state of the collecting: what lies below w0 stands; the list so far -/
structure CI (w0 : World) (bM bO bF B2 : Nat) (w : World) (acc : List Int) (v : Value) : Prop where
  ext : Ext w0 w
  big : B2 ≤ w.heap.size
  fn : Row w bF 59 [.func (.func 38) #[] #[.pointer (some ⟨bM, 0, none⟩), .pointer (some ⟨bO, 0, none⟩), .pointer (some ⟨bF, 0, none⟩)] ]
  out : Row w bO 22 [v]
  own : w.ownsRow B2 3 1 v acc.length (acc.map int)
def foldK (d : Dc) (F : Nat) (l : List Note) : List Int := l.flatMap fun n => n.id :: dfsN d.notes F n.id
theorem foldK_snoc {d : Dc} {F : Nat} {l : List Note} {i : Nat} {c : Note} (h : l[i]? = some c) : foldK d F (l.take (i + 1)) = foldK d F (l.take i) ++ (c.id :: dfsN d.notes F c.id) := by
  obtain ⟨hi, rfl⟩ := List.getElem?_eq_some_iff.1 h
  unfold foldK
  rw [List.take_succ_eq_append_getElem hi, List.flatMap_append, List.flatMap_singleton]
theorem foldK_len {d : Dc} {F : Nat} {l : List Note} (i : Nat) : (foldK d F (l.take i)).length ≤ (foldK d F l).length := by
  unfold foldK
  have : (l.flatMap fun n => n.id :: dfsN d.notes F n.id) = ((l.take i).flatMap fun n => n.id :: dfsN d.notes F n.id) ++ ((l.drop i).flatMap fun n => n.id :: dfsN d.notes F n.id) := by
    rw [← List.flatMap_append, List.take_append_drop]
  rw [this, List.length_append]; omega
attribute [local irreducible] E EL K Val Enters Rt Calls bodyPost Code.wp RQ
set_option maxHeartbeats 4000000 in
set_option maxRecDepth 8000 in
theorem collect_any {d : Dc} (h : LightD d) {w0 : World} {bM r bO bF B2 : Nat} {f : Int → Option Value} (rM : Row w0 bM 58 [.map (some r)]) (hm : MapF w0 r f) (hk : ∀ k, Sl w0 ((f k).getD (.slice none 0 0)) (kidsI d k)) (h1 : w0.heap.size ≤ bO) (h2 : bO < B2) (h3 : w0.heap.size ≤ bF) (h4 : bF < B2) (hne : bO ≠ bF) :
    ∀ (F : Nat) (id : Int) (a : Note) (k : Nat) (acc : List Int) (v : Value) (w : World), getF d.notes id = some a → a.tier = (k : Int) → d.tiers.length ≤ F + k → acc.length + (dfsN d.notes F id).length ≤ 1000 → CI w0 bM bO bF B2 w acc v →
    Calls Try.prog 38 #[int id, .pointer (some ⟨bM, 0, none⟩), .pointer (some ⟨bO, 0, none⟩), .pointer (some ⟨bF, 0, none⟩)] w (Rt fun _ w' => ∃ v', CI w0 bM bO bF B2 w' (acc ++ dfsN d.notes F id) v') := by
  intro F
  induction F with
  | zero =>
    intro id a k acc v w ha hak hF
    obtain ⟨k', e1, e2⟩ := note_lt h (get_some ha).1
    omega
  | succ F ih =>
  intro id a k acc v w ha hak hF hlen I
  refine calls_E (n := 23) (args := [int id, .pointer (some ⟨bM, 0, none⟩), .pointer (some ⟨bO, 0, none⟩), .pointer (some ⟨bF, 0, none⟩)]) Try.func38 rfl Try.ntmps38 (by simp) ?_
  have hdfs : dfsN d.notes (F + 1) id = foldK d F (kidsM d id) := rfl
  rw [hdfs] at hlen ⊢
  obtain ⟨KS, hKS⟩ : ∃ KS, KS = kidsM d id := ⟨_, rfl⟩
  obtain ⟨KI, hKI⟩ : ∃ KI, KI = kidsI d id := ⟨_, rfl⟩
  have hKIm : KI = KS.map fun n => n.id := by rw [hKI, hKS]; rfl
  have hKil : KI.length = KS.length := by rw [hKIm, List.length_map]
  rw [← hKS] at hlen ⊢
  have hS := (hk id).ext I.ext
  rw [← hKI] at hS
  have hS0 := hS
  obtain ⟨sa, cap, he, hc, hmx, hp⟩ := hS.sl
  rw [he] at hS0
  have rMw := rM.ext I.ext
  have hmw := hm.ext I.ext
  (repeat' (first | refine eV rfl rfl (val_load rfl rfl rfl (rMw.cellAt rfl)) ?_ | refine eV (v := .slice sa KI.length cap) rfl rfl (by rw [← he]; exact val_lookup hmw rfl rfl rfl) ?_ | (refine at_EL ?_; first | refine eN ?_ | refine eV rfl rfl (zA rfl rfl) ?_ | (refine at_call ?_; first | refine eV rfl rfl (zK rfl rfl) ?_)) | (refine at_K ?_; first | refine K_then ?_) | (refine at_E ?_; first | refine E_seq ?_ | refine E_region ?_ | refine E_block ?_)))
  refine E_loop (ι := Nat × Value) (fun x => [(1, .pointer (some ⟨bM, 0, none⟩)), (2, .pointer (some ⟨bO, 0, none⟩)), (3, .pointer (some ⟨bF, 0, none⟩)), (9, .slice sa KI.length cap), (10, int KI.length), (11, int x.1)])
    (fun x wr => x.1 ≤ KS.length ∧ CI w0 bM bO bF B2 wr (acc ++ foldK d F (KS.take x.1)) x.2) (fun x => KS.length - x.1) (0, v)
    ⟨rfl, rfl, rfl, rfl, rfl, rfl, trivial⟩ ⟨Nat.zero_le _, by simpa [foldK] using I⟩ ?_
  rintro ⟨i, vO⟩ wr ⟨hi, J⟩
  dsimp only at hi J ⊢
  by_cases hlt : i < KS.length
  · obtain ⟨b, off, rfl⟩ := hp (by omega)
    obtain ⟨c, hc1⟩ : ∃ c, KS[i]? = some c := ⟨_, List.getElem?_eq_getElem hlt⟩
    have hcI : KI[i]? = some c.id := by rw [hKIm, List.getElem?_map, hc1]; rfl
    have hS1 : SlG Tt w0 (.slice (some ⟨b, off, none⟩) KI.length cap) KI := by have := hk id; rw [he, ← hKI] at this; exact this
    have hcx := int_elem (hS1.ext J.ext) hcI
    obtain ⟨hcm, hcp⟩ : c ∈ d.notes ∧ c.parent = id := by
      have := List.mem_of_getElem? hc1
      rw [hKS] at this
      obtain ⟨e1, e2⟩ := List.mem_filter.1 this
      exact ⟨e1, by simpa using e2⟩
    obtain ⟨kc, hkc, hlk⟩ := child_up h ha hak hcm hcp
    have hsn := foldK_snoc (d := d) (F := F) hc1
    have hl1 := foldK_len (d := d) (F := F) (l := KS) (i + 1)
    rw [hsn, List.length_append, List.length_cons] at hl1
    have hJo := J.out
    have hJf := J.fn
    have hown := J.own
    have hbig := J.big
    (repeat' (first | refine eV rfl rfl (val_indexAddr (m := i) rfl rfl rfl rfl (by omega)) ?_ | refine eV rfl rfl (val_load rfl rfl rfl hcx) ?_ | refine eV rfl rfl (val_load rfl rfl rfl (hJo.cellAt rfl)) ?_ | (refine EL_append (news := [int c.id]) rfl rfl rfl rfl (own_ext hown xS) rfl rS.at rfl rfl rfl (by omega) (by simp only [List.length_append]; omega) (by simp only [List.length_append]; omega) (by have := xS.size; omega) (fun vJ wJ oJ kJ => ?_)) | (refine at_EL ?_; first | refine eN ?_ | refine eV rfl rfl (zA rfl rfl) ?_ | refine eV rfl rfl (zB rfl rfl) ?_ | (refine at_bin ?_; first | refine eD rfl rfl (zL rfl rfl rfl) (fun hh => ?_) (fun hh => ?_)) | refine eL rfl rfl rfl rfl rfl rfl rfl rfl (fun bS wS xS hbS rS => ?_)) | (refine at_K ?_; first | refine K_then ?_ | refine K_then_exit ?_ | refine K_in_exit ?_) | (refine at_E ?_; first | refine E_seq ?_ | refine E_region ?_ | refine E_cond_t rfl ?_ | refine E_cond_f rfl ?_ | refine E_block ?_ | refine E_skip ?_ | refine E_exit ?_)))
    all_goals (first | (exfalso; omega) | skip)
    have hkb : ∀ bb, vO.ownBlock = some bb → B2 ≤ bb := fun bb e => (hown.lt bb e).1
    have hno : some bO ≠ vO.ownBlock := fun e => by have := hkb bO e.symm; omega
    have hnf : some bF ≠ vO.ownBlock := fun e => by have := hkb bF e.symm; omega
    have rO := kJ.row (hJo.ext xS) hno
    have rF := kJ.row (hJf.ext xS) hnf
    have hsz := J.ext.size
    have xJ : Ext w0 wJ := kJ.ext (J.ext.trans xS) (fun bb e => by have := hkb bb e; omega)
    have hbigJ : B2 ≤ wJ.heap.size := by have := Kb.size kJ; have := xS.size; omega
    obtain ⟨gJ, capJ, tJ, rfl, hJ1, hJ2, hJ3, hJ4, hJ5⟩ := own_open oJ (by omega)
    refine EL_store (v := .slice (some ⟨gJ, 0, none⟩) _ capJ) rfl rfl rfl rfl rfl rfl rfl rO (Nat.le_refl _) (fun w5 r5 k5 s5 => ?_)
    have rO5 : Row w5 bO 22 [.slice (some ⟨gJ, 0, none⟩) _ capJ] := r5
    have rF5 := k5.row rF (fun e => hne (Option.some.inj e).symm)
    have o5 := oJ.kept k5 (Or.inr (fun e => by have : gJ = bO := Option.some.inj e; omega))
    have x5 : Ext w0 w5 := k5.ext xJ (fun bb e => by cases e; exact h1)
    have hI5 : CI w0 bM bO bF B2 w5 (acc ++ foldK d F (KS.take i) ++ [c.id]) _ := ⟨x5, by omega, rF5, rO5, by simpa [Nat.add_assoc] using o5⟩
    have cI := ih c.id c kc (acc ++ foldK d F (KS.take i) ++ [c.id]) _ w5 (get_mem (ids_rise h) hcm) hkc (by omega) (by simp only [List.length_append, List.length_cons, List.length_nil]; omega) hI5
    (repeat' (first | refine eV rfl rfl (val_load rfl rfl rfl (rF5.cellAt rfl)) ?_ | (refine EL_call rfl rfl (entersC (cap := [.pointer (some ⟨bM, 0, none⟩), .pointer (some ⟨bO, 0, none⟩), .pointer (some ⟨bF, 0, none⟩)]) rfl rfl rfl en38) cI (fun vC wC hC => ?_); obtain ⟨v', J'⟩ := hC) | (refine at_EL ?_; first | refine eN ?_ | refine eV rfl rfl (zA rfl rfl) ?_ | (refine at_bin ?_; first | refine eV rfl rfl (zU rfl rfl rfl (by omega) (by omega)) ?_)) | (refine at_K ?_; first | refine K_then ?_ | refine K_in ?_) | (refine at_E ?_; first | refine E_region ?_)))
    refine K_rnd (i + 1, v') ⟨rfl, rfl, rfl, rfl, rfl, rfl, trivial⟩ ⟨by dsimp only; omega, ?_⟩ (by dsimp only; omega)
    dsimp only
    rw [hsn]
    simpa using J'
  · obtain rfl : i = KS.length := by omega
    rw [List.take_length] at J
    (repeat' (first | (refine at_EL ?_; first | refine eN ?_ | (refine at_bin ?_; first | refine eD rfl rfl (zL rfl rfl rfl) (fun hh => ?_) (fun hh => ?_))) | (refine at_K ?_; first | refine K_then ?_ | refine K_then_exit ?_ | refine K_in_exit ?_) | (refine at_E ?_; first | refine E_seq ?_ | refine E_region ?_ | refine E_cond_t rfl ?_ | refine E_cond_f rfl ?_ | refine E_block ?_ | refine E_skip ?_ | refine E_exit ?_)))
    all_goals (first | (exfalso; omega) | skip)
    exact ret_n (ret_0 rfl ⟨_, J⟩)
end Go.Proofs.Ytaajcbhingpfeaa
