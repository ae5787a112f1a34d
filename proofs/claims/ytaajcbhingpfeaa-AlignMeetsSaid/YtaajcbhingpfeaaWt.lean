/-
  Walks of align: Under (but for its sorting).
-/
import Derived.Test.YtaajcbhingpfeaaWs
set_option linter.all false
namespace Go.En
open Go.RowKit
theorem app_exB {P : Program} {w : World} (t ty : TypeId) {e : TypeId} {z : Value} {size bytes : Nat} [ut : UT P t (.slice e)] [ti : TI P e z size bytes] {v : Value} {B m : Nat} {xs : List Value} {b off q : Nat} (c : Nat) {news : List Value}
    (hown : w.ownsRow B e size v m xs) (hB : B ≤ w.heap.size) (hat : At w b off news) (hl : news.length = q * size)
    (h1 : news.all Value.oneCell' = true) (hz : z.cells.size = size) (hsz : Nat.ble 1 size = true) (hmax : (m + q) * bytes ≤ 140737488355328) (hmax' : m + q ≤ 9223372036854775807) :
    ∃ v' w', (Builtin.append_ #[t, t] ty #[v, .slice (some ⟨b, off, none⟩) q c]).run P w = .ok v' w' ∧ w'.ownsRow B e size v' (m + q) (xs ++ news) ∧ Kb v.ownBlock w w' ∧ (v'.ownBlock = v.ownBlock ∨ v'.ownBlock = some w.heap.size) := by
  obtain ⟨i0, hi, hz0, hz1, hz2⟩ := info_parts ti.i
  obtain ⟨v', w', hr, h2, h3, _, h4⟩ := run_append_own_at (P := P) (w := w) (ty := ty) B t e i0 z size bytes ut.u hi hz0 hz1 hz2 hz (Nat.le_of_ble_eq_true hsz) v m xs hown ⟨b, off, none⟩ q c news hl (fun j u hu => by rw [addr_add]; exact hat j u hu)
    (fun u hu => List.all_eq_true.1 h1 u hu) (by unfold maxLen; omega) hmax hB
  exact ⟨v', w', hr, h2, h3, h4⟩
end Go.En
namespace Go.Proofs.Ytaajcbhingpfeaa
open Go.RowKit Go.En
/-- the notes up to i with a parent -/
def kidsT (d : Dc) (i : Nat) (k : Int) : List Int := ((d.notes.take i).filter fun n => decide (n.parent = k)).map fun n => n.id
theorem kidsT_all (d : Dc) (k : Int) : kidsT d d.notes.length k = kidsI d k := by
  unfold kidsT kidsI kidsM
  rw [List.take_length]
theorem kidsT_yes {d : Dc} {i : Nat} {q : Note} (h : d.notes[i]? = some q) : kidsT d (i + 1) q.parent = kidsT d i q.parent ++ [q.id] := by
  unfold kidsT
  rw [filter_yes h (by simp), List.map_append]; rfl
theorem kidsT_no {d : Dc} {i : Nat} {q : Note} {k : Int} (h : d.notes[i]? = some q) (hk : k ≠ q.parent) : kidsT d (i + 1) k = kidsT d i k := by
  unfold kidsT
  rw [filter_no h (by simp; exact fun e => hk e.symm)]
theorem kidsT_len (d : Dc) (i : Nat) (k : Int) : (kidsT d i k).length ≤ d.notes.length := by
  unfold kidsT
  rw [List.length_map]
  exact Nat.le_trans (List.length_filter_le _ _) (by rw [List.length_take]; omega)
/-- the map so far -/
structure KF (d : Dc) (i : Nat) (Bw : Nat) (w : World) (f : Int → Option Value) : Prop where
  none_ : ∀ k, f k = none → kidsT d i k = []
  some_ : ∀ k v, f k = some v → w.ownsRow Bw 3 1 v (kidsT d i k).length ((kidsT d i k).map int) ∧ 0 < (kidsT d i k).length
  apart : ∀ k k' v v', k ≠ k' → f k = some v → f k' = some v' → v.ownBlock ≠ v'.ownBlock
theorem own_some {w : World} {B : Nat} {e : TypeId} {size n : Nat} {v : Value} {xs : List Value} (h : w.ownsRow B e size v n xs) (h0 : 0 < n) : ∃ b, v.ownBlock = some b := by
  obtain ⟨g, cap, tail, rfl, _⟩ := own_open h h0
  exact ⟨g, rfl⟩
theorem KF.get {d : Dc} {i Bw : Nat} {w : World} {f : Int → Option Value} (h : KF d i Bw w f) (k : Int) : w.ownsRow Bw 3 1 ((f k).getD (.slice none 0 0)) (kidsT d i k).length ((kidsT d i k).map int) := by
  cases hf : f k with
  | none => rw [h.none_ k hf]; exact World.ownsRow_nil _ _ _ _
  | some v => exact (h.some_ k v hf).1
theorem KF.next {d : Dc} {i Bw r : Nat} {w w1 w2 w3 : World} {f : Int → Option Value} {q : Note} {v' : Value} (h : KF d i Bw w f) (hq : d.notes[i]? = some q) (hr : r < Bw) (x1 : Ext w w1) (k2 : Kb ((f q.parent).getD (.slice none 0 0)).ownBlock w1 w2) (k3 : Kb (some r) w2 w3)
    (ho : w2.ownsRow Bw 3 1 v' ((kidsT d i q.parent).length + 1) ((kidsT d i q.parent).map int ++ [int q.id])) (hb : v'.ownBlock = ((f q.parent).getD (.slice none 0 0)).ownBlock ∨ v'.ownBlock = some w1.heap.size) : KF d (i + 1) Bw w3 (fun j => if j = q.parent then some v' else f j) := by
  have kept3 : ∀ {v : Value} {n : Nat} {xs : List Value}, w2.ownsRow Bw 3 1 v n xs → w3.ownsRow Bw 3 1 v n xs := fun {v n xs} hv => hv.kept k3 (Or.inr (fun e => by have := (hv.lt r e).1; omega))
  have old : ∀ k v, k ≠ q.parent → f k = some v → w3.ownsRow Bw 3 1 v (kidsT d i k).length ((kidsT d i k).map int) := fun k v hk hv => by
    have h1 := own_ext (h.some_ k v hv).1 x1
    refine kept3 (h1.kept k2 ?_)
    cases hp : f q.parent with
    | none =>
      right
      obtain ⟨b, hb'⟩ := own_some h1 (h.some_ k v hv).2
      rw [hb']
      intro e; cases e
    | some v0 => exact Or.inr (h.apart k q.parent v v0 hk hv hp)
  have sep : ∀ k v, k ≠ q.parent → f k = some v → v.ownBlock ≠ v'.ownBlock := fun k v hk hv e => by
    have h1 := (h.some_ k v hv)
    obtain ⟨b, hb'⟩ := own_some h1.1 h1.2
    rcases hb with hb | hb
    · cases hp : f q.parent with
      | none =>
        rw [hp] at hb
        rw [e, hb] at hb'
        cases hb'
      | some v0 =>
        rw [hp] at hb
        exact h.apart k q.parent v v0 hk hv hp (e.trans hb)
    · rw [e, hb] at hb'
      have hlt := (h1.1.lt b (by rw [e, hb]; exact hb')).2
      have := x1.size
      cases hb'
      omega
  refine ⟨fun k hk => ?_, fun k v hv => ?_, fun k k' v u hne hv hu => ?_⟩
  · by_cases he : k = q.parent
    · rw [if_pos he] at hk; cases hk
    · rw [if_neg he] at hk
      rw [kidsT_no hq he]; exact h.none_ k hk
  · by_cases he : k = q.parent
    · rw [if_pos he] at hv; cases hv
      subst he
      rw [kidsT_yes hq, List.length_append, List.map_append]
      exact ⟨kept3 ho, by simp⟩
    · rw [if_neg he] at hv
      rw [kidsT_no hq he]
      exact ⟨old k v he hv, (h.some_ k v hv).2⟩
  · by_cases he : k = q.parent
    · rw [if_pos he] at hv; cases hv
      by_cases he' : k' = q.parent
      · exact absurd (he.trans he'.symm) hne
      · rw [if_neg he'] at hu
        exact fun e => sep k' u he' hu e.symm
    · rw [if_neg he] at hv
      by_cases he' : k' = q.parent
      · rw [if_pos he'] at hu; cases hu
        exact sep k v he hv
      · rw [if_neg he'] at hu
        exact h.apart k k' v u hne hv hu
theorem KF.ext {d : Dc} {i Bw : Nat} {w w' : World} {f : Int → Option Value} (h : KF d i Bw w f) (x : Ext w w') : KF d i Bw w' f :=
  ⟨h.none_, fun k v hv => ⟨own_ext (h.some_ k v hv).1 x, (h.some_ k v hv).2⟩, h.apart⟩
attribute [local irreducible] E EL K Val Enters Rt Calls bodyPost Code.wp RQ
set_option maxHeartbeats 8000000 in
set_option maxRecDepth 8000 in
theorem under_pre {d : Dc} (h : LightD d) (hs39 : ∀ (l : List Int) (v : Value) (w : World), Sl w v l → l.Nodup → l.length ≤ 14 → Calls Try.prog 39 #[v] w (Rt fun u w' => Ext w w' ∧ Sl w' u (l.mergeSort (fun x y => decide (x ≤ y))))) (v : Value) (id : Int) (w : World) (hv : DcAt w v d) : Calls Try.prog 16 #[v, int id] w (Rt fun u w' => Ext w w' ∧ Sl w' u (underR d id)) := by
  have hd0 := hv
  have hN := h.nnotes
  obtain ⟨sv, tv, nv, rfl, _, ht, hn⟩ := hv
  refine calls_E (n := 46) (args := [.agg #[int d.rid, str d.rname, int d.len, int d.day, sv, tv, nv], int id]) Try.func16 rfl Try.ntmps16 (by simp) ?_
  have hn0 := hn
  obtain ⟨a, cap, rfl, hc, hm, hp⟩ := hn.sl
  refine E_seq ?_
  refine E_region ?_
  refine EL_box rfl rfl rfl rfl (fun bD wD xD hbD rD0 => ?_)
  have rD : Row wD bD 28 [int d.rid, str d.rname, int d.len, int d.day, sv, tv, .slice a d.notes.length cap] := rD0
  clear rD0
  (repeat' (first | refine EL_makeMap rfl rfl rfl (fun r wR hr mR xR => ?_) | (refine at_EL ?_; first | refine eN ?_ | refine eV rfl rfl (zB rfl rfl) ?_) | (refine at_K ?_; first | refine K_then ?_) | (refine at_E ?_; first | refine E_seq ?_ | refine E_region ?_)))
  refine EL_alloc rfl rfl rfl (fun bM wM xM hbM rM0 => ?_)
  refine EL_storeP (cs := [.map (some r)]) rM0 (xR.trans xM) (by have := xR.size; omega) rfl rfl rfl rfl rfl rfl rfl rfl (Nat.le_refl _) (fun w3 rM1 x3 k3 => ?_)
  have rM : Row w3 bM 58 [.map (some r)] := rM1
  have hrM : r ≠ bM := fun e => by have := mR.lt; omega
  have mM : MapF w3 r (fun _ => none) := (mR.ext xM).kb k3 (fun e => hrM (Option.some.inj e))
  have hrlt : r < w3.heap.size := mM.lt
  have hblt : bM < w3.heap.size := rM.lt
  have hrD : wD.heap.size ≤ r := by omega
  have hbD2 : wD.heap.size ≤ bM := by have := xR.size; omega
  clear rM0 rM1 k3 mR
  have rD3 := rD.ext x3
  (repeat' (first | refine eV rfl rfl (val_load rfl rfl rfl (rD3.cellAt rfl)) ?_ | (refine at_EL ?_; first | refine eN ?_ | refine eV rfl rfl (zA rfl rfl) ?_ | (refine at_call ?_; first | refine eV rfl rfl (zK rfl rfl) ?_) | refine eV rfl rfl (zH rfl rfl) ?_) | (refine at_K ?_; first | refine K_then ?_) | (refine at_E ?_; first | refine E_seq ?_ | refine E_region ?_ | refine E_block ?_)))
  obtain ⟨Bw, hBw⟩ : ∃ Bw, Bw = w3.heap.size := ⟨_, rfl⟩
  rw [← hBw] at hrlt hblt
  refine E_loop (ι := Nat × (Int → Option Value)) (fun x => [(1, int id), (2, .pointer (some ⟨bD, 0, none⟩)), (5, .pointer (some ⟨bM, 0, none⟩)), (14, .slice a d.notes.length cap), (15, int d.notes.length), (16, int x.1)])
    (fun x wr => x.1 ≤ d.notes.length ∧ Ext wD wr ∧ Bw ≤ wr.heap.size ∧ Row wr bM 58 [.map (some r)] ∧ MapF wr r x.2 ∧ KF d x.1 Bw wr x.2) (fun x => d.notes.length - x.1) (0, fun _ => none)
    ⟨rfl, rfl, rfl, rfl, rfl, rfl, trivial⟩ ⟨Nat.zero_le _, x3, by omega, rM, mM, ⟨fun _ _ => rfl, fun _ _ e => (by cases e), fun _ _ _ _ _ e => (by cases e)⟩⟩ ?_
  rintro ⟨i, f⟩ wr ⟨hi, hx, hBr, rMr, mr, kf⟩
  dsimp only at hi hx rMr mr kf ⊢
  have rDr := rD.ext hx
  have hXr := xD.trans hx
  by_cases hlt : i < d.notes.length
  · obtain ⟨b, off, rfl⟩ := hp (by omega)
    obtain ⟨q, hq⟩ : ∃ q, d.notes[i]? = some q := ⟨_, List.getElem?_eq_getElem hlt⟩
    have hat := note_elem (hn0.ext hXr) hq
    (repeat' (first | refine eV rfl rfl (val_indexAddr (m := i) rfl rfl rfl rfl (by omega)) ?_ | refine eV rfl rfl (val_loadA rfl rfl rfl hat rfl) ?_ | (refine at_EL ?_; first | refine eN ?_ | (refine at_bin ?_; first | refine eD rfl rfl (zL rfl rfl rfl) (fun hh => ?_) (fun hh => ?_))) | (refine at_K ?_; first | refine K_then ?_ | refine K_then_exit ?_ | refine K_in_exit ?_) | (refine at_E ?_; first | refine E_seq ?_ | refine E_region ?_ | refine E_cond_t rfl ?_ | refine E_cond_f rfl ?_ | refine E_block ?_ | refine E_skip ?_ | refine E_exit ?_)))
    all_goals (first | (exfalso; omega) | skip)
    refine EL_alloc rfl rfl rfl (fun b7 w7 x7 hb7 r7 => ?_)
    refine EL_storeP (cs := noteC q) r7 x7 (by omega) rfl rfl rfl rfl rfl rfl rfl rfl (Nat.le_refl _) (fun w8 r8' x8 k8 => ?_)
    have r8 : Row w8 b7 48 (noteC q) := r8'
    have hb78 : b7 < w8.heap.size := r8.lt
    have hb7r : wr.heap.size ≤ b7 := by omega
    clear r8' r7 k8
    have rM8 := rMr.ext x8
    have m8 := mr.ext x8
    have kf8 := kf.ext x8
    have hx8 := hx.trans x8
    have hB8 : Bw ≤ w8.heap.size := by have := x8.size; omega
    refine EL_nil ?_
    refine K_then ?_
    obtain ⟨v0, hv0⟩ : ∃ v0, v0 = (f q.parent).getD (.slice none 0 0) := ⟨_, rfl⟩
    have own0 := kf.get q.parent
    rw [← hv0] at own0
    have hol := kidsT_len d i q.parent
    have xd := ext_drew w8
    obtain ⟨w1, hw1⟩ : ∃ w1, w1 = w8.drew.alloc (.cells [int q.id].toArray 3) := ⟨_, rfl⟩
    have x1 : Ext w8.drew w1 := hw1 ▸ ext_alloc _ _
    have rL : Row w1 w8.drew.heap.size 3 [int q.id] := by rw [hw1]; exact row_alloc _ _ _
    have x81 := xd.trans x1
    have own1 := own_ext own0 (x8.trans x81)
    obtain ⟨v', w2, hrun, ho2, k2, hb2⟩ := app_exB (P := Try.prog) 22 22 1 (news := [int q.id]) own1 (by have := x81.size; omega) rL.at rfl rfl rfl rfl (by omega) (by omega)
    have hrne : ∀ bb, bb < Bw → some bb ≠ v0.ownBlock := fun bb hlt e => by have := (own0.lt bb e.symm).1; omega
    have h7ne : some b7 ≠ v0.ownBlock := fun e => by have := (own0.lt b7 e.symm).2; omega
    have m2 := (m8.ext x81).kb k2 (hrne r hrlt)
    obtain ⟨w4, mu, k4, hst⟩ := mapUpd_ex (P := Try.prog) (t := 58) (v := v') (k := q.parent) inferInstance inferInstance m2
    have rMd := rM8.ext xd
    have rM1 := rM8.ext x81
    have rM2 := k2.row rM1 (hrne bM hblt)
    have r7d := r8.ext xd
    have r71 := r8.ext x81
    have r72 := k2.row r71 h7ne
    have rM4 := k4.row rM2 (fun e => hrM (Option.some.inj e).symm)
    have hx4 : Ext wD w4 := k4.ext (k2.ext (hx8.trans x81) (fun bb e => by have := (own0.lt bb e).1; omega)) (fun bb e => by cases e; omega)
    have kf4 := kf.next hq hrlt (x8.trans x81) (hv0 ▸ k2) k4 (by simpa using ho2) (hv0 ▸ hb2)
    have hB4 : Bw ≤ w4.heap.size := by have := Kb.size k4; have := Kb.size k2; have := x81.size; omega
    refine E.sub (M := [(1, int id), (2, .pointer (some ⟨bD, 0, none⟩)), (5, .pointer (some ⟨bM, 0, none⟩)), (7, .pointer (some ⟨b7, 0, none⟩)), (14, .slice (some ⟨b, off, none⟩) d.notes.length cap), (15, int d.notes.length), (16, int i)]) ⟨rfl, rfl, rfl, rfl, rfl, rfl, rfl, trivial⟩ ?_
    refine E_steps (fun p => match p with | 0 => w8.drew | 1 => w1 | 2 => w2 | _ => w4)
      [some (20, .map (some r)), some (21, .pointer (some ⟨b7, 0 + 2, none⟩)), some (22, int q.parent), some (23, .map (some r)), some (24, .pointer (some ⟨b7, 0 + 2, none⟩)), some (25, int q.parent), some (26, v0), some (27, .pointer (some ⟨b7, 0 + 0, none⟩)), some (28, int q.id), some (29, .slice (some ⟨w8.drew.heap.size, 0, none⟩) 1 1), some (30, v'), none]
      [(0, 2, true), (0, 2, true), (0, 2, true), (0, 1, true), (0, 1, true), (0, 1, true), (0, 1, true), (0, 0, true), (0, 0, true), (0, 0, false), (1, 0, false), (2, 0, false)]
      [9, 10, 11] mixedOk (by kernel_rfl) (by decide) rfl rfl rfl rfl
      ⟨fun p _ hp => (match p, hp with
          | 0, _ => val_load rfl rfl rfl (rMd.cellAt rfl)
          | 1, _ => val_load rfl rfl rfl (rM1.cellAt rfl)
          | 2, _ => val_load rfl rfl rfl (rM2.cellAt rfl)
          | p + 3, hp => absurd hp (by omega)),
        fun _ _ _ => zH rfl rfl,
        fun p _ hp => (match p, hp with
          | 0, _ => val_load rfl rfl rfl (r7d.cellAt rfl)
          | 1, _ => val_load rfl rfl rfl (r71.cellAt rfl)
          | 2, _ => val_load rfl rfl rfl (r72.cellAt rfl)
          | p + 3, hp => absurd hp (by omega)),
        fun p _ hp => (match p, hp with
          | 0, _ => val_load rfl rfl rfl (rMd.cellAt rfl)
          | 1, _ => val_load rfl rfl rfl (rM1.cellAt rfl)
          | p + 2, hp => absurd hp (by omega)),
        fun _ _ _ => zH rfl rfl,
        fun p _ hp => (match p, hp with
          | 0, _ => val_load rfl rfl rfl (r7d.cellAt rfl)
          | 1, _ => val_load rfl rfl rfl (r71.cellAt rfl)
          | p + 2, hp => absurd hp (by omega)),
        fun p _ hp => (match p, hp with
          | 0, _ => hv0 ▸ val_lookup (m8.ext xd) rfl rfl rfl
          | 1, _ => hv0 ▸ val_lookup (m8.ext x81) rfl rfl rfl
          | p + 2, hp => absurd hp (by omega)),
        fun _ _ _ => zH rfl rfl,
        fun p _ hp => (match p, hp with
          | 0, _ => val_load rfl rfl rfl (r7d.cellAt rfl)
          | p + 1, hp => absurd hp (by omega)),
        fun ρ ha => hw1 ▸ run_lit (vs := [int q.id]) (cs := [int q.id]) rfl rfl rfl rfl rfl rfl ha,
        step_app rfl rfl rfl hrun,
        hst _ _ _ _ _ rfl rfl rfl rfl, trivial⟩ ?_
    refine at_K (w := w4) ?_
    (repeat' (first | (refine at_EL ?_; first | refine eN ?_ | refine eV rfl rfl (zA rfl rfl) ?_ | (refine at_bin ?_; first | refine eV rfl rfl (zU rfl rfl rfl (by omega) (by omega)) ?_)) | (refine at_K ?_; first | refine K_then ?_ | refine K_in ?_) | (refine at_E ?_; first | refine E_region ?_)))
    exact K_rnd (i + 1, fun j => if j = q.parent then some v' else f j) ⟨rfl, rfl, rfl, rfl, rfl, rfl, trivial⟩ ⟨by dsimp only; omega, hx4, hB4, rM4, mu, kf4⟩ (by dsimp only; omega)
  · obtain rfl : i = d.notes.length := by omega
    have cg := tget_any d _ id wr (hd0.ext hXr)
    cases hg : getF d.notes id with
    | none =>
      rw [getR_none hg] at cg
      (repeat' (first | refine eV rfl rfl (val_loadA rfl rfl rfl rDr.at rfl) ?_ | (refine EL_call rfl rfl (entersF rfl rfl en37) cg (fun vC wC hC => ?_); obtain ⟨rfl, xC⟩ := hC) | (refine at_EL ?_; first | refine eN ?_ | refine eV rfl rfl (zA rfl rfl) ?_ | (refine at_bin ?_; first | refine eD rfl rfl (zL rfl rfl rfl) (fun hh => ?_) (fun hh => ?_)) | refine eV rfl rfl (zF rfl rfl rfl) ?_) | (refine at_K ?_; first | refine K_then ?_ | refine K_then_exit ?_ | refine K_in_exit ?_) | (refine at_E ?_; first | refine E_seq ?_ | refine E_region ?_ | refine E_cond_t rfl ?_ | refine E_cond_f rfl ?_ | refine E_block ?_ | refine E_skip ?_ | refine E_exit ?_)))
      all_goals (first | (exfalso; omega) | skip)
      refine EL_alloc rfl rfl rfl (fun bP wP xP hbP rP0 => ?_)
      refine EL_storeP (cs := noteC zeroN) rP0 xP (by omega) rfl rfl rfl rfl rfl rfl rfl rfl (Nat.le_refl _) (fun w4 rP1 x4 k4 => ?_)
      (repeat' (first | (refine at_EL ?_; first | refine eN ?_ | refine eV rfl rfl (zA rfl rfl) ?_ | refine eV rfl rfl (zB rfl rfl) ?_ | refine eV rfl rfl (zE rfl rfl) ?_) | (refine at_K ?_; first | refine K_then ?_ | refine K_then_ret ?_) | (refine at_E ?_; first | refine E_seq ?_ | refine E_region ?_ | refine E_cond_t rfl ?_ | refine E_ret ?_)))
      exact ret_1 rfl rfl ⟨hXr.trans (xC.trans x4), by rw [under_none h hg]; exact SlG.nil⟩
    | some p =>
      rw [getR_val hg] at cg
      (repeat' (first | refine eV rfl rfl (val_loadA rfl rfl rfl rDr.at rfl) ?_ | (refine EL_call rfl rfl (entersF rfl rfl en37) cg (fun vC wC hC => ?_); obtain ⟨rfl, xC⟩ := hC) | (refine at_EL ?_; first | refine eN ?_ | refine eV rfl rfl (zA rfl rfl) ?_ | (refine at_bin ?_; first | refine eD rfl rfl (zL rfl rfl rfl) (fun hh => ?_) (fun hh => ?_)) | refine eV rfl rfl (zF rfl rfl rfl) ?_) | (refine at_K ?_; first | refine K_then ?_ | refine K_then_exit ?_ | refine K_in_exit ?_) | (refine at_E ?_; first | refine E_seq ?_ | refine E_region ?_ | refine E_cond_t rfl ?_ | refine E_cond_f rfl ?_ | refine E_block ?_ | refine E_skip ?_ | refine E_exit ?_)))
      all_goals (first | (exfalso; omega) | skip)
      refine EL_alloc rfl rfl rfl (fun bP wP xP hbP rP0 => ?_)
      refine EL_storeP (cs := noteC p) rP0 xP (by omega) rfl rfl rfl rfl rfl rfl rfl rfl (Nat.le_refl _) (fun w4 rP1 x4 k4 => ?_)
      have x4r := xC.trans x4
      clear rP0 rP1 k4
      (repeat' (first | (refine at_EL ?_; first | refine eN ?_ | refine eV rfl rfl (zA rfl rfl) ?_ | refine eV rfl rfl (zB rfl rfl) ?_ | refine eV rfl rfl (zE rfl rfl) ?_) | (refine at_K ?_; first | refine K_then ?_) | (refine at_E ?_; first | refine E_seq ?_ | refine E_region ?_ | refine E_cond_f rfl ?_ | refine E_skip ?_)))
      refine EL_alloc rfl rfl rfl (fun bO w5 x5 hbO rO0 => ?_)
      have rO : Row w5 bO 22 [.slice none 0 0] := rO0
      (repeat' (first | (refine at_EL ?_; first | refine eN ?_) | (refine at_K ?_; first | refine K_then ?_) | (refine at_E ?_; first | refine E_seq ?_ | refine E_region ?_)))
      refine EL_alloc rfl rfl rfl (fun bF w6 x6 hbF rF0 => ?_)
      have rF : Row w6 bF 59 [.nilFunc] := rF0
      clear rO0 rF0
      obtain ⟨k0, hk0, hk0l⟩ := note_lt h (get_some hg).1
      have x46 := x5.trans x6
      (repeat' (first | refine eV rfl rfl (val_makeFunc (vs := [.pointer (some ⟨bM, 0, none⟩), .pointer (some ⟨bO, 0, none⟩), .pointer (some ⟨bF, 0, none⟩)]) rfl rfl) ?_ | (refine at_EL ?_; first | refine eN ?_) | (refine at_K ?_; first | refine K_then ?_) | (refine at_E ?_; first | refine E_seq ?_ | refine E_region ?_)))
      refine EL_storeP (cs := [.func (.func 38) #[] #[.pointer (some ⟨bM, 0, none⟩), .pointer (some ⟨bO, 0, none⟩), .pointer (some ⟨bF, 0, none⟩)] ]) rF x6 (by omega) rfl rfl rfl rfl rfl rfl rfl rfl (Nat.le_refl _) (fun w7 rF7 x7 k7 => ?_)
      have rF7' : Row w7 bF 59 [.func (.func 38) #[] #[.pointer (some ⟨bM, 0, none⟩), .pointer (some ⟨bO, 0, none⟩), .pointer (some ⟨bF, 0, none⟩)] ] := rF7
      have rO7 := rO.ext x7
      have x47 := x5.trans x7
      have hO4 : w4.heap.size ≤ bO := by omega
      have hF4 : w4.heap.size ≤ bF := by have := x5.size; omega
      have hO7 : bO < w7.heap.size := rO7.lt
      have hF7 : bF < w7.heap.size := rF7'.lt
      have hOF : bO ≠ bF := fun e => by have := rO.lt; omega
      have hkk : ∀ k, Sl w4 ((f k).getD (.slice none 0 0)) (kidsI d k) := fun k => by
        have := own_ext (kf.get k) x4r
        rw [kidsT_all] at this
        exact own_Sl (css := (kidsI d k).map fun z => [int z]) (by rw [ints_flat]; exact this) (ints_ats _ _) rfl (by have := kidsT_len d d.notes.length k; rw [kidsT_all] at this; omega)
      have hdl := dfs_len h d.tiers.length id p k0 hg hk0 (by omega)
      have cC := collect_any h (rMr.ext x4r) (mr.ext x4r) hkk hO4 hO7 hF4 hF7 hOF d.tiers.length id p k0 [] (.slice none 0 0) w7 hg hk0 (by omega) (by simp; omega) ⟨x47, Nat.le_refl _, rF7', rO7, World.ownsRow_nil _ _ _ _⟩
      (repeat' (first | refine eV rfl rfl (val_load rfl rfl rfl (rF7'.cellAt rfl)) ?_ | (refine EL_call rfl rfl (entersC (cap := [.pointer (some ⟨bM, 0, none⟩), .pointer (some ⟨bO, 0, none⟩), .pointer (some ⟨bF, 0, none⟩)]) rfl rfl rfl en38) cC (fun vC wE hE => ?_); obtain ⟨v', J⟩ := hE) | (refine at_EL ?_; first | refine eN ?_ | refine eV rfl rfl (zA rfl rfl) ?_) | (refine at_K ?_; first | refine K_then ?_) | (refine at_E ?_; first | refine E_seq ?_ | refine E_region ?_)))
      have hJ := J.own
      rw [List.nil_append] at hJ
      have hJo := J.out
      have sJ : Sl wE v' (dfsN d.notes d.tiers.length id) := own_Sl (css := (dfsN d.notes d.tiers.length id).map fun z => [int z]) (by rw [ints_flat]; exact hJ) (ints_ats _ _) (by simp) (by omega)
      have cS := hs39 _ v' wE sJ (dfs_nodup h d.tiers.length id p k0 hg hk0 (by omega)) hdl
      rw [under_sort h hg hk0 d.tiers.length (Nat.le_refl _)] at cS
      have xE := J.ext
      (repeat' (first | refine eV rfl rfl (val_load rfl rfl rfl (hJo.cellAt rfl)) ?_ | (refine EL_call rfl rfl (entersF rfl rfl en39) cS (fun vS wS hS => ?_); obtain ⟨xS, sS⟩ := hS) | (refine at_EL ?_; first | refine eN ?_ | refine eV rfl rfl (zB rfl rfl) ?_) | (refine at_K ?_; first | refine K_then ?_) | (refine at_E ?_; first | refine E_ret ?_)))
      exact ret_1 rfl rfl ⟨hXr.trans (x4r.trans (xE.trans xS)), sS⟩
end Go.Proofs.Ytaajcbhingpfeaa
