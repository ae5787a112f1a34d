/-
  Runes and patterns, plainly. Walks of the layers runes and pattern. Walks of the layers runes and pattern. Walks of the layers runes and pattern.
-/
import Derived.Test.YtjpjpgeeeigbkaaDoorI
import Derived.Test.YtjpjpgeeeigbkaaDoorY2
import Derived.RangeFuncNested
import Derived.RangeFuncBound
import Derived.RangeFuncCalls
import Derived.RangeFuncLeaves
import Derived.Shelf.Abstract
import Derived.Shelf.RegionOpen
import Derived.WalkKit
import Derived.OwnWalkIn
import Derived.TacticsInMore
import Derived.LoopNIn
import Derived.LoopIn
import Derived.Maps.AppendAt
import Derived.Lib.OthersKept
set_option linter.all false
namespace Go.Proofs.YtjpjpgeeeigbkaaDoor
open Go.RowKit Go.En

def specialI (a : Int) : Bool := decide (a = 42) || decide (a = 63) || decide (a = 92)
def scalI (a : Int) : Bool := decide (0 ≤ a) && decide (a ≤ 1114111) && (decide (a < 55296) || decide (57343 < a))
theorem byte_of {x : Nat} (h : x < 256) : Value.int .u8 ((UInt8.ofNat x).toNat : Int) = .int .u8 (x : Int) := by
  rw [UInt8.toNat_ofNat', Nat.mod_eq_of_lt h]
theorem enc_cells {p : Nat} (hs : ∀ x ∈ encN p, x < 256) : (encB p).map (fun b => Value.int .u8 b.toNat) = (encN p).map fun (x : Nat) => Value.int .u8 (x : Int) := by
  unfold encB
  rw [List.map_map]
  exact List.map_congr_left fun x hx => byte_of (hs x hx)
theorem encN_256 {p : Nat} (hp : p ≤ 1114111) : ∀ x ∈ encN p, x < 256 := by
  intro x hx
  unfold encN at hx
  split at hx
  · simp at hx; omega
  · split at hx
    · simp at hx; omega
    · split at hx
      · simp at hx; omega
      · simp at hx; omega
theorem scalI_eq (p : Nat) : scalI (p : Int) = scal p := by
  unfold scalI scal
  rw [Bool.eq_iff_iff]; simp
  omega
/-- what 'first' gives back -/
def fR (d : List UInt8) : Int × Int := match firstR d with | none => (-1, 0) | some (p, n) => ((p : Int), (n : Int))
theorem accP_le (d : List UInt8) : ∀ k, k ≤ 4 → accP d k ≤ 67108863 ∧ (k ≤ 3 → accP d k ≤ 1048575) := by
  have h0 : leadP (d.getD 0 0).toNat ≤ 255 := by
    have := UInt8.toNat_lt (d.getD 0 0)
    unfold leadP; split <;> (try split) <;> (try split) <;> omega
  intro k hk
  have h1 : accP d 1 = leadP (d.getD 0 0).toNat := rfl
  have h2 : accP d 2 = accP d 1 * 64 + (d.getD 1 0).toNat % 64 := rfl
  have h3 : accP d 3 = accP d 2 * 64 + (d.getD 2 0).toNat % 64 := rfl
  have h4 : accP d 4 = accP d 3 * 64 + (d.getD 3 0).toNat % 64 := rfl
  have hz : accP d 0 = 0 := rfl
  match k, hk with
  | 0, _ => omega
  | 1, _ => omega
  | 2, _ => omega
  | 3, _ => omega
  | 4, _ => omega
theorem drop_get {l : List UInt8} {i j : Nat} (h : i + j < l.length) : l[i + j]? = some ((l.drop i).getD j 0) := by
  rw [List.getElem?_eq_getElem h]
  simp [List.getD_eq_getElem?_getD, List.getElem?_drop, h]
theorem leadN_1 (b : Nat) : 1 ≤ leadN b ∧ leadN b ≤ 4 := by unfold leadN; split <;> (try split) <;> (try split) <;> omega

/-- a slice of ints of the call's own -/
def IntsOwn (w0 w : World) (v : Value) (zs : List Nat) : Prop := w.ownsRow w0.heap.size 3 1 v zs.length (zs.map fun (z : Nat) => int (z : Int))
def PointsR (w : World) (r : Option (List Nat)) (u : Value) (w' : World) : Prop := Ext w w' ∧ match r with | none => u = .tuple #[.slice none 0 0, .bool false] | some zs => ∃ v, u = .tuple #[v, .bool true] ∧ IntsOwn w w' v zs

def intZ (z : Int) : Value := int z
theorem encB_len (p : Nat) : (encB p).length ≤ 4 := by
  unfold encB encN; (repeat' split) <;> simp
theorem flat_len (zs : List Nat) : (zs.map encB).flatten.length ≤ 4 * zs.length := by
  induction zs with
  | nil => simp
  | cons z r ih => have := encB_len z; simp at ih ⊢; omega
theorem flat_take {zs : List Nat} {i : Nat} {z : Nat} (h : zs[i]? = some z) : ((zs.take (i + 1)).map encB).flatten = ((zs.take i).map encB).flatten ++ encB z := by
  obtain ⟨hi, rfl⟩ := List.getElem?_eq_some_iff.1 h
  rw [List.take_succ_eq_append_getElem hi]
  rw [List.map_append, List.flatten_append]; simp
/-- the parts of a pattern, out of its scalars: -1 for any sequence, -2 for any scalar -/
def tokGo : List Nat → Option (List Int)
  | [] => some []
  | z :: r => if z < 32 ∨ z = 127 then none
    else if z = 92 then (match r with | [] => none | y :: r' => if specialI y = true then (tokGo r').map ((y : Int) :: ·) else none)
    else (tokGo r).map ((if z = 42 then -1 else if z = 63 then -2 else (z : Int)) :: ·)
def tokens (p : List UInt8) : Except Int (List Int) :=
  if p = [] then .error 4 else if 64 < p.length then .error 5
  else match points p with | none => .error 3 | some zs => (match tokGo zs with | none => .error 3 | some ts => .ok ts)
def IntsOwnZ (w0 w : World) (v : Value) (zs : List Int) : Prop := w.ownsRow w0.heap.size 3 1 v zs.length (zs.map int)
def TokR (w : World) (r : Except Int (List Int)) (u : Value) (w' : World) : Prop := Ext w w' ∧ match r with | .error e => u = .tuple #[.slice none 0 0, int e] | .ok ts => ∃ v, u = .tuple #[v, int 0] ∧ IntsOwnZ w w' v ts
theorem drop_ith {α : Type} {l : List α} {i : Nat} {z : α} (h : l[i]? = some z) : l.drop i = z :: l.drop (i + 1) := by
  obtain ⟨hi, rfl⟩ := List.getElem?_eq_some_iff.1 h
  exact List.drop_eq_getElem_cons hi
theorem tokGo_cons (z : Nat) (r : List Nat) : tokGo (z :: r) = if z < 32 ∨ z = 127 then none
    else if z = 92 then (match r with | [] => none | y :: r' => if specialI y = true then (tokGo r').map ((y : Int) :: ·) else none)
    else (tokGo r).map ((if z = 42 then -1 else if z = 63 then -2 else (z : Int)) :: ·) := by
  cases r <;> rfl

def checkF (p : List UInt8) : Int := match tokens p with | .error e => e | .ok _ => 0
def wild (t : Int) : Bool := decide (t = -1) || decide (t = -2)
def encT (ts : List Int) : List UInt8 := (ts.map fun t => encB t.toNat).flatten
def plainF (p : List UInt8) : Option (List UInt8) := match tokens p with | .error _ => none | .ok ts => if ts.any wild then none else some (encT ts)
def plainV (r : Option (List UInt8)) : Value := match r with | none => .tuple #[str [], .bool false] | some l => .tuple #[str l, .bool true]
def headF (p : List UInt8) : List UInt8 := match tokens p with | .error _ => [] | .ok ts => encT (ts.takeWhile fun t => !wild t)
/-- what a pattern's parts are -/
def TokOk (t : Int) : Prop := t = -1 ∨ t = -2 ∨ (0 ≤ t ∧ scal t.toNat = true)
theorem tokGo_ok : ∀ (n : Nat) (zs : List Nat) (ts : List Int), zs.length ≤ n → (∀ z ∈ zs, scal z = true) → tokGo zs = some ts → ts.length ≤ zs.length ∧ ∀ t ∈ ts, TokOk t
  | 0, zs, ts, hn, _, h => by
    have : zs = [] := List.eq_nil_of_length_eq_zero (by omega)
    subst this; simp [tokGo] at h; subst h; simp
  | n + 1, [], ts, _, _, h => by simp [tokGo] at h; subst h; simp
  | n + 1, z :: r, ts, hn, hs, h => by
    simp only [List.length_cons] at hn
    rw [tokGo_cons] at h
    split at h
    · cases h
    · split at h
      · split at h
        · cases h
        · rename_i y r'
          split at h
          · cases hr : tokGo r' with
            | none => rw [hr] at h; cases h
            | some us =>
              rw [hr] at h
              simp at h
              subst h
              simp only [List.length_cons] at hn
              obtain ⟨h1, h2⟩ := tokGo_ok n r' us (by omega) (fun z hz => hs z (by simp [hz])) hr
              refine ⟨by simp; omega, fun t ht => ?_⟩
              rcases List.mem_cons.1 ht with rfl | ht
              · exact .inr (.inr ⟨by omega, by simpa using hs y (by simp)⟩)
              · exact h2 t ht
          · cases h
      · cases hr : tokGo r with
        | none => rw [hr] at h; cases h
        | some us =>
          rw [hr] at h
          simp at h
          subst h
          obtain ⟨h1, h2⟩ := tokGo_ok n r us (by omega) (fun z hz => hs z (by simp [hz])) hr
          refine ⟨by simp; omega, fun t ht => ?_⟩
          rcases List.mem_cons.1 ht with rfl | ht
          · split
            · exact .inl rfl
            · split
              · exact .inr (.inl rfl)
              · exact .inr (.inr ⟨by omega, by simpa using hs z (by simp)⟩)
          · exact h2 t ht
theorem tokens_ok {p : List UInt8} {ts : List Int} (h : tokens p = .ok ts) : ts.length ≤ 64 ∧ (∀ t ∈ ts, TokOk t) ∧ p.length ≤ 64 := by
  unfold tokens at h
  split at h
  · cases h
  · split at h
    · cases h
    · split at h
      · cases h
      · rename_i zs hz
        obtain ⟨h1, h2, _⟩ := points_len _ p zs (Nat.le_refl _) hz
        split at h
        · cases h
        · rename_i us hu
          cases h
          obtain ⟨h3, h4⟩ := tokGo_ok _ zs _ (Nat.le_refl _) h2 hu
          exact ⟨by omega, h4, by omega⟩
theorem plain_nat {ts : List Int} (h : ∀ t ∈ ts, 0 ≤ t ∧ scal t.toNat = true) : ts.map int = (ts.map Int.toNat).map (fun (z : Nat) => int (z : Int)) ∧ (∀ z ∈ ts.map Int.toNat, scal z = true) ∧ ((ts.map Int.toNat).map encB).flatten = encT ts := by
  refine ⟨?_, fun z hz => ?_, by simp [encT, List.map_map, Function.comp_def]⟩
  · rw [List.map_map]
    exact List.map_congr_left fun t ht => by have := (h t ht).1; simp [Int.toNat_of_nonneg this]
  · obtain ⟨t, ht, rfl⟩ := List.mem_map.1 hz
    exact (h t ht).2
theorem err_ne {p : List UInt8} {e : Int} (h : tokens p = .error e) : e ≠ 0 := by
  unfold tokens at h
  (repeat' split at h) <;> cases h <;> simp
theorem takeWhile_stop {ts : List Int} {i : Nat} (h : (ts.take i).any wild = false) (hi : i ≤ ts.length) (hs : ∀ t, ts[i]? = some t → wild t = true) : (ts.takeWhile fun t => !wild t) = ts.take i := by
  induction ts generalizing i with
  | nil => simp
  | cons x r ih =>
    cases i with
    | zero =>
      have := hs x (by simp)
      simp [this]
    | succ i =>
      simp only [List.take_succ_cons, List.any_cons, Bool.or_eq_false_iff] at h ⊢
      rw [List.takeWhile_cons, h.1]
      simp only [Bool.not_false, if_true]
      rw [ih h.2 (by simpa using hi) (fun t ht => hs t (by simpa using ht))]
def q1 (c : UInt8) : List UInt8 := if specialI (c.toNat : Int) then [92, c] else [c]
def quoteL (l : List UInt8) : List UInt8 := l.flatMap q1
def byteV (c : UInt8) : Value := .int .u8 c.toNat
theorem quoteL_len (l : List UInt8) : (quoteL l).length ≤ 2 * l.length := by
  induction l with
  | nil => simp [quoteL]
  | cons c r ih =>
    have : (q1 c).length ≤ 2 := by unfold q1; split <;> simp
    simp [quoteL] at ih ⊢; omega
theorem quoteL_take (l : List UInt8) (k : Nat) (c : UInt8) (h : l[k]? = some c) : quoteL (l.take (k + 1)) = quoteL (l.take k) ++ q1 c := by
  obtain ⟨hk, rfl⟩ := List.getElem?_eq_some_iff.1 h
  rw [List.take_succ_eq_append_getElem hk]
  unfold quoteL; rw [List.flatMap_append]; simp

/-- one step of the table: what part t makes of the row before -/
def nextAt (t : Int) (row : List Bool) (zs : List Nat) (prev : List Bool) : Bool :=
  if t = -1 then (row.getD prev.length false || (decide (0 < prev.length) && prev.getD (prev.length - 1) false))
  else decide (0 < prev.length) && row.getD (prev.length - 1) false && (decide (t = -2) || decide (t = ((zs.getD (prev.length - 1) 0 : Nat) : Int)))
def buildN (t : Int) (row : List Bool) (zs : List Nat) : Nat → List Bool
  | 0 => []
  | k + 1 => buildN t row zs k ++ [nextAt t row zs (buildN t row zs k)]
theorem buildN_len (t : Int) (row : List Bool) (zs : List Nat) (k : Nat) : (buildN t row zs k).length = k := by
  induction k with
  | zero => rfl
  | succ k ih => simp [buildN, ih]
def stepRow (zs : List Nat) (row : List Bool) (t : Int) : List Bool := buildN t row zs (zs.length + 1)
def row0 (zs : List Nat) : List Bool := true :: List.replicate zs.length false
def matchT (ts : List Int) (zs : List Nat) : Bool := (ts.foldl (stepRow zs) (row0 zs)).getD zs.length false
def matchF (p s : List UInt8) : Bool := match tokens p, points s with
  | .ok ts, some zs => matchT ts zs
  | _, _ => false
theorem rows_len (zs : List Nat) (ts : List Int) : (ts.foldl (stepRow zs) (row0 zs)).length = zs.length + 1 := by
  have : ∀ (ts : List Int) (row : List Bool), row.length = zs.length + 1 → (ts.foldl (stepRow zs) row).length = zs.length + 1 := by
    intro ts
    induction ts with
    | nil => intro row h; exact h
    | cons t r ih => intro row _; exact ih _ (buildN_len _ _ _ _)
  exact this ts _ (by simp [row0])
/-- the array while it is filled -/
def partRow (t : Int) (row : List Bool) (zs : List Nat) (k : Nat) : List Bool := buildN t row zs k ++ List.replicate (zs.length + 1 - k) false
theorem partRow_len (t : Int) (row : List Bool) (zs : List Nat) (k : Nat) (hk : k ≤ zs.length + 1) : (partRow t row zs k).length = zs.length + 1 := by
  simp [partRow, buildN_len]; omega
theorem partRow_set (t : Int) (row : List Bool) (zs : List Nat) (k : Nat) (hk : k < zs.length + 1) : (partRow t row zs k).set k (nextAt t row zs (buildN t row zs k)) = partRow t row zs (k + 1) := by
  unfold partRow
  obtain ⟨j, hj⟩ : ∃ j, zs.length + 1 - k = j + 1 := ⟨zs.length - k, by omega⟩
  rw [List.set_append_right _ _ (by rw [buildN_len]; exact Nat.le_refl _), buildN_len, hj, show zs.length + 1 - (k + 1) = j by omega]
  simp [List.replicate_succ, buildN]
theorem partRow_prev (t : Int) (row : List Bool) (zs : List Nat) (k : Nat) (hk : 0 < k) : (partRow t row zs k)[k - 1]? = some ((buildN t row zs k).getD (k - 1) false) := by
  unfold partRow
  have h : k - 1 < (buildN t row zs k).length := by rw [buildN_len]; omega
  rw [List.getElem?_append_left h, List.getElem?_eq_getElem h]
  simp [List.getD_eq_getElem?_getD, h]
theorem next_many {row : List Bool} {zs : List Nat} {k : Nat} {c1 : Bool} (hc1 : row[k]? = some c1) : nextAt (-1) row zs (buildN (-1) row zs k) = (c1 || (decide (0 < k) && (buildN (-1) row zs k).getD (k - 1) false)) := by
  unfold nextAt
  rw [if_pos rfl, buildN_len]
  simp [List.getD_eq_getElem?_getD, hc1]
theorem next_other {t : Int} {row : List Bool} {zs : List Nat} {k : Nat} (ht : t ≠ -1) : nextAt t row zs (buildN t row zs k) = (decide (0 < k) && row.getD (k - 1) false && (decide (t = -2) || decide (t = ((zs.getD (k - 1) 0 : Nat) : Int)))) := by
  unfold nextAt
  rw [if_neg ht, buildN_len]
theorem partRow_false {t : Int} {row : List Bool} {zs : List Nat} {k : Nat} (hk : k < zs.length + 1) (h : nextAt t row zs (buildN t row zs k) = false) : partRow t row zs (k + 1) = partRow t row zs k := by
  unfold partRow
  obtain ⟨j, hj⟩ : ∃ j, zs.length + 1 - k = j + 1 := ⟨zs.length - k, by omega⟩
  rw [hj, show zs.length + 1 - (k + 1) = j by omega]
  simp [List.replicate_succ, buildN, h]
theorem getD_some {α : Type} {l : List α} {i : Nat} {d : α} (h : i < l.length) : l[i]? = some (l.getD i d) := by
  rw [List.getElem?_eq_getElem h]; simp [List.getD_eq_getElem?_getD, h]
theorem row_ith {w : World} {b : Nat} {e : TypeId} {α : Type} {f : α → Value} {zs : List α} (h : Row w b e (zs.map f)) {i : Nat} {z : α} (hz : zs[i]? = some z) : w.cell? ⟨b, 0 + i * 1, none⟩ = some (f z) := by
  rw [Nat.mul_one, Nat.zero_add, h.cell, List.getElem?_map, hz]; rfl

end Go.Proofs.YtjpjpgeeeigbkaaDoor
namespace Go.Proofs.YtjpjpgeeeigbkaaDoor
open Go.Lib

/-- the program's state: what has been gathered (kind, scalar), and whether a backslash has just stood -/
abbrev ItSt := List (Int × Nat) × Bool
def itStep (st : ItSt) (z : Nat) : Option ItSt :=
  if st.2 = true ∧ ¬ specialI z = true then none
  else if st.2 = true ∨ ¬ specialI z = true then some (st.1 ++ [(0, z)], false)
  else if z = 42 then some (st.1 ++ [(2, 0)], false)
  else if z = 63 then some (st.1 ++ [(1, 0)], false)
  else some (st.1, true)
def itGo : ItSt → List Nat → Option ItSt
  | st, [] => some st
  | st, z :: r => match itStep st z with | none => none | some s => itGo s r
def tokOf (x : Int × Nat) : Int := if x.1 = 0 then (x.2 : Int) else if x.1 = 1 then -2 else -1
def ctl (z : Nat) : Bool := decide (z < 32) || decide (z = 127)
theorem special_nat (z : Nat) : specialI (z : Int) = (decide (z = 42) || decide (z = 63) || decide (z = 92)) := by
  unfold specialI
  rw [Bool.eq_iff_iff]; simp; omega
theorem kinds_cons {z : Nat} {a : Int} {ys : List (Int × Nat)} (ha : a = 0 ∨ a = 1 ∨ a = 2) (hy : ∀ (a : Int) (b : Nat), (a, b) ∈ ys → a = 0 ∨ a = 1 ∨ a = 2) : ∀ y ∈ (a, z) :: ys, y.1 = 0 ∨ y.1 = 1 ∨ y.1 = 2 := by
  rintro ⟨c, d⟩ hm
  rcases List.mem_cons.1 hm with hm | hm
  · cases hm; exact ha
  · exact hy c d hm
theorem itGo_tok : ∀ (n : Nat) (zs : List Nat) (acc : List (Int × Nat)), zs.length ≤ n → zs.any ctl = false →
    match itGo (acc, false) zs, tokGo zs with
    | some (xs, false), some ts => ∃ ys, xs = acc ++ ys ∧ ts = ys.map tokOf ∧ (∀ y ∈ ys, y.1 = 0 ∨ y.1 = 1 ∨ y.1 = 2)
    | some (_, true), none => True
    | none, none => True
    | _, _ => False
  | 0, zs, acc, h, _ => by
    have : zs = [] := List.eq_nil_of_length_eq_zero (by omega)
    subst this
    exact ⟨[], by simp, rfl, by simp⟩
  | n + 1, [], acc, _, _ => ⟨[], by simp, rfl, by simp⟩
  | n + 1, z :: r, acc, h, hc => by
    simp only [List.length_cons] at h
    simp only [List.any_cons, Bool.or_eq_false_iff] at hc
    have hz := hc.1
    simp only [ctl, Bool.or_eq_false_iff, decide_eq_false_iff_not] at hz
    rw [tokGo_cons, if_neg (by omega)]
    simp only [itGo, itStep]
    by_cases hs : specialI (z : Int) = true
    · rw [if_neg (by simp), if_neg (by simp [hs])]
      have hs' := hs
      rw [special_nat] at hs'
      simp only [Bool.or_eq_true, decide_eq_true_eq] at hs'
      by_cases h42 : z = 42
      · have ih := itGo_tok n r (acc ++ [(2, 0)]) (by omega) hc.2
        rw [if_pos h42, if_neg (by omega), if_pos h42]
        revert ih
        dsimp only
        cases itGo (acc ++ [(2, 0)], false) r with
        | none => cases tokGo r <;> simp
        | some p =>
          obtain ⟨xs, b⟩ := p
          cases b <;> cases tokGo r <;> simp
          rintro ys rfl rfl hy
          exact ⟨(2, 0) :: ys, by simp, by simp [tokOf], fun a b hm => kinds_cons (by simp) hy (a, b) hm⟩
      · rw [if_neg h42]
        by_cases h63 : z = 63
        · have ih := itGo_tok n r (acc ++ [(1, 0)]) (by omega) hc.2
          rw [if_pos h63, if_neg (by omega), if_neg h42, if_pos h63]
          revert ih
          dsimp only
          cases itGo (acc ++ [(1, 0)], false) r with
          | none => cases tokGo r <;> simp
          | some p =>
            obtain ⟨xs, b⟩ := p
            cases b <;> cases tokGo r <;> simp
            rintro ys rfl rfl hy
            exact ⟨(1, 0) :: ys, by simp, by simp [tokOf], fun a b hm => kinds_cons (by simp) hy (a, b) hm⟩
        · rw [if_neg h63, if_pos (by omega)]
          dsimp only
          cases r with
          | nil => simp [itGo]
          | cons y r' =>
            simp only [itGo, itStep]
            by_cases hy : specialI (y : Int) = true
            · rw [if_neg (by simp [hy]), if_pos (by simp), if_pos hy]
              simp only [List.length_cons] at h
              have hc2 := hc.2
              simp only [List.any_cons, Bool.or_eq_false_iff] at hc2
              have ih := itGo_tok n r' (acc ++ [(0, y)]) (by omega) hc2.2
              revert ih
              dsimp only
              cases itGo (acc ++ [(0, y)], false) r' with
              | none => cases tokGo r' <;> simp
              | some p =>
                obtain ⟨xs, b⟩ := p
                cases b <;> cases tokGo r' <;> simp
                rintro ys rfl rfl hy
                exact ⟨(0, y) :: ys, by simp, by simp [tokOf], fun a b hm => kinds_cons (by simp) hy (a, b) hm⟩
            · rw [if_pos (by simp [hy]), if_neg hy]
              simp
    · rw [if_neg (by simp), if_pos (.inr hs)]
      have hs' := hs
      rw [special_nat] at hs'
      simp only [Bool.or_eq_true, decide_eq_true_eq] at hs'
      have ih := itGo_tok n r (acc ++ [(0, z)]) (by omega) hc.2
      rw [if_neg (by omega), if_neg (by omega), if_neg (by omega)]
      revert ih
      dsimp only
      cases itGo (acc ++ [(0, z)], false) r with
      | none => cases tokGo r <;> simp
      | some p =>
        obtain ⟨xs, b⟩ := p
        cases b <;> cases tokGo r <;> simp
        rintro ys rfl rfl hy
        exact ⟨(0, z) :: ys, by simp, by simp [tokOf], fun a b hm => kinds_cons (by simp) hy (a, b) hm⟩
theorem itStep_len {st s : ItSt} {z : Nat} (h : itStep st z = some s) : s.1.length ≤ st.1.length + 1 := by
  unfold itStep at h
  (repeat' split at h) <;> cases h <;> simp
/-- the steps of a range over a valid text -/
theorem dec_step {d : List UInt8} {zs : List Nat} (hd : d ≠ []) (hp : points d = some zs) : ∃ z r n, zs = z :: r ∧ decodeL d = (z, n) ∧ 1 ≤ n ∧ n ≤ d.length ∧ points (d.drop n) = some r ∧ scal z = true := by
  have h := points_step hd
  rw [hp] at h
  cases hf : firstR d with
  | none => rw [hf] at h; cases h
  | some q =>
    obtain ⟨z, n⟩ := q
    rw [hf] at h
    dsimp only at h
    have hs := firstR_some hf
    cases hr : points (d.drop n) with
    | none => rw [hr] at h; cases h
    | some r =>
      rw [hr] at h
      simp at h
      refine ⟨z, r, n, h, ?_, hs.1, hs.2.1, hr, hs.2.2.1⟩
      rw [firstR_eq d hd] at hf
      split at hf
      · cases hf
      · exact Option.some.inj hf
end Go.Proofs.YtjpjpgeeeigbkaaDoor
namespace Go.Proofs.YtjpjpgeeeigbkaaDoor
open Go.RowKit Go.Shelf Go.Lib
attribute [local go_sem] Oper.semAt_some

def enc2 (x : Int × Int) : Array Value := #[.int .i64 x.1, .int .i64 x.2]
theorem iterAt_grown (w : World) (k : Nat) (s : ByteArray) (p : Nat) : w.grownBy (w.iterAt k s p) (some k) :=
  ⟨rfl, rfl, rfl, by rw [Lib.iterAt_size]; exact Nat.le_refl _, fun b _ hne => Lib.iterAt_other w k b s p (fun e => hne (by rw [e]))⟩

set_option maxRecDepth 100000 in
set_option maxHeartbeats 1000000 in
theorem scalars1_in (n : Nat) (hn : 1 ≤ n) (lv Bn : Nat) (l : List UInt8) (zs : List Nat) (hp : points l = some zs) (J Jx : List (Int × Int) → World → Prop) (W : World) (hJ : AbidesFrom W.heap.size J)
    (hY : ∀ pre x W1, J pre W1 → pre.length < zs.length → YieldAt Fence.wide (n - 1) Tryd.prog lv (enc2 x) W1 fun e W' =>
      (e = .returned (.bool true) ∧ J (pre ++ [x]) W' ∧ KeepsWalks W1 W') ∨ (e = .returned (.bool false) ∧ Jx (pre ++ [x]) W'))
    (hBn : W.cell? ⟨Bn, 0, none⟩ = some (.string ⟨l.toArray⟩)) (h0 : J [] W) :
    CallsIn Fence.wide n Tryd.prog 80 #[.func (.yield lv) #[] #[], .pointer (some ⟨Bn, 0, none⟩)] W fun e W' => (∃ v, e = .returned v) ∧
      ((∃ ys, ys.map (·.2) = zs.map Int.ofNat ∧ J ys W') ∨ (∃ pre, True ∧ Jx pre W')) := by
  refine callsIn_of_wp Tryd.func80 rfl trivial ?_ rfl
  simp only [Tryd.ntmps80, List.size_toArray, List.length_cons, List.length_nil, Nat.reduceAdd, Nat.reduceSub, Array.replicate_succ, Array.replicate_zero, List.push_toArray, List.append_toArray, List.nil_append, List.cons_append]
  gi_wp2
  have hsz : (ByteArray.mk l.toArray).size = l.length := by simp [ByteArray.size]
  gi_loopw [] (fun wr => ∃ (pos : Nat) (pre : List (Int × Int)) (rest : List Nat), wr.heap[W.heap.size]? = some (.stringIter ⟨l.toArray⟩ pos) ∧ pos ≤ l.length ∧ points (l.drop pos) = some rest ∧ pre.map (·.2) ++ rest.map Int.ofNat = zs.map Int.ofNat ∧ J pre wr)
    (fun wr => l.length - wr.iterPos W.heap.size)
  case atStart =>
    exact ⟨0, [], zs, World.iter_heap W _ 0, Nat.zero_le _, hp, rfl, hJ [] W _ none h0 (World.grownBy_alloc W _ none) (fun r e => by cases e)⟩
  case round =>
    obtain ⟨pos, pre, rest, hit, hpos, hpt, hx, hJs⟩ := hrel
    by_cases hlt : pos < l.length
    · have hne : l.drop pos ≠ [] := by intro h; have := congrArg List.length h; simp at this; omega
      obtain ⟨z, r, m, rfl, hdec, hn1, hn2, hpr, hz⟩ := dec_step hne hpt
      have hdd := Lib.decodeL_drop ⟨l.toArray⟩ pos
      simp only [List.toList_toArray] at hdd
      rw [hdec] at hdd
      have hd1 : (Utf8.decode ⟨l.toArray⟩ pos).1 = z := by rw [← hdd]
      have hd2 : (Utf8.decode ⟨l.toArray⟩ pos).2 = m := by rw [← hdd]
      have hnx : ∀ ty, (Instr.next (.pointer (some ⟨W.heap.size, 0, none⟩)) true ty).run Tryd.prog wr = _ := fun ty => Lib.run_next_any_at wr W.heap.size ⟨l.toArray⟩ pos ty hit (by rw [hsz]; exact hlt)
      rw [hd1, hd2] at hnx
      have hit2 := Lib.iterAt_heap wr W.heap.size ⟨l.toArray⟩ pos (pos + m) hit
      have hJ2 : J pre (wr.iterAt W.heap.size ⟨l.toArray⟩ (pos + m)) := hJ pre wr _ (some W.heap.size) hJs (iterAt_grown _ _ _ _) (fun r e => by cases e; exact ⟨Nat.le_refl _, _, hit, rfl⟩)
      have hlen := congrArg List.length hx
      simp only [List.length_append, List.length_map, List.length_cons] at hlen
      obtain ⟨fn, tmps, assign, body, hy, hR⟩ := hY pre ((pos : Int), (z : Int)) _ hJ2 (by omega)
      dsimp only [enc2] at hy
      have hz2 := (scal_iff.1 hz).1
      gi_wp2
      rw [List.length_drop] at hn2
      rw [List.drop_drop] at hpr
      refine hR.mono ?_
      rintro e W3 (⟨rfl, hJ3, hk3⟩ | ⟨rfl, hJx3⟩)
      · have hit3 : W3.heap[W.heap.size]? = some (.stringIter ⟨l.toArray⟩ (pos + m)) := hk3.same _ _ hit2 rfl
        gi_wp2
        go_roundw
        case rel => exact ⟨pos + m, pre ++ [((pos : Int), (z : Int))], r, hit3, by omega, hpr, by rw [← hx]; simp, hJ3⟩
        case measure => simp only [World.iterPos, hit3, hit]; omega
      · gi_wp2
        refine bodyPost_ret (results_none rfl _ _ _) rfl ?_
        exact ⟨⟨_, rfl⟩, .inr ⟨pre ++ [((pos : Int), (z : Int))], trivial, hJx3⟩⟩
    · have : pos = l.length := by omega
      subst this
      rw [List.drop_length, points_nil] at hpt
      cases hpt
      have hnx : ∀ ty, (Instr.next (.pointer (some ⟨W.heap.size, 0, none⟩)) true ty).run Tryd.prog wr = _ := fun ty => Lib.run_next_end_at wr W.heap.size ⟨l.toArray⟩ l.length ty hit (by rw [hsz]; omega)
      gi_wp2
      go_end0
      exact ⟨⟨_, rfl⟩, .inl ⟨pre, by simpa using hx, hJs⟩⟩

theorem scalars_stops (n : Nat) (hn : 1 ≤ n) (Bn : Nat) (l : List UInt8) (zs : List Nat) (hp : points l = some zs) (w : World) (hBn : Bn < w.heap.size) (hc : w.cell? ⟨Bn, 0, none⟩ = some (.string ⟨l.toArray⟩)) :
    SeqStopsK Fence.wide n Tryd.prog 80 #[.pointer (some ⟨Bn, 0, none⟩)] enc2 KeepsWalks (fun ys => ys.map (·.2) = zs.map Int.ofNat) (fun _ => True) zs.length w := fun lv J Jx W hW hJ _ hY h0 =>
  scalars1_in n hn lv Bn l zs hp J Jx W hJ hY ((hW.cell (p := ⟨Bn, 0, none⟩) hBn).trans hc) h0

theorem scalars_in (l : List UInt8) (w : World) :
    Calls Tryd.prog 70 #[.string ⟨l.toArray⟩] w fun e w' => e = .returned (.func (.func 80) #[] #[.pointer (some ⟨w.heap.size, 0, none⟩)]) ∧ w' = w.alloc (.cells #[.string ⟨l.toArray⟩] 9) := by
  refine callsIn_wide (n := 1) |>.1 ?_
  refine callsIn_of_wp Tryd.func70 rfl trivial ?_ rfl
  simp only [Tryd.ntmps70, List.size_toArray, List.length_cons, List.length_nil, Nat.reduceAdd, Nat.reduceSub, Array.replicate_succ, Array.replicate_zero, List.push_toArray, List.append_toArray, List.nil_append, List.cons_append]
  gi_wp2
  go_ret
  exact ⟨rfl, rfl⟩
end Go.Proofs.YtjpjpgeeeigbkaaDoor
namespace Go.Proofs.YtjpjpgeeeigbkaaDoor
open Go.RowKit Go.En


theorem encode_scal {z : Nat} (hz : scal z = true) : Utf8.encode (z : Int) = ⟨(encB z).toArray⟩ := by
  have h := (scal_iff.1 hz)
  have hv : Utf8.valid (z : Int) = true := by
    unfold Utf8.valid; simp; omega
  unfold Utf8.encode encB encN
  rw [hv]
  simp only [if_true, Int.toNat_natCast]
  (repeat' split) <;> first | (exfalso; omega) | rfl
theorem val_rune_str {P : Program} {L : List (Nat × Value)} {w : World} {o : Oper} {s d : TypeId} {x : Operand} {k : IntKind} {z : Nat} [UT P s (.int k)] [UT P d .string] (ho : o.op = .convert s d x) (hx : ev L x = some (.int k (z : Int))) (hz : scal z = true) :
    Val P L w o (str (encB z)) := fun ρ ha => by
  have h0 := ha.ev (by rw [ho]; simp [Op.operands]) hx
  have h3 := run_ut (t := s) (P := P) w
  have h4 := run_ut (t := d) (P := P) w
  simp [execOp, ho, h0, convert, go_sem, h3, h4, Conv.intToString, encode_scal hz]
theorem runes_from {l : List UInt8} : ∀ (k pos : Nat) (acc : Array Value) (rest : List Nat), l.length ≤ pos + k → points (l.drop pos) = some rest → Conv.runesFrom ⟨l.toArray⟩ k pos acc = acc ++ (rest.map fun (z : Nat) => Value.int .i32 (z : Int)).toArray
  | 0, pos, acc, rest, hk, hp => by
    rw [List.drop_eq_nil_of_le (by omega), points_nil] at hp
    cases hp
    simp [Conv.runesFrom]
  | k + 1, pos, acc, rest, hk, hp => by
    have hsz : (ByteArray.mk l.toArray).size = l.length := by simp [ByteArray.size]
    unfold Conv.runesFrom
    rw [hsz]
    by_cases hlt : pos < l.length
    · rw [if_pos hlt]
      have hne : l.drop pos ≠ [] := by intro h; have := congrArg List.length h; simp at this; omega
      obtain ⟨z, r, m, rfl, hdec, hn1, hn2, hpr, hz⟩ := dec_step hne hp
      have hdd := Lib.decodeL_drop ⟨l.toArray⟩ pos
      simp only [List.toList_toArray] at hdd
      rw [hdec] at hdd
      rw [← hdd]
      dsimp only
      rw [List.drop_drop] at hpr
      rw [runes_from k (pos + m) _ r (by omega) hpr]
      simp
    · rw [if_neg hlt]
      rw [List.drop_eq_nil_of_le (by omega), points_nil] at hp
      cases hp
      simp
theorem EL_runes {P : Program} {n : Nat} {Q : Post} {L : List (Nat × Value)} {w : World} {ops : List Oper} {o : Oper} {rest : List Oper} {c s d e : TypeId} {x : Operand} {l : List UInt8} {zs : List Nat} [us : UT P s .string] [ud : UT P d (.slice e)] [ue : UT P e (.int .i32)]
    (hp : points l = some zs) (hl : zs.length ≤ 1048576) (hg : gst ops L o = some true) (hd : odst n o.dst = some c) (ho : o.op = .convert s d x) (hx : ev L x = some (str l))
    (k : ∀ b cap w', Ext w w' → b = w.heap.size → zs.length ≤ cap → At w' b 0 (zs.map fun (z : Nat) => Value.int .i32 (z : Int)) → EL P n ops Q rest ((c, .slice (some ⟨b, 0, none⟩) zs.length cap) :: L) w') : EL P n ops Q (o :: rest) L w := by
  have hsz : (ByteArray.mk l.toArray).size = l.length := by simp [ByteArray.size]
  have hr : Conv.runesFrom ⟨l.toArray⟩ (ByteArray.mk l.toArray).size 0 #[] = (zs.map fun (z : Nat) => Value.int .i32 (z : Int)).toArray := by
    rw [runes_from _ 0 #[] zs (by omega) hp]; simp
  have h := run_runes_of_string (P := P) w s d e ⟨l.toArray⟩ us.u ud.u ue.u (by rw [hr]; simp; omega)
  rw [hr] at h
  simp only [List.size_toArray, List.length_map] at h
  refine EL_valw hg hd (fun ρ ha => ?_) (k w.heap.size _ (w.drew.alloc (.cells ((zs.map fun (z : Nat) => Value.int .i32 (z : Int)).toArray ++ Array.replicate (grownCap w zs.length 0 e - zs.length) (.int .i32 0)) e)) ((ext_drew w).trans (ext_alloc _ _)) rfl (grownCap_ge w zs.length 0 e) ?_)
  · have h0 := ha.ev (by rw [ho]; simp [Op.operands]) hx
    simp only [execOp, ho, h0, h, Sem.run_bind, Result.andThen_ok]
    rfl
  · intro j v hv
    have hj := (List.getElem?_eq_some_iff.1 hv).1
    rw [Nat.zero_add]
    have := heap_alloc_new w.drew (.cells ((zs.map fun (z : Nat) => Value.int .i32 (z : Int)).toArray ++ Array.replicate (grownCap w zs.length 0 e - zs.length) (.int .i32 0)) e)
    simp only [World.cell?]
    rw [show w.drew.heap.size = w.heap.size from rfl] at this
    rw [this]
    dsimp only
    rw [Array.getElem?_append_left (by simpa using hj)]
    simpa using hv
/-- a struct copied into a variable of its own -/
theorem EL_storeA {P : Program} {n : Nat} {Q : Post} {L : List (Nat × Value)} {w : World} {ops : List Oper} {o : Oper} {rest : List Oper} {t : TypeId} {x y : Operand} {z : Value} {size bytes : Nat} {b : Nat} {e : TypeId} {cs cs0 : List Value} [TI P t z size bytes] {w0 : World}
    (hr : Row w b e cs0) (x0 : Ext w0 w) (hb : w0.heap.size ≤ b) (hg : gst ops L o = some true) (hd : o.dst = none) (ho : o.op = .store t x y)
    (hx : ev L x = some (.pointer (some ⟨b, 0, none⟩))) (hy : ev L y = some (.agg cs.toArray)) (hs : Nat.beq cs.length size = true) (hs0 : Nat.beq cs0.length size = true) (h1 : cs.all Value.oneCell' = true)
    (k : ∀ w', Row w' b e cs → Ext w0 w' → EL P n ops Q rest L w') : EL P n ops Q (o :: rest) L w := by
  have e1 := Nat.eq_of_beq_eq_true hs
  have e0 := Nat.eq_of_beq_eq_true hs0
  refine EL_store hg hd ho hx hy (by simpa [Value.cells] using e1) (by simpa [Value.cells] using h1) hr (by omega) fun w' h2 h3 _ => k w' ?_ (h3.ext x0 fun b' hb' => by cases hb'; exact hb)
  rw [show cs0.take 0 = [] by simp, show cs0.drop (0 + size) = [] by apply List.drop_eq_nil_of_le; omega] at h2
  simpa [Value.cells] using h2
end Go.Proofs.YtjpjpgeeeigbkaaDoor
