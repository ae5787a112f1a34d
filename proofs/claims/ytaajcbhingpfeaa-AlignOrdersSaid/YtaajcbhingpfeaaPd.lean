/-
  Runes and patterns, plainly.
-/
import Derived.Test.YtaajcbhingpfeaaI
import Derived.Test.YtaajcbhingpfeaaPn
set_option linter.all false
namespace Go.Proofs.Ytaajcbhingpfeaa
open Go.RowKit Go.En

def specialI (a : Int) : Bool := decide (a = 42) || decide (a = 63) || decide (a = 92)
def scalI (a : Int) : Bool := decide (0 ≤ a) && decide (a ≤ 1114111) && (decide (a < 55296) || decide (57343 < a))
theorem byte_of {x : Nat} (h : x < 256) : Value.int .u8 ((UInt8.ofNat x).toNat : Int) = .int .u8 (x : Int) := by
  rw [UInt8.toNat_ofNat', Nat.mod_eq_of_lt h]
theorem enc_cells {p : Nat} (hs : ∀ x ∈ encN p, x < 256) : (encB p).map (fun b => Value.int .u8 b.toNat) = (encN p).map fun (x : Nat) => Value.int .u8 (x : Int) := by
  unfold encB
  rw [List.map_map]
  exact List.map_congr_left fun x hx => byte_of (hs x hx)
theorem encN_256 {p : Nat} (hp : p ≤ 1114111) : ∀ x ∈ encN p, x < 256 := by
  intro x hx
  unfold encN at hx
  split at hx
  · simp at hx; omega
  · split at hx
    · simp at hx; omega
    · split at hx
      · simp at hx; omega
      · simp at hx; omega
theorem scalI_eq (p : Nat) : scalI (p : Int) = scal p := by
  unfold scalI scal
  rw [Bool.eq_iff_iff]; simp
  omega
/-- what 'first' gives back -/
def fR (d : List UInt8) : Int × Int := match firstR d with | none => (-1, 0) | some (p, n) => ((p : Int), (n : Int))
theorem accP_le (d : List UInt8) : ∀ k, k ≤ 4 → accP d k ≤ 67108863 ∧ (k ≤ 3 → accP d k ≤ 1048575) := by
  have h0 : leadP (d.getD 0 0).toNat ≤ 255 := by
    have := UInt8.toNat_lt (d.getD 0 0)
    unfold leadP; split <;> (try split) <;> (try split) <;> omega
  intro k hk
  have h1 : accP d 1 = leadP (d.getD 0 0).toNat := rfl
  have h2 : accP d 2 = accP d 1 * 64 + (d.getD 1 0).toNat % 64 := rfl
  have h3 : accP d 3 = accP d 2 * 64 + (d.getD 2 0).toNat % 64 := rfl
  have h4 : accP d 4 = accP d 3 * 64 + (d.getD 3 0).toNat % 64 := rfl
  have hz : accP d 0 = 0 := rfl
  match k, hk with
  | 0, _ => omega
  | 1, _ => omega
  | 2, _ => omega
  | 3, _ => omega
  | 4, _ => omega
theorem drop_get {l : List UInt8} {i j : Nat} (h : i + j < l.length) : l[i + j]? = some ((l.drop i).getD j 0) := by
  rw [List.getElem?_eq_getElem h]
  simp [List.getD_eq_getElem?_getD, List.getElem?_drop, h]
theorem leadN_1 (b : Nat) : 1 ≤ leadN b ∧ leadN b ≤ 4 := by unfold leadN; split <;> (try split) <;> (try split) <;> omega

/-- a slice of ints of the call's own -/
def IntsOwn (w0 w : World) (v : Value) (zs : List Nat) : Prop := w.ownsRow w0.heap.size 3 1 v zs.length (zs.map fun (z : Nat) => int (z : Int))
def PointsR (w : World) (r : Option (List Nat)) (u : Value) (w' : World) : Prop := Ext w w' ∧ match r with | none => u = .tuple #[.slice none 0 0, .bool false] | some zs => ∃ v, u = .tuple #[v, .bool true] ∧ IntsOwn w w' v zs

def intZ (z : Int) : Value := int z
theorem encB_len (p : Nat) : (encB p).length ≤ 4 := by
  unfold encB encN; (repeat' split) <;> simp
theorem flat_len (zs : List Nat) : (zs.map encB).flatten.length ≤ 4 * zs.length := by
  induction zs with
  | nil => simp
  | cons z r ih => have := encB_len z; simp at ih ⊢; omega
theorem flat_take {zs : List Nat} {i : Nat} {z : Nat} (h : zs[i]? = some z) : ((zs.take (i + 1)).map encB).flatten = ((zs.take i).map encB).flatten ++ encB z := by
  obtain ⟨hi, rfl⟩ := List.getElem?_eq_some_iff.1 h
  rw [List.take_succ_eq_append_getElem hi]
  rw [List.map_append, List.flatten_append]; simp
/-- the parts of a pattern, out of its scalars: -1 for any sequence, -2 for any scalar -/
def tokGo : List Nat → Option (List Int)
  | [] => some []
  | z :: r => if z < 32 ∨ z = 127 then none
    else if z = 92 then (match r with | [] => none | y :: r' => if specialI y = true then (tokGo r').map ((y : Int) :: ·) else none)
    else (tokGo r).map ((if z = 42 then -1 else if z = 63 then -2 else (z : Int)) :: ·)
def tokens (p : List UInt8) : Except Int (List Int) :=
  if p = [] then .error 4 else if 64 < p.length then .error 5
  else match points p with | none => .error 3 | some zs => (match tokGo zs with | none => .error 3 | some ts => .ok ts)
def IntsOwnZ (w0 w : World) (v : Value) (zs : List Int) : Prop := w.ownsRow w0.heap.size 3 1 v zs.length (zs.map int)
def TokR (w : World) (r : Except Int (List Int)) (u : Value) (w' : World) : Prop := Ext w w' ∧ match r with | .error e => u = .tuple #[.slice none 0 0, int e] | .ok ts => ∃ v, u = .tuple #[v, int 0] ∧ IntsOwnZ w w' v ts
theorem drop_ith {α : Type} {l : List α} {i : Nat} {z : α} (h : l[i]? = some z) : l.drop i = z :: l.drop (i + 1) := by
  obtain ⟨hi, rfl⟩ := List.getElem?_eq_some_iff.1 h
  exact List.drop_eq_getElem_cons hi
theorem tokGo_cons (z : Nat) (r : List Nat) : tokGo (z :: r) = if z < 32 ∨ z = 127 then none
    else if z = 92 then (match r with | [] => none | y :: r' => if specialI y = true then (tokGo r').map ((y : Int) :: ·) else none)
    else (tokGo r).map ((if z = 42 then -1 else if z = 63 then -2 else (z : Int)) :: ·) := by
  cases r <;> rfl

def checkF (p : List UInt8) : Int := match tokens p with | .error e => e | .ok _ => 0
def wild (t : Int) : Bool := decide (t = -1) || decide (t = -2)
def encT (ts : List Int) : List UInt8 := (ts.map fun t => encB t.toNat).flatten
def plainF (p : List UInt8) : Option (List UInt8) := match tokens p with | .error _ => none | .ok ts => if ts.any wild then none else some (encT ts)
def plainV (r : Option (List UInt8)) : Value := match r with | none => .tuple #[str [], .bool false] | some l => .tuple #[str l, .bool true]
def headF (p : List UInt8) : List UInt8 := match tokens p with | .error _ => [] | .ok ts => encT (ts.takeWhile fun t => !wild t)
/-- what a pattern's parts are -/
def TokOk (t : Int) : Prop := t = -1 ∨ t = -2 ∨ (0 ≤ t ∧ scal t.toNat = true)
theorem tokGo_ok : ∀ (n : Nat) (zs : List Nat) (ts : List Int), zs.length ≤ n → (∀ z ∈ zs, scal z = true) → tokGo zs = some ts → ts.length ≤ zs.length ∧ ∀ t ∈ ts, TokOk t
  | 0, zs, ts, hn, _, h => by
    have : zs = [] := List.eq_nil_of_length_eq_zero (by omega)
    subst this; simp [tokGo] at h; subst h; simp
  | n + 1, [], ts, _, _, h => by simp [tokGo] at h; subst h; simp
  | n + 1, z :: r, ts, hn, hs, h => by
    simp only [List.length_cons] at hn
    rw [tokGo_cons] at h
    split at h
    · cases h
    · split at h
      · split at h
        · cases h
        · rename_i y r'
          split at h
          · cases hr : tokGo r' with
            | none => rw [hr] at h; cases h
            | some us =>
              rw [hr] at h
              simp at h
              subst h
              simp only [List.length_cons] at hn
              obtain ⟨h1, h2⟩ := tokGo_ok n r' us (by omega) (fun z hz => hs z (by simp [hz])) hr
              refine ⟨by simp; omega, fun t ht => ?_⟩
              rcases List.mem_cons.1 ht with rfl | ht
              · exact .inr (.inr ⟨by omega, by simpa using hs y (by simp)⟩)
              · exact h2 t ht
          · cases h
      · cases hr : tokGo r with
        | none => rw [hr] at h; cases h
        | some us =>
          rw [hr] at h
          simp at h
          subst h
          obtain ⟨h1, h2⟩ := tokGo_ok n r us (by omega) (fun z hz => hs z (by simp [hz])) hr
          refine ⟨by simp; omega, fun t ht => ?_⟩
          rcases List.mem_cons.1 ht with rfl | ht
          · split
            · exact .inl rfl
            · split
              · exact .inr (.inl rfl)
              · exact .inr (.inr ⟨by omega, by simpa using hs z (by simp)⟩)
          · exact h2 t ht
theorem tokens_ok {p : List UInt8} {ts : List Int} (h : tokens p = .ok ts) : ts.length ≤ 64 ∧ (∀ t ∈ ts, TokOk t) ∧ p.length ≤ 64 := by
  unfold tokens at h
  split at h
  · cases h
  · split at h
    · cases h
    · split at h
      · cases h
      · rename_i zs hz
        obtain ⟨h1, h2, _⟩ := points_len _ p zs (Nat.le_refl _) hz
        split at h
        · cases h
        · rename_i us hu
          cases h
          obtain ⟨h3, h4⟩ := tokGo_ok _ zs _ (Nat.le_refl _) h2 hu
          exact ⟨by omega, h4, by omega⟩
theorem plain_nat {ts : List Int} (h : ∀ t ∈ ts, 0 ≤ t ∧ scal t.toNat = true) : ts.map int = (ts.map Int.toNat).map (fun (z : Nat) => int (z : Int)) ∧ (∀ z ∈ ts.map Int.toNat, scal z = true) ∧ ((ts.map Int.toNat).map encB).flatten = encT ts := by
  refine ⟨?_, fun z hz => ?_, by simp [encT, List.map_map, Function.comp_def]⟩
  · rw [List.map_map]
    exact List.map_congr_left fun t ht => by have := (h t ht).1; simp [Int.toNat_of_nonneg this]
  · obtain ⟨t, ht, rfl⟩ := List.mem_map.1 hz
    exact (h t ht).2
theorem err_ne {p : List UInt8} {e : Int} (h : tokens p = .error e) : e ≠ 0 := by
  unfold tokens at h
  (repeat' split at h) <;> cases h <;> simp
theorem takeWhile_stop {ts : List Int} {i : Nat} (h : (ts.take i).any wild = false) (hi : i ≤ ts.length) (hs : ∀ t, ts[i]? = some t → wild t = true) : (ts.takeWhile fun t => !wild t) = ts.take i := by
  induction ts generalizing i with
  | nil => simp
  | cons x r ih =>
    cases i with
    | zero =>
      have := hs x (by simp)
      simp [this]
    | succ i =>
      simp only [List.take_succ_cons, List.any_cons, Bool.or_eq_false_iff] at h ⊢
      rw [List.takeWhile_cons, h.1]
      simp only [Bool.not_false, if_true]
      rw [ih h.2 (by simpa using hi) (fun t ht => hs t (by simpa using ht))]
def q1 (c : UInt8) : List UInt8 := if specialI (c.toNat : Int) then [92, c] else [c]
def quoteL (l : List UInt8) : List UInt8 := l.flatMap q1
def byteV (c : UInt8) : Value := .int .u8 c.toNat
theorem quoteL_len (l : List UInt8) : (quoteL l).length ≤ 2 * l.length := by
  induction l with
  | nil => simp [quoteL]
  | cons c r ih =>
    have : (q1 c).length ≤ 2 := by unfold q1; split <;> simp
    simp [quoteL] at ih ⊢; omega
theorem quoteL_take (l : List UInt8) (k : Nat) (c : UInt8) (h : l[k]? = some c) : quoteL (l.take (k + 1)) = quoteL (l.take k) ++ q1 c := by
  obtain ⟨hk, rfl⟩ := List.getElem?_eq_some_iff.1 h
  rw [List.take_succ_eq_append_getElem hk]
  unfold quoteL; rw [List.flatMap_append]; simp

/-- one step of the table: what part t makes of the row before -/
def nextAt (t : Int) (row : List Bool) (zs : List Nat) (prev : List Bool) : Bool :=
  if t = -1 then (row.getD prev.length false || (decide (0 < prev.length) && prev.getD (prev.length - 1) false))
  else decide (0 < prev.length) && row.getD (prev.length - 1) false && (decide (t = -2) || decide (t = ((zs.getD (prev.length - 1) 0 : Nat) : Int)))
def buildN (t : Int) (row : List Bool) (zs : List Nat) : Nat → List Bool
  | 0 => []
  | k + 1 => buildN t row zs k ++ [nextAt t row zs (buildN t row zs k)]
theorem buildN_len (t : Int) (row : List Bool) (zs : List Nat) (k : Nat) : (buildN t row zs k).length = k := by
  induction k with
  | zero => rfl
  | succ k ih => simp [buildN, ih]
def stepRow (zs : List Nat) (row : List Bool) (t : Int) : List Bool := buildN t row zs (zs.length + 1)
def row0 (zs : List Nat) : List Bool := true :: List.replicate zs.length false
def matchT (ts : List Int) (zs : List Nat) : Bool := (ts.foldl (stepRow zs) (row0 zs)).getD zs.length false
def matchF (p s : List UInt8) : Bool := match tokens p, points s with
  | .ok ts, some zs => matchT ts zs
  | _, _ => false
theorem rows_len (zs : List Nat) (ts : List Int) : (ts.foldl (stepRow zs) (row0 zs)).length = zs.length + 1 := by
  have : ∀ (ts : List Int) (row : List Bool), row.length = zs.length + 1 → (ts.foldl (stepRow zs) row).length = zs.length + 1 := by
    intro ts
    induction ts with
    | nil => intro row h; exact h
    | cons t r ih => intro row _; exact ih _ (buildN_len _ _ _ _)
  exact this ts _ (by simp [row0])
/-- the array while it is filled -/
def partRow (t : Int) (row : List Bool) (zs : List Nat) (k : Nat) : List Bool := buildN t row zs k ++ List.replicate (zs.length + 1 - k) false
theorem partRow_len (t : Int) (row : List Bool) (zs : List Nat) (k : Nat) (hk : k ≤ zs.length + 1) : (partRow t row zs k).length = zs.length + 1 := by
  simp [partRow, buildN_len]; omega
theorem partRow_set (t : Int) (row : List Bool) (zs : List Nat) (k : Nat) (hk : k < zs.length + 1) : (partRow t row zs k).set k (nextAt t row zs (buildN t row zs k)) = partRow t row zs (k + 1) := by
  unfold partRow
  obtain ⟨j, hj⟩ : ∃ j, zs.length + 1 - k = j + 1 := ⟨zs.length - k, by omega⟩
  rw [List.set_append_right _ _ (by rw [buildN_len]; exact Nat.le_refl _), buildN_len, hj, show zs.length + 1 - (k + 1) = j by omega]
  simp [List.replicate_succ, buildN]
theorem partRow_prev (t : Int) (row : List Bool) (zs : List Nat) (k : Nat) (hk : 0 < k) : (partRow t row zs k)[k - 1]? = some ((buildN t row zs k).getD (k - 1) false) := by
  unfold partRow
  have h : k - 1 < (buildN t row zs k).length := by rw [buildN_len]; omega
  rw [List.getElem?_append_left h, List.getElem?_eq_getElem h]
  simp [List.getD_eq_getElem?_getD, h]
theorem next_many {row : List Bool} {zs : List Nat} {k : Nat} {c1 : Bool} (hc1 : row[k]? = some c1) : nextAt (-1) row zs (buildN (-1) row zs k) = (c1 || (decide (0 < k) && (buildN (-1) row zs k).getD (k - 1) false)) := by
  unfold nextAt
  rw [if_pos rfl, buildN_len]
  simp [List.getD_eq_getElem?_getD, hc1]
theorem next_other {t : Int} {row : List Bool} {zs : List Nat} {k : Nat} (ht : t ≠ -1) : nextAt t row zs (buildN t row zs k) = (decide (0 < k) && row.getD (k - 1) false && (decide (t = -2) || decide (t = ((zs.getD (k - 1) 0 : Nat) : Int)))) := by
  unfold nextAt
  rw [if_neg ht, buildN_len]
theorem partRow_false {t : Int} {row : List Bool} {zs : List Nat} {k : Nat} (hk : k < zs.length + 1) (h : nextAt t row zs (buildN t row zs k) = false) : partRow t row zs (k + 1) = partRow t row zs k := by
  unfold partRow
  obtain ⟨j, hj⟩ : ∃ j, zs.length + 1 - k = j + 1 := ⟨zs.length - k, by omega⟩
  rw [hj, show zs.length + 1 - (k + 1) = j by omega]
  simp [List.replicate_succ, buildN, h]
theorem getD_some {α : Type} {l : List α} {i : Nat} {d : α} (h : i < l.length) : l[i]? = some (l.getD i d) := by
  rw [List.getElem?_eq_getElem h]; simp [List.getD_eq_getElem?_getD, h]
theorem row_ith {w : World} {b : Nat} {e : TypeId} {α : Type} {f : α → Value} {zs : List α} (h : Row w b e (zs.map f)) {i : Nat} {z : α} (hz : zs[i]? = some z) : w.cell? ⟨b, 0 + i * 1, none⟩ = some (f z) := by
  rw [Nat.mul_one, Nat.zero_add, h.cell, List.getElem?_map, hz]; rfl

end Go.Proofs.Ytaajcbhingpfeaa
