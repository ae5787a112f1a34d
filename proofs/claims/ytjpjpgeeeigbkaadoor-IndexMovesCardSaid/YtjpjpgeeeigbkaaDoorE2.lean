/-
  The engine, second part: slices that are read.
-/
import Derived.Test.YtjpjpgeeeigbkaaDoorE
set_option linter.all false
namespace Go.En
open Go.RowKit

/-- a slice that is read: n elements, their cells -/
def SlC (w : World) (v : Value) (n : Nat) (cs : List Value) : Prop := ∃ a cap, v = .slice a n cap ∧ n ≤ cap ∧ (0 < n → ∃ b off, a = some ⟨b, off, none⟩ ∧ At w b off cs)
theorem SlC.ext {w w' : World} {v : Value} {n : Nat} {cs : List Value} (h : SlC w v n cs) (x : Ext w w') : SlC w' v n cs := by
  obtain ⟨a, cap, hv, hc, h⟩ := h
  exact ⟨a, cap, hv, hc, fun hn => by obtain ⟨b, off, ha, hat⟩ := h hn; exact ⟨b, off, ha, hat.ext x⟩⟩
theorem own_sl {w : World} {B : Nat} {e : TypeId} {sz : Nat} {v : Value} {n : Nat} {xs : List Value} (h : w.ownsRow B e sz v n xs) : SlC w v n xs := by
  rcases own_read h with ⟨rfl, rfl, rfl⟩ | ⟨b, cap, rfl, hc, _, _, hat⟩
  · exact ⟨none, 0, rfl, Nat.le_refl _, fun h => absurd h (Nat.lt_irrefl 0)⟩
  · exact ⟨_, cap, rfl, hc, fun _ => ⟨b, 0, rfl, hat⟩⟩
theorem own_weak {w : World} {B B' : Nat} {e : TypeId} {sz : Nat} {v : Value} {n : Nat} {xs : List Value} (h : w.ownsRow B e sz v n xs) (hB : B' ≤ B) : w.ownsRow B' e sz v n xs := by
  refine ⟨h.1, ?_⟩
  rcases h.2 with h2 | ⟨g, cap, cur, hv, hb, r⟩
  · exact .inl h2
  · exact .inr ⟨g, cap, cur, hv, Nat.le_trans hB hb, r⟩
/-- cell i of a row of single cells -/
theorem At.ith {w : World} {b off : Nat} {α : Type} {f : α → Value} {zs : List α} (h : At w b off (zs.map f)) {i : Nat} {z : α} (hz : zs[i]? = some z) : w.cell? ⟨b, off + i * 1, none⟩ = some (f z) := by
  rw [Nat.mul_one]
  exact h i _ (by rw [List.getElem?_map, hz]; rfl)
/-- the cells of element i, of k cells each -/
theorem At.elem {w : World} {b : Nat} {α : Type} {f : α → List Value} {k : Nat} : ∀ {zs : List α} {off : Nat}, (∀ z ∈ zs, (f z).length = k) → At w b off (zs.map f).flatten → ∀ {i : Nat} {z : α}, zs[i]? = some z → At w b (off + i * k) (f z)
  | [], _, _, _, i, z, h => by simp at h
  | y :: r, off, hk, h, 0, z, hz => by
    simp at hz
    subst hz
    rw [Nat.zero_mul, Nat.add_zero]
    intro j v hv
    have hj : j < (f y).length := (List.getElem?_eq_some_iff.1 hv).1
    exact h j v (by rw [List.map_cons, List.flatten_cons, List.getElem?_append_left hj]; exact hv)
  | y :: r, off, hk, h, i + 1, z, hz => by
    have hy := hk y (by simp)
    have h2 : At w b (off + k) (r.map f).flatten := by
      intro j v hv
      have := h (k + j) v (by rw [List.map_cons, List.flatten_cons, List.getElem?_append_right (by omega), hy, Nat.add_sub_cancel_left]; exact hv)
      rwa [← Nat.add_assoc] at this
    have h3 := At.elem (fun z hz => hk z (by simp [hz])) h2 (i := i) (z := z) (by simpa using hz)
    rw [show off + (i + 1) * k = off + k + i * k by rw [Nat.add_mul]; omega]
    exact h3

section
variable {P : Program} {n : Nat} {Q : Post} {L : List (Nat × Value)} {w w0 : World} {ops l tl : List Oper} {o : Oper} {rest : List Oper} {G : List (Nat × Ent)}
theorem RQ_gcase {j d : Nat} {b c : Bool} (_hg : o.guard = some (j, c)) (_hj : nthd ops j = some d) (_hl : gk G d = some (.v (.bool b))) (ht : b = true → RQ P n ops w0 Q (o :: rest) tl G) (hf : b = false → RQ P n ops w0 Q (o :: rest) tl G) : RQ P n ops w0 Q (o :: rest) tl G := by
  cases b
  · exact hf rfl
  · exact ht rfl
theorem row_own {w : World} {B : Nat} {e : TypeId} {size n b : Nat} {xs : List Value} (h : w.ownsRow B e size (.slice (some ⟨b, 0, none⟩) n n) n xs) : Row w b e xs := by
  rcases h.2 with ⟨hv, _⟩ | ⟨g, cap, cur, hv, _, hg, _, _, hs, ht⟩
  · cases hv
  · simp only [Value.slice.injEq, Option.some.injEq, Addr.mk.injEq, and_true, true_and] at hv
    obtain ⟨rfl, rfl⟩ := hv
    unfold Row
    rw [hg, ← ht, List.take_of_length_le (by simp [hs])]
/-- make([]T, m), T of one cell -/
theorem EL_make1 {d : Nat} {t e : TypeId} {x y : Operand} {z : Value} {bytes : Nat} [ut : UT P t (.slice e)] [ti : TI P e z 1 bytes] (hg : gst ops L o = some true) (hd : odst n o.dst = some d) (ho : o.op = .makeSlice t x y)
    {k1 k2 : IntKind} {zx zy : Int} {m : Nat} (hx : ev L x = some (.int k1 zx)) (hy : ev L y = some (.int k2 zy)) (hzx : zx = (m : Int)) (hzy : zy = (m : Int)) (hz : z.cells = #[z]) (hmax : bytes * m ≤ 281474976710656) (hmax' : m ≤ 9223372036854775807)
    (k : ∀ b w', b = w.heap.size → Row w' b e (List.replicate m z) → Ext w w' → EL P n ops Q rest ((d, .slice (some ⟨b, 0, none⟩) m m) :: L) w') : EL P n ops Q (o :: rest) L w :=
  EL_makeSlice hg hd ho hx hy hzx hzy hmax hmax' fun b w' hb hown hx' => k b w' hb (by
    have := row_own hown
    rwa [hz, Nat.mul_one, toList_madeCells_one] at this) hx'
/-- a store of one cell into a row of the call's own -/
theorem EL_store1 {t : TypeId} {x y : Operand} {v z : Value} {bytes : Nat} {b off : Nat} {e : TypeId} {cs : List Value} [TI P t z 1 bytes] {w0 : World} (hr : Row w b e cs) (x0 : Ext w0 w) (hb : w0.heap.size ≤ b) (hg : gst ops L o = some true) (hd : o.dst = none) (ho : o.op = .store t x y)
    (hx : ev L x = some (.pointer (some ⟨b, off, none⟩))) (hy : ev L y = some v) (hs : v.cells = #[v]) (h1 : v.oneCell' = true) (hl : off < cs.length)
    (k : ∀ w', Row w' b e (cs.set off v) → Ext w0 w' → Kb (some b) w w' → EL P n ops Q rest L w') : EL P n ops Q (o :: rest) L w :=
  EL_store hg hd ho hx hy (by rw [hs]; rfl) (by rw [hs]; simp [h1]) hr hl fun w' h2 h3 _ => k w' (by
    rw [hs] at h2
    rw [List.set_eq_take_append_cons_drop, if_pos hl]; simpa using h2) (h3.ext x0 fun b' hb' => by cases hb'; exact hb) h3
end

section
variable {P : Program} {L : List (Nat × Value)} {w : World} {o : Oper}
/-- x[:b] of a slice -/
theorem val_slice_h {t e : TypeId} {x q : Operand} {a : Option Addr} {len cap b : Nat} {kh : IntKind} {zb : Int} {zv : Value} {size bytes : Nat} [UT P t (.slice e)] [TI P e zv size bytes] (ho : o.op = .slice t x none (some q) none) (hx : ev L x = some (.slice a len cap))
    (hhi : ev L q = some (.int kh zb)) (hzb : zb = (b : Int)) (hb : b ≤ cap) : Val P L w o (.slice a b cap) := fun ρ ha => by
  have h1 := ha.ev (by rw [ho]; simp [Op.operands]) hx
  have h4 := ha.ev (by rw [ho]; simp [Op.operands]) hhi
  have h3 := run_ut (t := t) (P := P) w
  have h5 := run_sizeOf (P := P) (t := e) w
  subst hzb
  have hadd : ∀ y : Addr, y.add 0 = y := fun _ => rfl
  simp only [execOp, ho, Instr.sliceAt, Instr.slice, Instr.sliceBounds, Instr.sliceBound, asIntOf, h1, h4, Option.map_some, Option.map_none]
  simp [go_sem, h3, h5, hb]
/-- x[b:] of a slice -/
theorem val_slice_l {t e : TypeId} {x p : Operand} {a : Option Addr} {len cap b : Nat} {kl : IntKind} {za : Int} {zv : Value} {size bytes : Nat} [UT P t (.slice e)] [TI P e zv size bytes] (ho : o.op = .slice t x (some p) none none) (hx : ev L x = some (.slice a len cap))
    (hlo : ev L p = some (.int kl za)) (hza : za = (b : Int)) (hb : b ≤ len) : Val P L w o (.slice (if cap = b then a else a.map (·.add (b * size))) (len - b) (cap - b)) := fun ρ ha => by
  have h1 := ha.ev (by rw [ho]; simp [Op.operands]) hx
  have h4 := ha.ev (by rw [ho]; simp [Op.operands]) hlo
  have h3 := run_ut (t := t) (P := P) w
  have h5 := run_sizeOf (P := P) (t := e) w
  subst hza
  simp only [execOp, ho, Instr.sliceAt, Instr.slice, Instr.sliceBounds, Instr.sliceBound, asIntOf, h1, h4, Option.map_some, Option.map_none]
  simp [go_sem, h3, h5, hb]
end
theorem SlC.drop {w : World} {a : Option Addr} {n cap size b : Nat} {cs : List Value} (h : SlC w (.slice a n cap) n cs) (hb : b ≤ n) : SlC w (.slice (if cap = b then a else a.map (·.add (b * size))) (n - b) (cap - b)) (n - b) (cs.drop (b * size)) := by
  obtain ⟨a', cap', hv, hc, h⟩ := h
  cases hv
  refine ⟨_, _, rfl, by omega, fun hn => ?_⟩
  obtain ⟨bl, off, rfl, hat⟩ := h (by omega)
  rw [if_neg (by omega)]
  refine ⟨bl, off + b * size, by simp [addr_add], fun j v hv => ?_⟩
  rw [List.getElem?_drop] at hv
  have := hat _ _ hv
  rwa [← Nat.add_assoc] at this
theorem SlC.take {w : World} {a : Option Addr} {n cap b : Nat} {cs ds : List Value} (h : SlC w (.slice a n cap) n cs) (hb : b ≤ n) (hd : ds <+: cs) : SlC w (.slice a b cap) b ds := by
  obtain ⟨a', cap', hv, hc, h⟩ := h
  cases hv
  refine ⟨_, _, rfl, by omega, fun hn => ?_⟩
  obtain ⟨bl, off, rfl, hat⟩ := h (by omega)
  refine ⟨bl, off, rfl, fun j v hv => hat j v ?_⟩
  obtain ⟨r, rfl⟩ := hd
  rw [List.getElem?_append_left (List.getElem?_eq_some_iff.1 hv).1]
  exact hv
end Go.En
