/-
  The engine, second part: slices that are read. Short names of the engine's rules (a hand-in's folder has a limit of size), and sums of the machine's own integers. Shapes of what lies in memory: a class of types whose values lie in rows of cells, slices of them, and how an argument of the row is opened to them. The smaller and the greater of two numbers; two spans compared. The bounds of the integers' kinds. A region that draws its order, reads two structs and defines two variables of them in memory ('p, q := x[i], y[i]'): in every order. A region that draws its order and makes a variable of its own ('y := f(x)' where y's address is taken). A region that draws its order, but whose first operations come one behind the other: these are walked, with their cases, before the rest is walked in any order. Arguments of a row: structs opened. Maps whose keys are numbers: made, looked up, updated. A literal of a slice among the operations of a region that draws its order. A region that draws its order, with operations that write or make memory one behind the other ('x[i], x[j] = x[j], x[i]', 'm[k] = append(m[k], v)'): in every order.
  'ss': those operations, in their order; 'ws q': the world when q of them are done; 'rg': of each other operation, when it can run. A region that draws its order, by what holds when some of its operations are done (a predicate of one's own). A region that draws its order: values read, a call, one variable made and filled ('x, ok := f(l[i])', x in memory): in every order. A map's update, as a step of a region that draws its order.
-/
import Derived.Test.YtaajcbhingpfeaaE
import Derived.ChangeArms
import Derived.SizedLaws
import Derived.Carry
import Derived.Maps.AppendAt
import Derived.Laws.StructEq
import Derived.MapKept
set_option linter.all false
namespace Go.En
open Go.RowKit

/-- a slice that is read: n elements, their cells -/
def SlC (w : World) (v : Value) (n : Nat) (cs : List Value) : Prop := ∃ a cap, v = .slice a n cap ∧ n ≤ cap ∧ (0 < n → ∃ b off, a = some ⟨b, off, none⟩ ∧ At w b off cs)
theorem SlC.ext {w w' : World} {v : Value} {n : Nat} {cs : List Value} (h : SlC w v n cs) (x : Ext w w') : SlC w' v n cs := by
  obtain ⟨a, cap, hv, hc, h⟩ := h
  exact ⟨a, cap, hv, hc, fun hn => by obtain ⟨b, off, ha, hat⟩ := h hn; exact ⟨b, off, ha, hat.ext x⟩⟩
theorem own_sl {w : World} {B : Nat} {e : TypeId} {sz : Nat} {v : Value} {n : Nat} {xs : List Value} (h : w.ownsRow B e sz v n xs) : SlC w v n xs := by
  rcases own_read h with ⟨rfl, rfl, rfl⟩ | ⟨b, cap, rfl, hc, _, _, hat⟩
  · exact ⟨none, 0, rfl, Nat.le_refl _, fun h => absurd h (Nat.lt_irrefl 0)⟩
  · exact ⟨_, cap, rfl, hc, fun _ => ⟨b, 0, rfl, hat⟩⟩
theorem own_weak {w : World} {B B' : Nat} {e : TypeId} {sz : Nat} {v : Value} {n : Nat} {xs : List Value} (h : w.ownsRow B e sz v n xs) (hB : B' ≤ B) : w.ownsRow B' e sz v n xs := by
  refine ⟨h.1, ?_⟩
  rcases h.2 with h2 | ⟨g, cap, cur, hv, hb, r⟩
  · exact .inl h2
  · exact .inr ⟨g, cap, cur, hv, Nat.le_trans hB hb, r⟩
/-- cell i of a row of single cells -/
theorem At.ith {w : World} {b off : Nat} {α : Type} {f : α → Value} {zs : List α} (h : At w b off (zs.map f)) {i : Nat} {z : α} (hz : zs[i]? = some z) : w.cell? ⟨b, off + i * 1, none⟩ = some (f z) := by
  rw [Nat.mul_one]
  exact h i _ (by rw [List.getElem?_map, hz]; rfl)
/-- the cells of element i, of k cells each -/
theorem At.elem {w : World} {b : Nat} {α : Type} {f : α → List Value} {k : Nat} : ∀ {zs : List α} {off : Nat}, (∀ z ∈ zs, (f z).length = k) → At w b off (zs.map f).flatten → ∀ {i : Nat} {z : α}, zs[i]? = some z → At w b (off + i * k) (f z)
  | [], _, _, _, i, z, h => by simp at h
  | y :: r, off, hk, h, 0, z, hz => by
    simp at hz
    subst hz
    rw [Nat.zero_mul, Nat.add_zero]
    intro j v hv
    have hj : j < (f y).length := (List.getElem?_eq_some_iff.1 hv).1
    exact h j v (by rw [List.map_cons, List.flatten_cons, List.getElem?_append_left hj]; exact hv)
  | y :: r, off, hk, h, i + 1, z, hz => by
    have hy := hk y (by simp)
    have h2 : At w b (off + k) (r.map f).flatten := by
      intro j v hv
      have := h (k + j) v (by rw [List.map_cons, List.flatten_cons, List.getElem?_append_right (by omega), hy, Nat.add_sub_cancel_left]; exact hv)
      rwa [← Nat.add_assoc] at this
    have h3 := At.elem (fun z hz => hk z (by simp [hz])) h2 (i := i) (z := z) (by simpa using hz)
    rw [show off + (i + 1) * k = off + k + i * k by rw [Nat.add_mul]; omega]
    exact h3

section
variable {P : Program} {n : Nat} {Q : Post} {L : List (Nat × Value)} {w w0 : World} {ops l tl : List Oper} {o : Oper} {rest : List Oper} {G : List (Nat × Ent)}
theorem RQ_gcase {j d : Nat} {b c : Bool} (_hg : o.guard = some (j, c)) (_hj : nthd ops j = some d) (_hl : gk G d = some (.v (.bool b))) (ht : b = true → RQ P n ops w0 Q (o :: rest) tl G) (hf : b = false → RQ P n ops w0 Q (o :: rest) tl G) : RQ P n ops w0 Q (o :: rest) tl G := by
  cases b
  · exact hf rfl
  · exact ht rfl
theorem row_own {w : World} {B : Nat} {e : TypeId} {size n b : Nat} {xs : List Value} (h : w.ownsRow B e size (.slice (some ⟨b, 0, none⟩) n n) n xs) : Row w b e xs := by
  rcases h.2 with ⟨hv, _⟩ | ⟨g, cap, cur, hv, _, hg, _, _, hs, ht⟩
  · cases hv
  · simp only [Value.slice.injEq, Option.some.injEq, Addr.mk.injEq, and_true, true_and] at hv
    obtain ⟨rfl, rfl⟩ := hv
    unfold Row
    rw [hg, ← ht, List.take_of_length_le (by simp [hs])]
/-- make([]T, m), T of one cell -/
theorem EL_make1 {d : Nat} {t e : TypeId} {x y : Operand} {z : Value} {bytes : Nat} [ut : UT P t (.slice e)] [ti : TI P e z 1 bytes] (hg : gst ops L o = some true) (hd : odst n o.dst = some d) (ho : o.op = .makeSlice t x y)
    {k1 k2 : IntKind} {zx zy : Int} {m : Nat} (hx : ev L x = some (.int k1 zx)) (hy : ev L y = some (.int k2 zy)) (hzx : zx = (m : Int)) (hzy : zy = (m : Int)) (hz : z.cells = #[z]) (hmax : bytes * m ≤ 281474976710656) (hmax' : m ≤ 9223372036854775807)
    (k : ∀ b w', b = w.heap.size → Row w' b e (List.replicate m z) → Ext w w' → EL P n ops Q rest ((d, .slice (some ⟨b, 0, none⟩) m m) :: L) w') : EL P n ops Q (o :: rest) L w :=
  EL_makeSlice hg hd ho hx hy hzx hzy hmax hmax' fun b w' hb hown hx' => k b w' hb (by
    have := row_own hown
    rwa [hz, Nat.mul_one, toList_madeCells_one] at this) hx'
/-- a store of one cell into a row of the call's own -/
theorem EL_store1 {t : TypeId} {x y : Operand} {v z : Value} {bytes : Nat} {b off : Nat} {e : TypeId} {cs : List Value} [TI P t z 1 bytes] {w0 : World} (hr : Row w b e cs) (x0 : Ext w0 w) (hb : w0.heap.size ≤ b) (hg : gst ops L o = some true) (hd : o.dst = none) (ho : o.op = .store t x y)
    (hx : ev L x = some (.pointer (some ⟨b, off, none⟩))) (hy : ev L y = some v) (hs : v.cells = #[v]) (h1 : v.oneCell' = true) (hl : off < cs.length)
    (k : ∀ w', Row w' b e (cs.set off v) → Ext w0 w' → Kb (some b) w w' → EL P n ops Q rest L w') : EL P n ops Q (o :: rest) L w :=
  EL_store hg hd ho hx hy (by rw [hs]; rfl) (by rw [hs]; simp [h1]) hr hl fun w' h2 h3 _ => k w' (by
    rw [hs] at h2
    rw [List.set_eq_take_append_cons_drop, if_pos hl]; simpa using h2) (h3.ext x0 fun b' hb' => by cases hb'; exact hb) h3
end

section
variable {P : Program} {L : List (Nat × Value)} {w : World} {o : Oper}
/-- x[:b] of a slice -/
theorem val_slice_h {t e : TypeId} {x q : Operand} {a : Option Addr} {len cap b : Nat} {kh : IntKind} {zb : Int} {zv : Value} {size bytes : Nat} [UT P t (.slice e)] [TI P e zv size bytes] (ho : o.op = .slice t x none (some q) none) (hx : ev L x = some (.slice a len cap))
    (hhi : ev L q = some (.int kh zb)) (hzb : zb = (b : Int)) (hb : b ≤ cap) : Val P L w o (.slice a b cap) := fun ρ ha => by
  have h1 := ha.ev (by rw [ho]; simp [Op.operands]) hx
  have h4 := ha.ev (by rw [ho]; simp [Op.operands]) hhi
  have h3 := run_ut (t := t) (P := P) w
  have h5 := run_sizeOf (P := P) (t := e) w
  subst hzb
  have hadd : ∀ y : Addr, y.add 0 = y := fun _ => rfl
  simp only [execOp, ho, Instr.sliceAt, Instr.slice, Instr.sliceBounds, Instr.sliceBound, asIntOf, h1, h4, Option.map_some, Option.map_none]
  simp [go_sem, h3, h5, hb]
/-- x[b:] of a slice -/
theorem val_slice_l {t e : TypeId} {x p : Operand} {a : Option Addr} {len cap b : Nat} {kl : IntKind} {za : Int} {zv : Value} {size bytes : Nat} [UT P t (.slice e)] [TI P e zv size bytes] (ho : o.op = .slice t x (some p) none none) (hx : ev L x = some (.slice a len cap))
    (hlo : ev L p = some (.int kl za)) (hza : za = (b : Int)) (hb : b ≤ len) : Val P L w o (.slice (if cap = b then a else a.map (·.add (b * size))) (len - b) (cap - b)) := fun ρ ha => by
  have h1 := ha.ev (by rw [ho]; simp [Op.operands]) hx
  have h4 := ha.ev (by rw [ho]; simp [Op.operands]) hlo
  have h3 := run_ut (t := t) (P := P) w
  have h5 := run_sizeOf (P := P) (t := e) w
  subst hza
  simp only [execOp, ho, Instr.sliceAt, Instr.slice, Instr.sliceBounds, Instr.sliceBound, asIntOf, h1, h4, Option.map_some, Option.map_none]
  simp [go_sem, h3, h5, hb]
end
theorem SlC.drop {w : World} {a : Option Addr} {n cap size b : Nat} {cs : List Value} (h : SlC w (.slice a n cap) n cs) (hb : b ≤ n) : SlC w (.slice (if cap = b then a else a.map (·.add (b * size))) (n - b) (cap - b)) (n - b) (cs.drop (b * size)) := by
  obtain ⟨a', cap', hv, hc, h⟩ := h
  cases hv
  refine ⟨_, _, rfl, by omega, fun hn => ?_⟩
  obtain ⟨bl, off, rfl, hat⟩ := h (by omega)
  rw [if_neg (by omega)]
  refine ⟨bl, off + b * size, by simp [addr_add], fun j v hv => ?_⟩
  rw [List.getElem?_drop] at hv
  have := hat _ _ hv
  rwa [← Nat.add_assoc] at this
theorem SlC.take {w : World} {a : Option Addr} {n cap b : Nat} {cs ds : List Value} (h : SlC w (.slice a n cap) n cs) (hb : b ≤ n) (hd : ds <+: cs) : SlC w (.slice a b cap) b ds := by
  obtain ⟨a', cap', hv, hc, h⟩ := h
  cases hv
  refine ⟨_, _, rfl, by omega, fun hn => ?_⟩
  obtain ⟨bl, off, rfl, hat⟩ := h (by omega)
  refine ⟨bl, off, rfl, fun j v hv => hat j v ?_⟩
  obtain ⟨r, rfl⟩ := hd
  rw [List.getElem?_append_left (List.getElem?_eq_some_iff.1 hv).1]
  exact hv
end Go.En
namespace Go.En
open Go.RowKit
def eN := @EL_nil
def eO := @EL_no
def eV := @EL_val
def eD := @EL_dec
def eL := @EL_lit
def eG := @EL_gcase
def yN := @RQ_fin
def yO := @RQ_no
def yV := @RQ_val
def yD := @RQ_dec
def yG := @RQ_gcase
def zA := @val_move
def zB := @val_assign
def zC := @val_pick_t
def zD := @val_pick_f
def zE := @val_not
def zF := @val_extract
def zG := @val_nilCheck
def zH := @val_fieldAddr
def zI := @val_field
def zJ := @val_len_str
def zK := @val_len_sl
def zL := @val_lss
def zM := @val_eql
def zN := @val_leq
def zO := @val_gtr
def zP := @val_geq
def zQ := @val_neq
def zR := @val_str_eql
def zS := @val_str_neq
theorem bytes_lt : ∀ (x y : List UInt8), Op.bytesLess x y = decide (x < y)
  | x, [] => by simp [Op.bytesLess]
  | [], b :: y => by simp [Op.bytesLess]
  | a :: x, b :: y => by
    simp only [Op.bytesLess, bytes_lt x y, List.cons_lt_cons_iff, Bool.decide_or, Bool.decide_and]
    congr 2
section
variable {P : Program} {L : List (Nat × Value)} {w : World} {o : Oper}
theorem zT {t u : TypeId} {x y : Operand} {a b : List UInt8} (ho : o.op = .binOp .lss t x y u) (hx : ev L x = some (str a)) (hy : ev L y = some (str b)) : Val P L w o (.bool (decide (a < b))) := by
  have := val_str_lss (P := P) (w := w) ho hx hy
  rwa [bytes_lt] at this
theorem zU {t u : TypeId} {x y : Operand} {a b : Int} (ho : o.op = .binOp .add t x y u) (hx : ev L x = some (int a)) (hy : ev L y = some (int b)) (h1 : -9223372036854775808 ≤ a + b) (h2 : a + b ≤ 9223372036854775807) : Val P L w o (int (a + b)) := val_add ho hx hy h1 h2
theorem zV {t u : TypeId} {x y : Operand} {a b : Int} (ho : o.op = .binOp .sub t x y u) (hx : ev L x = some (int a)) (hy : ev L y = some (int b)) (h1 : -9223372036854775808 ≤ a - b) (h2 : a - b ≤ 9223372036854775807) : Val P L w o (int (a - b)) := val_sub ho hx hy h1 h2
theorem zW {t u : TypeId} {x y : Operand} {a b : Int} (ho : o.op = .binOp .mul t x y u) (hx : ev L x = some (int a)) (hy : ev L y = some (int b)) (h1 : -9223372036854775808 ≤ a * b) (h2 : a * b ≤ 9223372036854775807) : Val P L w o (int (a * b)) := val_mul ho hx hy h1 h2
end
theorem Row.cellAt {w : World} {b j : Nat} {e : TypeId} {cs : List Value} {v : Value} (h : Row w b e cs) (hv : cs[j]? = some v) : w.cell? ⟨b, j, none⟩ = some v := by rw [h.cell, hv]
theorem At.cellAt {w : World} {b off j : Nat} {cs : List Value} {v : Value} (h : At w b off cs) (hv : cs[j]? = some v) : w.cell? ⟨b, off + j, none⟩ = some v := h j v hv
/-- a result that lies in a cell: a struct -/
theorem ret_c {P : Program} {n : Nat} {L : List (Nat × Value)} {w : World} {fn : Func} {S : Value → World → Prop} {s : Tmp} {ty : TypeId} {d : TypeDesc} {b off : Nat} {cs : List Value} {z : Value} {size bytes : Nat} [UT P ty d] [TI P ty z size bytes] (hr : fn.results = #[.cell s ty])
    (hd : isAggD d = true) (hv : lk L s = some (.pointer (some ⟨b, off, none⟩))) (hc : At w b off cs) (hl : Nat.beq cs.length size = true) (hs : S (.agg cs.toArray) w) : K n (bodyPost P fn (Rt S)) .ret L w := fun a ha => by
  refine ⟨ha.nod, .agg cs.toArray, ?_, _, rfl, hs⟩
  have h1 := ha.get s _ hv
  have h3 := run_isAgg (P := P) (t := ty) w
  rw [hd] at h3
  obtain ⟨i0, hi0, _, hsz, _⟩ := run_ti (P := P) (t := ty) w
  have h4 := run_loadCells_list (P := P) w ⟨b, off, none⟩ cs (fun j v hv => by rw [addr_add]; exact hc j v hv)
  rw [Nat.eq_of_beq_eq_true hl] at h4
  unfold loadCells at h4
  simp [results, hr, Array.getD_eq_getD_getElem?, h1, Instr.loadAt, Instr.sureAddr, loadVar, go_sem, h3, sizeOf, hi0, hsz, h4]
/-- three cells' groups laid into a row one behind the other -/
theorem ins3 {c0 A X B : List Value} {o1 o2 : Nat} (h1 : A.length = o1) (h2 : o1 + X.length = o2) (h3 : o2 + B.length = c0.length) :
    (((c0.take 0 ++ A ++ c0.drop (0 + A.length)).take o1 ++ X ++ (c0.take 0 ++ A ++ c0.drop (0 + A.length)).drop (o1 + X.length)).take o2 ++ B ++ ((c0.take 0 ++ A ++ c0.drop (0 + A.length)).take o1 ++ X ++ (c0.take 0 ++ A ++ c0.drop (0 + A.length)).drop (o1 + X.length)).drop (o2 + B.length)) = A ++ X ++ B := by
  subst h1
  have e1 : (c0.take 0 ++ A ++ c0.drop (0 + A.length)).take A.length = A := by simp
  rw [e1]
  have hlen : (A ++ X ++ (c0.take 0 ++ A ++ c0.drop (0 + A.length)).drop (A.length + X.length)).length = c0.length := by simp; omega
  have e2 : (A ++ X ++ (c0.take 0 ++ A ++ c0.drop (0 + A.length)).drop (A.length + X.length)).take o2 = A ++ X := by
    rw [List.take_append_of_le_length (by simp; omega), List.take_of_length_le (by simp; omega)]
  rw [e2, List.drop_eq_nil_of_le (by rw [hlen]; omega), List.append_nil]
end Go.En
namespace Go.En
open Go.RowKit

def AllAt {α β : Type} (R : α → β → Prop) : List α → List β → Prop
  | [], [] => True
  | a :: as, c :: cs => R a c ∧ AllAt R as cs
  | _, _ => False
theorem AllAt.len {α β : Type} {R : α → β → Prop} : ∀ {as : List α} {cs : List β}, AllAt R as cs → as.length = cs.length
  | [], [], _ => rfl
  | _ :: _, _ :: _, h => by simp [AllAt.len h.2]
  | [], _ :: _, h => h.elim
  | _ :: _, [], h => h.elim
theorem AllAt.mono {α β : Type} {R S : α → β → Prop} (hi : ∀ a c, R a c → S a c) : ∀ {as : List α} {cs : List β}, AllAt R as cs → AllAt S as cs
  | [], [], _ => trivial
  | _ :: _, _ :: _, h => ⟨hi _ _ h.1, AllAt.mono hi h.2⟩
  | [], _ :: _, h => h.elim
  | _ :: _, [], h => h.elim
theorem AllAt.get {α β : Type} {R : α → β → Prop} : ∀ {as : List α} {cs : List β}, AllAt R as cs → ∀ {i : Nat} {a : α}, as[i]? = some a → ∃ c, cs[i]? = some c ∧ R a c
  | [], [], _, _, _, hi => by simp at hi
  | _ :: _, c :: _, h, 0, _, hi => by simp at hi; subst hi; exact ⟨c, rfl, h.1⟩
  | _ :: _, _ :: _, h, i + 1, _, hi => by simpa using AllAt.get h.2 (by simpa using hi)
  | [], _ :: _, h, _, _, _ => h.elim
  | _ :: _, [], h, _, _, _ => h.elim
theorem AllAt.append {α β : Type} {R : α → β → Prop} : ∀ {as as' : List α} {cs cs' : List β}, AllAt R as cs → AllAt R as' cs' → AllAt R (as ++ as') (cs ++ cs')
  | [], _, [], _, _, h' => h'
  | _ :: _, _, _ :: _, _, h, h' => ⟨h.1, AllAt.append h.2 h'⟩
  | [], _, _ :: _, _, h, _ => h.elim
  | _ :: _, _, [], _, h, _ => h.elim
theorem AllAt.take {α β : Type} {R : α → β → Prop} : ∀ {as : List α} {cs : List β} (k : Nat), AllAt R as cs → AllAt R (as.take k) (cs.take k)
  | [], [], k, _ => by simp [AllAt]
  | _ :: _, _ :: _, 0, _ => trivial
  | _ :: _, _ :: _, k + 1, h => ⟨h.1, AllAt.take k h.2⟩
  | [], _ :: _, _, h => h.elim
  | _ :: _, [], _, h => h.elim
theorem AllAt.drop {α β : Type} {R : α → β → Prop} : ∀ {as : List α} {cs : List β} (k : Nat), AllAt R as cs → AllAt R (as.drop k) (cs.drop k)
  | [], [], k, _ => by simp [AllAt]
  | _ :: _, _ :: _, 0, h => h
  | _ :: _, _ :: _, k + 1, h => AllAt.drop k h.2
  | [], _ :: _, _, h => h.elim
  | _ :: _, [], _, h => h.elim
theorem AllAt.set {α β : Type} {R : α → β → Prop} {a : α} {c : β} (h0 : R a c) : ∀ {as : List α} {cs : List β} (k : Nat), AllAt R as cs → AllAt R (as.set k a) (cs.set k c)
  | [], [], k, _ => by simp [AllAt]
  | _ :: _, _ :: _, 0, h => ⟨h0, h.2⟩
  | _ :: _, _ :: _, k + 1, h => ⟨h.1, AllAt.set h0 k h.2⟩
  | [], _ :: _, _, h => h.elim
  | _ :: _, [], _, h => h.elim
theorem AllAt.one {α β : Type} {R : α → β → Prop} {a : α} {c : β} (h : R a c) : AllAt R [a] [c] := ⟨h, trivial⟩
theorem AllAt.all {α β : Type} {R : α → β → Prop} {q : β → Prop} (hq : ∀ a c, R a c → q c) : ∀ {as : List α} {cs : List β}, AllAt R as cs → ∀ c ∈ cs, q c
  | [], [], _, _, hc => by simp at hc
  | _ :: _, _ :: _, h, c, hc => by
    rcases List.mem_cons.1 hc with rfl | hc
    · exact hq _ _ h.1
    · exact AllAt.all hq h.2 c hc
  | [], _ :: _, h, _, _ => h.elim
  | _ :: _, [], h, _, _ => h.elim

/-- Values of 'α' lie in 'sz' cells each; all memory that they lead to lies in blocks of 'G'. -/
class Rep (α : Type) where
  sz : Nat
  pos : 0 < sz
  at_ : (Nat → Prop) → World → α → List Value → Prop
  len : ∀ {G w a cs}, at_ G w a cs → cs.length = sz
  one : ∀ {G w a cs}, at_ G w a cs → cs.all Value.oneCell' = true
  move : ∀ {G G' : Nat → Prop} {w w' : World} {a cs}, at_ G w a cs → (∀ b, G b → b < w.heap.size → G' b ∧ w'.heap[b]? = w.heap[b]?) → at_ G' w' a cs
/-- no bound on the blocks -/
abbrev Tt : Nat → Prop := fun _ => True

theorem flat_len2 {k : Nat} : ∀ {css : List (List Value)}, (∀ c ∈ css, c.length = k) → css.flatten.length = css.length * k
  | [], _ => by simp
  | c :: css, h => by simp [flat_len2 (css := css) (fun c hc => h c (List.mem_cons_of_mem _ hc)), h c (List.mem_cons_self ..), Nat.add_mul]; omega
theorem flat_take2 {k : Nat} : ∀ {css : List (List Value)} (i : Nat), (∀ c ∈ css, c.length = k) → (css.take i).flatten = css.flatten.take (i * k)
  | [], i, _ => by simp
  | c :: css, 0, _ => by simp
  | c :: css, i + 1, h => by
    have hc := h c (List.mem_cons_self ..)
    rw [List.take_succ_cons, List.flatten_cons, List.flatten_cons, flat_take2 i (fun c hc => h c (List.mem_cons_of_mem _ hc)), List.take_append, List.take_of_length_le (l := c) (by rw [hc, Nat.add_mul]; omega)]
    congr 2
    rw [hc, Nat.add_mul]; omega
theorem flat_drop2 {k : Nat} : ∀ {css : List (List Value)} (i : Nat), (∀ c ∈ css, c.length = k) → (css.drop i).flatten = css.flatten.drop (i * k)
  | [], i, _ => by simp
  | c :: css, 0, _ => by simp
  | c :: css, i + 1, h => by
    have hc := h c (List.mem_cons_self ..)
    rw [List.drop_succ_cons, List.flatten_cons, flat_drop2 i (fun c hc => h c (List.mem_cons_of_mem _ hc)), List.drop_append, List.drop_eq_nil_of_le (as := c) (by rw [hc, Nat.add_mul]; omega), List.nil_append]
    congr 1
    rw [hc, Nat.add_mul]; omega

variable {α : Type} [Rep α]
abbrev AtsG (G : Nat → Prop) (w : World) (xs : List α) (css : List (List Value)) : Prop := AllAt (Rep.at_ G w) xs css
abbrev Ats (w : World) (xs : List α) (css : List (List Value)) : Prop := AtsG Tt w xs css
theorem AtsG.lens {G : Nat → Prop} {w : World} {xs : List α} {css : List (List Value)} (h : AtsG G w xs css) : ∀ c ∈ css, c.length = Rep.sz α := AllAt.all (fun _ _ h => Rep.len h) h
theorem AtsG.flat {G : Nat → Prop} {w : World} {xs : List α} {css : List (List Value)} (h : AtsG G w xs css) : css.flatten.length = xs.length * Rep.sz α := by rw [flat_len2 (AtsG.lens h), h.len]
theorem AtsG.move {G G' : Nat → Prop} {w w' : World} {xs : List α} {css : List (List Value)} (h : AtsG G w xs css) (hm : ∀ b, G b → b < w.heap.size → G' b ∧ w'.heap[b]? = w.heap[b]?) : AtsG G' w' xs css := AllAt.mono (fun _ _ h => Rep.move h hm) h
theorem Ext.mv {w w' : World} (x : Ext w w') {G : Nat → Prop} : ∀ b, G b → b < w.heap.size → G b ∧ w'.heap[b]? = w.heap[b]? := fun _ hg hb => ⟨hg, x.block hb⟩
theorem AtsG.ext {G : Nat → Prop} {w w' : World} {xs : List α} {css : List (List Value)} (h : AtsG G w xs css) (x : Ext w w') : AtsG G w' xs css := AtsG.move h x.mv
theorem AtsG.ones {G : Nat → Prop} {w : World} {xs : List α} {css : List (List Value)} (h : AtsG G w xs css) : css.flatten.all Value.oneCell' = true := by
  rw [List.all_eq_true]
  intro v hv
  obtain ⟨c, hc, hvc⟩ := List.mem_flatten.1 hv
  exact List.all_eq_true.1 (AllAt.all (fun _ _ h => Rep.one h) h c hc) v hvc

/-- A slice whose elements are 'xs'. -/
def SlG (G : Nat → Prop) (w : World) (v : Value) (xs : List α) : Prop :=
  ∃ a cap, v = .slice a xs.length cap ∧ xs.length ≤ cap ∧ xs.length ≤ 140737488355328 ∧ (0 < xs.length → ∃ b off, a = some ⟨b, off, none⟩ ∧ G b ∧ ∃ css, AtsG G w xs css ∧ At w b off css.flatten)
abbrev Sl (w : World) (v : Value) (xs : List α) : Prop := SlG Tt w v xs
theorem At.lt {w : World} {b off : Nat} {cs : List Value} (h : At w b off cs) (hp : 0 < cs.length) : b < w.heap.size := by
  obtain ⟨v, hv⟩ : ∃ v, cs[0]? = some v := ⟨_, List.getElem?_eq_getElem hp⟩
  exact World.block_lt_of_cell? _ _ (h 0 v hv)
theorem At.same {w w' : World} {b off : Nat} {cs : List Value} (h : At w b off cs) (hb : w'.heap[b]? = w.heap[b]?) : At w' b off cs := fun j v hv => (World.cell?_of_block hb).trans (h j v hv)
theorem SlG.move {G G' : Nat → Prop} {w w' : World} {v : Value} {xs : List α} (h : SlG G w v xs) (hm : ∀ b, G b → b < w.heap.size → G' b ∧ w'.heap[b]? = w.heap[b]?) : SlG G' w' v xs := by
  obtain ⟨a, cap, hv, hc, hl, hp⟩ := h
  refine ⟨a, cap, hv, hc, hl, fun h0 => ?_⟩
  obtain ⟨b, off, ha, hg, css, h1, h2⟩ := hp h0
  have hlt := h2.lt (by rw [AtsG.flat h1]; exact Nat.mul_pos h0 (Rep.pos))
  exact ⟨b, off, ha, (hm b hg hlt).1, css, AtsG.move h1 hm, h2.same (hm b hg hlt).2⟩
theorem SlG.ext {G : Nat → Prop} {w w' : World} {v : Value} {xs : List α} (h : SlG G w v xs) (x : Ext w w') : SlG G w' v xs := h.move x.mv
theorem SlG.any {G : Nat → Prop} {w : World} {v : Value} {xs : List α} (h : SlG G w v xs) : Sl w v xs := h.move fun _ _ _ => ⟨trivial, rfl⟩
/-- what there is lies below the heap's end -/
theorem SlG.old {G : Nat → Prop} {w : World} {v : Value} {xs : List α} (h : SlG G w v xs) : SlG (fun b => b < w.heap.size) w v xs := h.move fun _ _ h => ⟨h, rfl⟩
theorem SlG.wk {G G' : Nat → Prop} {w : World} {v : Value} {xs : List α} (h : SlG G w v xs) (hg : ∀ b, G b → G' b) : SlG G' w v xs := h.move fun b h _ => ⟨hg b h, rfl⟩
theorem AtsG.any {G : Nat → Prop} {w : World} {xs : List α} {css : List (List Value)} (h : AtsG G w xs css) : Ats w xs css := AtsG.move h fun _ _ _ => ⟨trivial, rfl⟩
theorem AtsG.old {G : Nat → Prop} {w : World} {xs : List α} {css : List (List Value)} (h : AtsG G w xs css) : AtsG (fun b => b < w.heap.size) w xs css := AtsG.move h fun _ _ h => ⟨h, rfl⟩
theorem AtsG.wk {G G' : Nat → Prop} {w : World} {xs : List α} {css : List (List Value)} (h : AtsG G w xs css) (hg : ∀ b, G b → G' b) : AtsG G' w xs css := AtsG.move h fun b h _ => ⟨hg b h, rfl⟩
/-- memory besides the row that turns -/
theorem Kb.mv {w w' : World} {g : Option Nat} (k : Kb g w w') {G : Nat → Prop} (hg : ∀ b, G b → some b ≠ g) : ∀ b, G b → b < w.heap.size → G b ∧ w'.heap[b]? = w.heap[b]? := fun b h hb => ⟨h, World.grownBy.block k b hb (hg b h)⟩
/-- besides a slice of one's own -/
def Nb (v : Value) : Nat → Prop := fun b => some b ≠ v.ownBlock
theorem Nb.mv {w w' : World} {v v' : Value} (k : Kb v.ownBlock w w') (h : v'.ownBlock = v.ownBlock ∨ v'.ownBlock = some w.heap.size) : ∀ b, Nb v b → b < w.heap.size → Nb v' b ∧ w'.heap[b]? = w.heap[b]? := fun b hb hlt => by
  refine ⟨?_, World.grownBy.block k b hlt hb⟩
  unfold Nb at *
  rcases h with h | h
  · rw [h]; exact hb
  · rw [h]; intro he; cases he; omega
/-- for 'obtain ⟨a, cap, rfl, hc, hm, hp⟩' with the slice kept -/
theorem SlG.sl {G : Nat → Prop} {w : World} {v : Value} {xs : List α} (h : SlG G w v xs) : ∃ a cap, v = .slice a xs.length cap ∧ xs.length ≤ cap ∧ xs.length ≤ 140737488355328 ∧ (0 < xs.length → ∃ b off, a = some ⟨b, off, none⟩) := by
  obtain ⟨a, cap, hv, hc, hm, hp⟩ := h
  refine ⟨a, cap, hv, hc, hm, fun h0 => ?_⟩
  obtain ⟨b, off, ha, _⟩ := hp h0
  exact ⟨b, off, ha⟩
theorem SlG.nil {G : Nat → Prop} {w : World} : SlG G w (.slice none 0 0) ([] : List α) := ⟨none, 0, rfl, Nat.le_refl _, by simp, fun h => absurd h (by simp)⟩
/-- all of its cells -/
theorem SlG.ats {G : Nat → Prop} {w : World} {b off n cap : Nat} {xs : List α} (h : SlG G w (.slice (some ⟨b, off, none⟩) n cap) xs) (hp : 0 < xs.length) : G b ∧ ∃ css, AtsG G w xs css ∧ At w b off css.flatten := by
  obtain ⟨a, cap', hv, hc, hm, hq⟩ := h
  obtain ⟨b', off', ha, hg, css, h1, h2⟩ := hq hp
  cases hv
  cases ha
  exact ⟨hg, css, h1, h2⟩
theorem At.seg {w : World} {b off : Nat} {cs : List Value} (h : At w b off cs) (k : Nat) {n : Nat} : At w b (off + k) ((cs.drop k).take n) := fun j v hv => by
  have hj : j < n := by
    have := (List.getElem?_eq_some_iff.1 hv).1
    simp at this; omega
  rw [List.getElem?_take_of_lt hj, List.getElem?_drop] at hv
  rw [Nat.add_assoc]
  exact h _ _ hv
/-- all of its cells, a slice of none too -/
theorem SlG.css {G : Nat → Prop} {w : World} {a : Option Addr} {n cap : Nat} {xs : List α} (h : SlG G w (.slice a n cap) xs) : ∃ css, AtsG G w xs css ∧ (0 < css.flatten.length → ∃ b so, a = some ⟨b, so, none⟩ ∧ G b ∧ At w b so css.flatten) := by
  by_cases h0 : 0 < xs.length
  · obtain ⟨a', cap', hv, _, _, hp⟩ := h
    cases hv
    obtain ⟨b, off, rfl, hg, css, h1, h2⟩ := hp h0
    exact ⟨css, h1, fun _ => ⟨b, off, rfl, hg, h2⟩⟩
  · obtain rfl : xs = [] := List.length_eq_zero_iff.1 (by omega)
    exact ⟨[], trivial, fun h => absurd h (by simp)⟩
theorem flat_upd {k : Nat} {v : Value} : ∀ {css : List (List Value)} {i j : Nat} {c : List Value}, (∀ c ∈ css, c.length = k) → css[i]? = some c → j < k → (css.set i (c.set j v)).flatten = css.flatten.set (i * k + j) v
  | [], _, _, _, _, hc, _ => by simp at hc
  | c0 :: css, 0, j, c, h, hc, hj => by
    simp at hc; subst hc
    have hl := h c0 (List.mem_cons_self ..)
    rw [List.set_cons_zero, List.flatten_cons, List.flatten_cons, Nat.zero_mul, Nat.zero_add, List.set_append_left _ _ (by omega)]
  | c0 :: css, i + 1, j, c, h, hc, hj => by
    have hl := h c0 (List.mem_cons_self ..)
    rw [List.set_cons_succ, List.flatten_cons, List.flatten_cons, flat_upd (i := i) (fun c hc => h c (List.mem_cons_of_mem _ hc)) (by simpa using hc) hj, List.set_append_right _ _ (by rw [hl, Nat.add_mul]; omega)]
    congr 2
    rw [hl, Nat.add_mul]; omega
theorem set_seg {cur : List Value} {j : Nat} {v : Value} (h : j < cur.length) : cur.take j ++ [v] ++ cur.drop (j + [v].length) = cur.set j v := by
  rw [List.set_eq_take_append_cons_drop, if_pos h]; simp
/-- element i -/
theorem SlG.elem {G : Nat → Prop} {w : World} {b off n cap : Nat} {xs : List α} (h : SlG G w (.slice (some ⟨b, off, none⟩) n cap) xs) {i : Nat} {x : α} (hx : xs[i]? = some x) : ∃ cs, Rep.at_ G w x cs ∧ At w b (off + i * Rep.sz α) cs := by
  have hi : i < xs.length := (List.getElem?_eq_some_iff.1 hx).1
  obtain ⟨_, css, h1, h2⟩ := h.ats (by omega)
  obtain ⟨c, hc, hr⟩ := AllAt.get h1 hx
  refine ⟨c, hr, ?_⟩
  have hs := h2.seg (i * Rep.sz α) (n := Rep.sz α)
  have he : (css.flatten.drop (i * Rep.sz α)).take (Rep.sz α) = c := by
    rw [← flat_drop2 i (AtsG.lens h1)]
    obtain ⟨hl, rfl⟩ := List.getElem?_eq_some_iff.1 hc
    rw [List.drop_eq_getElem_cons hl, List.flatten_cons, List.take_append_of_le_length (by rw [Rep.len hr]; exact Nat.le_refl _), ← Rep.len hr, List.take_length]
  rw [he] at hs
  exact hs
/-- what is owned, as a slice of values -/
theorem own_SlG {G : Nat → Prop} {w : World} {B : Nat} {e : TypeId} {v : Value} {n : Nat} {xs : List α} {css : List (List Value)} (h : w.ownsRow B e (Rep.sz α) v n css.flatten) (hr : AtsG G w xs css) (hg : ∀ b, B ≤ b → G b) (hn : n = xs.length) (hm : xs.length ≤ 140737488355328) : SlG G w v xs := by
  subst hn
  rcases own_read h with ⟨rfl, h0, _⟩ | ⟨b, cap, rfl, hc, hb, _, hat⟩
  · exact ⟨none, 0, by rw [h0], by omega, hm, fun h1 => by omega⟩
  · exact ⟨_, cap, rfl, hc, hm, fun _ => ⟨b, 0, rfl, hg b hb, css, hr, hat⟩⟩
theorem own_Sl {w : World} {B : Nat} {e : TypeId} {v : Value} {n : Nat} {xs : List α} {css : List (List Value)} (h : w.ownsRow B e (Rep.sz α) v n css.flatten) (hr : Ats w xs css) (hn : n = xs.length) (hm : xs.length ≤ 140737488355328) : Sl w v xs := own_SlG h hr (fun _ _ => trivial) hn hm
theorem row_SlG {G : Nat → Prop} {w : World} {b cap : Nat} {e : TypeId} {xs : List α} {css : List (List Value)} (h : Row w b e css.flatten) (hr : AtsG G w xs css) (hg : G b) (hc : xs.length ≤ cap) (hm : xs.length ≤ 140737488355328) : SlG G w (.slice (some ⟨b, 0, none⟩) xs.length cap) xs :=
  ⟨_, cap, rfl, hc, hm, fun _ => ⟨b, 0, rfl, hg, css, hr, h.at⟩⟩
theorem row_Sl {w : World} {b cap : Nat} {e : TypeId} {xs : List α} {css : List (List Value)} (h : Row w b e css.flatten) (hr : Ats w xs css) (hc : xs.length ≤ cap) (hm : xs.length ≤ 140737488355328) : Sl w (.slice (some ⟨b, 0, none⟩) xs.length cap) xs := row_SlG h hr trivial hc hm
theorem SlG.take {G : Nat → Prop} {w : World} {a : Option Addr} {n cap k : Nat} {xs : List α} (h : SlG G w (.slice a n cap) xs) (hk : k ≤ xs.length) : SlG G w (.slice a k cap) (xs.take k) := by
  obtain ⟨a', cap', hv, hc, hm, hp⟩ := h
  cases hv
  have hl : (xs.take k).length = k := by simp; omega
  refine ⟨a, cap, by rw [hl], by omega, by omega, fun h0 => ?_⟩
  obtain ⟨b, off, ha, hg, css, h1, h2⟩ := hp (by omega)
  refine ⟨b, off, ha, hg, css.take k, AllAt.take k h1, ?_⟩
  rw [flat_take2 k (AtsG.lens h1)]
  have := h2.seg 0 (n := k * Rep.sz α)
  simpa using this
theorem SlG.drop {G : Nat → Prop} {w : World} {a : Option Addr} {n cap k : Nat} {xs : List α} (h : SlG G w (.slice a n cap) xs) (hk : k ≤ xs.length) : SlG G w (.slice (if cap = k then a else a.map (·.add (k * Rep.sz α))) (n - k) (cap - k)) (xs.drop k) := by
  obtain ⟨a', cap', hv, hc, hm, hp⟩ := h
  cases hv
  have hl : (xs.drop k).length = xs.length - k := by simp
  refine ⟨_, cap - k, by rw [hl], by omega, by omega, fun h0 => ?_⟩
  obtain ⟨b, off, rfl, hg, css, h1, h2⟩ := hp (by omega)
  rw [if_neg (by omega), Option.map_some, addr_add]
  refine ⟨b, _, rfl, hg, css.drop k, AllAt.drop k h1, ?_⟩
  rw [flat_drop2 k (AtsG.lens h1)]
  have := h2.seg (k * Rep.sz α) (n := css.flatten.length)
  rw [List.take_of_length_le (by simp)] at this
  exact this

instance : Rep Int where
  sz := 1
  pos := by decide
  at_ _ _ z cs := cs = [int z]
  len h := by rw [h]; rfl
  one h := by rw [h]; rfl
  move h _ := h
/-- a text -/
structure Txt where
  l : List UInt8
instance : DecidableEq Txt := fun a b => by
  cases a with | mk x => cases b with | mk y =>
  exact decidable_of_iff (x = y) (by simp)
instance : Rep Txt where
  sz := 1
  pos := by decide
  at_ _ _ t cs := cs = [str t.l]
  len h := by rw [h]; rfl
  one h := by rw [h]; rfl
  move h _ := h
theorem ints_flat (ids : List Int) : (ids.map fun z => [int z]).flatten = ids.map int := by induction ids with | nil => rfl | cons z r ih => simp [ih]
theorem ints_ats {G : Nat → Prop} (w : World) : ∀ ids : List Int, AtsG G w ids (ids.map fun z => [int z])
  | [] => trivial
  | z :: r => ⟨rfl, ints_ats w r⟩
theorem ats_ints {G : Nat → Prop} {w : World} : ∀ {ids : List Int} {css : List (List Value)}, AtsG G w ids css → css = ids.map fun z => [int z]
  | [], [], _ => rfl
  | z :: r, c :: cs, h => by rw [List.map_cons, ← ats_ints (ids := r) (css := cs) h.2, ← show c = [int z] from h.1]
  | [], _ :: _, h => h.elim
  | _ :: _, [], h => h.elim

theorem ints_one (xs : List Int) : (xs.map int).all Value.oneCell' = true := by rw [← ints_flat]; exact AtsG.ones (ints_ats (G := Tt) (Classical.choice ⟨default⟩) xs)
/-! ### an argument of the row, opened -/
def Bd {H : Type} (P : Program) (t : TypeId) (d : DataW H) : Prop := (d.weights P t).all (· ≤ reachBytes) = true
class Opens (P : Program) (t : TypeId) (α : Type) [Rep α] : Prop where
  op : ∀ {H : Type} {enc : TypeId × Value → H} {w : World} {sp : Nat → Bool} {held : Bool} {fuel : Nat} {cs : List Value} {x : DataW H × List MemPlace}, DataW.trod enc P w 0 sp held fuel t cs = some x → Bd P t x.1 → ∃ a : α, Rep.at_ Tt w a cs
theorem cells_at {w : World} {b off n : Nat} {cs : List Value} (h : w.cells? 0 ⟨b, off, none⟩ n = some cs) : cs.length = n ∧ At w b off cs := by
  unfold World.cells? at h
  rw [if_pos (Nat.zero_le _)] at h
  have hl := mapM_some_length h
  simp at hl
  refine ⟨hl, fun j v hv => ?_⟩
  have hj := (List.getElem?_eq_some_iff.1 hv).1
  have hr : (List.range n)[j]? = some j := List.getElem?_range (by omega)
  have := mapM_some_get h j j hr
  rw [addr_add] at this
  rw [this, hv]
theorem At.join {w : World} {b off : Nat} {xs ys : List Value} (h1 : At w b off xs) (h2 : At w b (off + xs.length) ys) : At w b off (xs ++ ys) := fun j v hv => by
  by_cases hj : j < xs.length
  · rw [List.getElem?_append_left hj] at hv; exact h1 j v hv
  · rw [List.getElem?_append_right (by omega)] at hv
    have := h2 _ _ hv
    rwa [show off + xs.length + (j - xs.length) = off + j by omega] at this
theorem cell_spot {w : World} {a : Addr} {v : Value} (h : w.cell? a = some v) : a = ⟨a.block, a.off, none⟩ := by
  unfold World.cell? at h
  cases a with | mk b off s =>
  split at h
  · cases s with
    | none => rfl
    | some s => simp at h
  · cases h
theorem weightsAll_mem {H : Type} {P : Program} {e : TypeId} {q : Nat → Bool} : ∀ {ds : List (DataW H)}, (DataW.weightsAll P e ds).all q = true → ∀ d ∈ ds, (d.weights P e).all q = true
  | [], _, d, hd => by simp at hd
  | x :: r, h, d, hd => by
    simp only [DataW.weightsAll, List.all_append, Bool.and_eq_true] at h
    rcases List.mem_cons.1 hd with rfl | hd
    · exact h.1
    · exact weightsAll_mem h.2 d hd
theorem open_sl {H : Type} {enc : TypeId × Value → H} {P : Program} {w : World} {sp : Nat → Bool} {held : Bool} {fuel : Nat} {t e : TypeId} {cs : List Value} {x : DataW H × List MemPlace} [hO : Opens P e α]
    (ht : P.underlying t = some (.slice e)) (hc : P.cellsOf e = Rep.sz α) (hz : 0 < Rep.sz α) (hb : 1 ≤ P.bytesOf e) (h : DataW.trod enc P w 0 sp held fuel t cs = some x) (hbd : Bd P t x.1) : ∃ v, cs = [v] ∧ ∃ xs : List α, Sl w v xs := by
  rcases DataW.trod_slice ht h with ⟨rfl, _⟩ | ⟨a, len, cap, elems, rest, n, _, rfl, rfl, _, hl, _, hlen, hel, _⟩
  · exact ⟨_, rfl, [], SlG.nil⟩
  refine ⟨_, rfl, ?_⟩
  simp only [Bd, DataW.weights, ht, List.all_cons, List.all_append, Bool.and_eq_true, decide_eq_true_eq, List.length_map] at hbd
  obtain ⟨hw1, hw2, _⟩ := hbd
  have hlm : len ≤ 140737488355328 := by
    have h1 := reachBytes_lt
    have h2 : elems.length * 1 ≤ (elems.length + rest.length) * P.bytesOf e := Nat.mul_le_mul (by omega) hb
    omega
  have key : ∀ i, i < len → ∃ c x, w.cells? 0 (a.add (i * P.cellsOf e)) (P.cellsOf e) = some c ∧ Rep.at_ Tt w (x : α) c := fun i hi => by
    have h1 := hel i hi
    obtain ⟨y, hy⟩ : ∃ y, elems[i]? = some y := ⟨_, List.getElem?_eq_getElem (by omega)⟩
    rw [hy, Option.bind_eq_some_iff] at h1
    obtain ⟨c, hc1, hc2⟩ := h1
    obtain ⟨x, hx⟩ := hO.op hc2 (weightsAll_mem hw2 y.1 (List.mem_map.2 ⟨y, List.mem_of_getElem? hy, rfl⟩))
    exact ⟨c, x, hc1, hx⟩
  by_cases h0 : len = 0
  · subst h0
    exact ⟨[], some a, cap, rfl, by simp, by simp, fun h => absurd h (by simp)⟩
  have hsp : a = ⟨a.block, a.off, none⟩ := by
    obtain ⟨c, x, hc1, _⟩ := key 0 (by omega)
    unfold World.cells? at hc1
    rw [if_pos (Nat.zero_le _)] at hc1
    have hlc := mapM_some_length hc1
    rw [List.length_range, hc] at hlc
    obtain ⟨v, hv⟩ : ∃ v, c[0]? = some v := ⟨_, List.getElem?_eq_getElem (by omega)⟩
    have := mapM_some_get hc1 0 0 (List.getElem?_range (by omega))
    rw [hv] at this
    simp only [Nat.zero_mul, show ∀ a : Addr, a.add 0 = a from fun a => by simp [Addr.add]] at this
    exact cell_spot this
  have all : ∀ k, k ≤ len → ∃ (xs : List α) (css : List (List Value)), xs.length = k ∧ Ats w xs css ∧ At w a.block a.off css.flatten := by
    intro k
    induction k with
    | zero => exact fun _ => ⟨[], [], rfl, trivial, fun j v hv => by simp at hv⟩
    | succ k ih =>
      intro hk
      obtain ⟨xs, css, h1, h2, h3⟩ := ih (by omega)
      obtain ⟨c, x, hc1, hx⟩ := key k (by omega)
      rw [hsp, addr_add] at hc1
      obtain ⟨_, h4⟩ := cells_at hc1
      refine ⟨xs ++ [x], css ++ [c], by simp [h1], AllAt.append h2 (AllAt.one hx), ?_⟩
      rw [List.flatten_append]
      refine At.join h3 ?_
      rw [AtsG.flat h2, h1, ← hc]
      simpa using h4
  obtain ⟨xs, css, h1, h2, h3⟩ := all len (Nat.le_refl _)
  exact ⟨xs, some a, cap, by rw [h1], by omega, by omega, fun _ => ⟨a.block, a.off, by rw [← hsp], trivial, css, h2, h3⟩⟩
theorem open_slT {H : Type} {enc : TypeId × Value → H} {P : Program} {w : World} {sp : Nat → Bool} {held : Bool} {t e : TypeId} {v : Value} {d : DataW H} {ps : List MemPlace} [hO : Opens P e α]
    (ht : P.underlying t = some (.slice e)) (hc : P.cellsOf e = Rep.sz α) (hz : 0 < Rep.sz α) (hb : 1 ≤ P.bytesOf e) (h : DataW.Trod enc P w 0 sp held t v d ps) (hbd : Bd P t d) : ∃ v', v.cells.toList = [v'] ∧ ∃ xs : List α, Sl w v' xs := by
  obtain ⟨fuel, h⟩ := h
  exact open_sl ht hc hz hb h hbd

/-! ### copy, stores into a place of an own row -/
section
variable {P : Program} {n : Nat} {Q : Post} {L : List (Nat × Value)} {w : World} {ops : List Oper} {o : Oper} {rest : List Oper}
theorem run_copy_some {w : World} {dT sT ty elem : TypeId} {g off dLen dCap : Nat} {a : Addr} {sLen sCap : Nat} {cur : List Value} {t : TypeId} {cs : List Value} {size : Nat} {i : TypeInfo}
    (hu : P.underlying dT = some (.slice elem)) (hi : P.info? elem = some i) (hs : i.size = size)
    (hg : w.heap[g]? = some (.cells cur.toArray t (0, 0))) (hn : cs.length = Nat.min sLen dLen * size)
    (hsrc : ∀ j v, cs[j]? = some v → w.cell? (a.add j) = some v) (hfit : off + cs.length ≤ cur.length) (h1 : ∀ v ∈ cs, v.oneCell' = true) :
    (Builtin.copy_ #[dT, sT] ty #[.slice (some ⟨g, off, none⟩) dLen dCap, .slice (some a) sLen sCap]).run P w =
      .ok (goInt (Nat.min sLen dLen)) (w.setRow g (cur.take off ++ cs ++ cur.drop (off + cs.length)).toArray) := by
  have hl := run_loadCells_list (P := P) w a cs hsrc
  have hst := run_storeCells_at P g off t cs 0 cur.toArray w hg (by simpa using hfit) h1
  rw [hn] at hl
  simp only [Nat.add_zero] at hst
  simp [Builtin.copy_, run_underlying hu, Builtin.lenOf, Builtin.firstCells, sizeOf, typeInfo, hi, hs, hl, hst]
theorem run_copy_zero {w : World} {dT sT ty elem : TypeId} {dp sp : Option Addr} {dLen dCap sLen sCap : Nat} {i : TypeInfo}
    (hu : P.underlying dT = some (.slice elem)) (hi : P.info? elem = some i) (hn : Nat.min sLen dLen = 0) :
    (Builtin.copy_ #[dT, sT] ty #[.slice dp dLen dCap, .slice sp sLen sCap]).run P w = .ok (goInt 0) w := by
  have hl : ∀ a : Addr, (loadCells a 0).run P w = .ok #[] w := fun a => run_loadCells_list (P := P) w a [] (by simp)
  cases dp <;> cases sp <;> simp [Builtin.copy_, run_underlying hu, Builtin.lenOf, Builtin.firstCells, sizeOf, typeInfo, hi, hn, hl, storeCells]
/-- copy into an own row: 'cs' go over -/
theorem EL_copy {d : Nat} {dT sT e : TypeId} {x y : Operand} {z : Value} {size bytes : Nat} [ut : UT P dT (.slice e)] [ti : TI P e z size bytes] {dp sp : Option Addr} {dLen dCap sLen sCap g off : Nat} {cur cs : List Value} {w0 : World}
    (hr : Row w g e cur) (x0 : Ext w0 w) (hb : w0.heap.size ≤ g)
    (hg : gst ops L o = some true) (hd : odst n o.dst = some d) (ho : o.op = .call { callee := .builtin .copy, args := #[x, y], argTypes := #[dT, sT] })
    (hx : ev L x = some (.slice dp dLen dCap)) (hy : ev L y = some (.slice sp sLen sCap)) {q : Nat} (hq : min sLen dLen = q) (hn : cs.length = q * size)
    (hpos : 0 < cs.length → dp = some ⟨g, off, none⟩ ∧ ∃ b so, sp = some ⟨b, so, none⟩ ∧ At w b so cs) (hsz : 0 < size) (hfit : off + cs.length ≤ cur.length) (h1 : cs.all Value.oneCell' = true)
    (k : ∀ w', Row w' g e (cur.take off ++ cs ++ cur.drop (off + cs.length)) → Ext w0 w' → Kb (some g) w w' → EL P n ops Q rest ((d, int (q : Nat)) :: L) w') : EL P n ops Q (o :: rest) L w := by
  obtain ⟨i0, hi, hz0, hz1, hz2⟩ := info_parts ti.i
  have hq' : Nat.min sLen dLen = q := hq
  subst hq'
  by_cases h0 : Nat.min sLen dLen = 0
  · have hcs : cs = [] := List.length_eq_zero_iff.1 (by rw [hn, h0, Nat.zero_mul])
    subst hcs
    have hrun := run_copy_zero (P := P) (w := w) (dT := dT) (sT := sT) (ty := o.type) (elem := e) (dp := dp) (sp := sp) (dLen := dLen) (dCap := dCap) (sLen := sLen) (sCap := sCap) ut.u hi h0
    refine EL_valw (w' := w) hg hd (fun ρ ha => ?_) (h0 ▸ k w (by simpa using hr) x0 (World.grownBy.refl _ _))
    have a1 := ha.ev (by rw [ho]; simp [Op.operands, Call.operands]) hx
    have a2 := ha.ev (by rw [ho]; simp [Op.operands, Call.operands]) hy
    simp only [execOp, ho, resolve, invoke, builtin, Sem.run_bind, Sem.run_pure, Result.andThen_ok, List.map_toArray, List.map_cons, List.map_nil, a1, a2, hrun]
    simp [goInt, h0]
  · have hp : 0 < cs.length := by rw [hn]; exact Nat.mul_pos (Nat.pos_of_ne_zero h0) hsz
    obtain ⟨rfl, b, so, rfl, hat⟩ := hpos hp
    have hrun := run_copy_some (P := P) (w := w) (dT := dT) (sT := sT) (ty := o.type) (elem := e) (g := g) (off := off) (dLen := dLen) (dCap := dCap) (a := ⟨b, so, none⟩) (sLen := sLen) (sCap := sCap) (cs := cs) (size := size) ut.u hi hz1
      (show w.heap[g]? = some (.cells cur.toArray e (0, 0)) from hr) hn (fun j v hv => by rw [addr_add]; exact hat j v hv) hfit (fun v hv => List.all_eq_true.1 h1 v hv)
    have hkb : Kb (some g) w (w.setRow g (cur.take off ++ cs ++ cur.drop (off + cs.length)).toArray) := ⟨rfl, rfl, rfl, by simp, fun k hk hne => setRow_other w g k _ (fun e => hne (by rw [e]))⟩
    refine EL_valw (w' := w.setRow g (cur.take off ++ cs ++ cur.drop (off + cs.length)).toArray) hg hd (fun ρ ha => ?_) (k _ (setRow_heap w g cur.toArray _ e (0, 0) hr) (hkb.ext x0 fun b' hb' => by cases hb'; exact hb) hkb)
    have a1 := ha.ev (by rw [ho]; simp [Op.operands, Call.operands]) hx
    have a2 := ha.ev (by rw [ho]; simp [Op.operands, Call.operands]) hy
    simp only [execOp, ho, resolve, invoke, builtin, Sem.run_bind, Sem.run_pure, Result.andThen_ok, List.map_toArray, List.map_cons, List.map_nil, a1, a2, hrun]
    rfl
/-- a store into an own row: cells 'cs' of the value go to the place -/
theorem EL_storeP {t : TypeId} {x y : Operand} {v z : Value} {size bytes : Nat} {b off : Nat} {e : TypeId} {cur cs : List Value} [TI P t z size bytes] {w0 : World} (hr : Row w b e cur) (x0 : Ext w0 w) (hb : w0.heap.size ≤ b)
    (hg : gst ops L o = some true) (hd : o.dst = none) (ho : o.op = .store t x y)
    (hx : ev L x = some (.pointer (some ⟨b, off, none⟩))) (hy : ev L y = some v) (hc : v.cells.toList = cs) (hs : Nat.beq cs.length size = true) (h1 : cs.all Value.oneCell' = true) (hl : off + cs.length ≤ cur.length)
    (k : ∀ w', Row w' b e (cur.take off ++ cs ++ cur.drop (off + cs.length)) → Ext w0 w' → Kb (some b) w w' → EL P n ops Q rest L w') : EL P n ops Q (o :: rest) L w := by
  have e1 := Nat.eq_of_beq_eq_true hs
  have hsz : v.cells.size = size := by rw [← e1, ← hc, Array.length_toList]
  refine EL_store hg hd ho hx hy hsz (by rw [hc]; exact h1) hr (by omega) fun w' h2 h3 _ => k w' ?_ (h3.ext x0 fun b' hb' => by cases hb'; exact hb) h3
  rw [hc, ← e1] at h2
  exact h2
/-- make([]T, m): an own row of so many cells -/
theorem EL_makeN {d : Nat} {t e : TypeId} {x y : Operand} {z : Value} {size bytes : Nat} [ut : UT P t (.slice e)] [ti : TI P e z size bytes] (hg : gst ops L o = some true) (hd : odst n o.dst = some d) (ho : o.op = .makeSlice t x y)
    {k1 k2 : IntKind} {zx zy : Int} {m : Nat} (hx : ev L x = some (.int k1 zx)) (hy : ev L y = some (.int k2 zy)) (hzx : zx = (m : Int)) (hzy : zy = (m : Int)) (hmax : bytes * m ≤ 281474976710656) (hmax' : m ≤ 9223372036854775807)
    (k : ∀ b w' cur, b = w.heap.size → Row w' b e cur → cur.length = m * size → Ext w w' → EL P n ops Q rest ((d, .slice (some ⟨b, 0, none⟩) m m) :: L) w') : EL P n ops Q (o :: rest) L w :=
  EL_makeSlice hg hd ho hx hy hzx hzy hmax hmax' fun b w' hb hown hx' => k b w' _ hb (row_own hown) hown.1 hx'
/-- append onto a slice of one's own: where its block is behind it -/
theorem EL_appB {d : Nat} {t e : TypeId} {s x : Operand} {z : Value} {size bytes : Nat} [ut : UT P t (.slice e)] [ti : TI P e z size bytes] {v : Value} {w0 : World} {m : Nat} {xs : List Value} {b off q c : Nat} {news : List Value}
    (hown : w.ownsRow w0.heap.size e size v m xs) (x0 : Ext w0 w) (hnews : 0 < q → At w b off news) (hg : gst ops L o = some true) (hd : odst n o.dst = some d) (ho : o.op = .call { callee := .builtin .append, args := #[s, x], argTypes := #[t, t] })
    (hs : ev L s = some v) (hx : ev L x = some (.slice (some ⟨b, off, none⟩) q c)) (hl : news.length = q * size)
    (h1 : news.all Value.oneCell' = true) (hz : z.cells.size = size) (hsz : Nat.ble 1 size = true) (hmax : (m + q) * bytes ≤ 140737488355328) (hmax' : m + q ≤ 9223372036854775807)
    (k : ∀ v' w', w'.ownsRow w0.heap.size e size v' (m + q) (xs ++ news) → Ext w0 w' → Kb v.ownBlock w w' → (v'.ownBlock = v.ownBlock ∨ v'.ownBlock = some w.heap.size) → EL P n ops Q rest ((d, v') :: L) w') : EL P n ops Q (o :: rest) L w := by
  obtain ⟨i0, hi, hz0, hz1, hz2⟩ := info_parts ti.i
  have hat : At w b off news := by
    by_cases h0 : 0 < q
    · exact hnews h0
    · have : news = [] := List.length_eq_zero_iff.1 (by rw [hl, show q = 0 by omega, Nat.zero_mul])
      subst this
      exact fun j v hv => by simp at hv
  obtain ⟨v', w', hr, h2, h3, _, h4⟩ := run_append_own_at (P := P) (w := w) (ty := o.type) w0.heap.size t e i0 z size bytes ut.u hi hz0 hz1 hz2 hz (Nat.le_of_ble_eq_true hsz) v m xs hown ⟨b, off, none⟩ q c news hl (fun j u hu => by rw [addr_add]; exact hat j u hu)
    (fun u hu => List.all_eq_true.1 h1 u hu) (by unfold maxLen; omega) hmax x0.size
  refine EL_valw hg hd (fun ρ ha => ?_) (k v' w' h2 (own_anchor hown x0 h3) h3 h4)
  have a1 := ha.ev (by rw [ho]; simp [Op.operands, Call.operands]) hs
  have a2 := ha.ev (by rw [ho]; simp [Op.operands, Call.operands]) hx
  simp only [execOp, ho, resolve, invoke, builtin, Sem.run_bind, Sem.run_pure, Result.andThen_ok, List.map_toArray, List.map_cons, List.map_nil, a1, a2, hr]
theorem append_owned_none {P : Program} {w : World} {base : Nat} {t ty e : TypeId} {i : TypeInfo} {size c : Nat} (ht : P.underlying t = some (.slice e)) (hi : P.info? e = some i)
    {v : Value} {n : Nat} {xs : List Value} (hown : w.ownsRow base e size v n xs) :
    (Builtin.append_ #[t, t] ty #[v, .slice none 0 c]).run P w = .ok v w := by
  rcases hown.2 with ⟨rfl, rfl⟩ | ⟨g, cap, cur, rfl, _, _, hnc, _⟩
  · simp [Builtin.append_, run_underlying ht, sizeOf, typeInfo, hi, Builtin.lenOf, Builtin.firstCells]
  · simp [Builtin.append_, run_underlying ht, sizeOf, typeInfo, hi, Builtin.lenOf, Builtin.firstCells, hnc, storeCells]
/-- append of any slice onto one of one's own: where its block is behind it -/
theorem EL_appO {d : Nat} {t e : TypeId} {s x : Operand} {z : Value} {size bytes : Nat} [ut : UT P t (.slice e)] [ti : TI P e z size bytes] {v : Value} {w0 : World} {m : Nat} {xs : List Value} {a : Option Addr} {q c : Nat} {news : List Value}
    (hown : w.ownsRow w0.heap.size e size v m xs) (x0 : Ext w0 w) (hnews : 0 < q → ∃ b off, a = some ⟨b, off, none⟩ ∧ At w b off news) (hg : gst ops L o = some true) (hd : odst n o.dst = some d) (ho : o.op = .call { callee := .builtin .append, args := #[s, x], argTypes := #[t, t] })
    (hs : ev L s = some v) (hx : ev L x = some (.slice a q c)) (hl : news.length = q * size)
    (h1 : news.all Value.oneCell' = true) (hz : z.cells.size = size) (hsz : Nat.ble 1 size = true) (hmax : (m + q) * bytes ≤ 140737488355328) (hmax' : m + q ≤ 9223372036854775807)
    (k : ∀ v' w', w'.ownsRow w0.heap.size e size v' (m + q) (xs ++ news) → Ext w0 w' → Kb v.ownBlock w w' → (v'.ownBlock = v.ownBlock ∨ v'.ownBlock = some w.heap.size) → EL P n ops Q rest ((d, v') :: L) w') : EL P n ops Q (o :: rest) L w := by
  obtain ⟨i0, hi, hz0, hz1, hz2⟩ := info_parts ti.i
  cases a with
  | none =>
    have hq : q = 0 := by
      by_cases h0 : 0 < q
      · obtain ⟨_, _, e1, _⟩ := hnews h0; cases e1
      · omega
    subst hq
    obtain rfl : news = [] := List.length_eq_zero_iff.1 (by rw [hl, Nat.zero_mul])
    have hr := append_owned_none (P := P) (w := w) (ty := o.type) (c := c) ut.u hi hown
    refine EL_valw (w' := w) hg hd (fun ρ ha => ?_) (k v w (by simpa using hown) x0 (World.grownBy.refl _ _) (.inl rfl))
    have a1 := ha.ev (by rw [ho]; simp [Op.operands, Call.operands]) hs
    have a2 := ha.ev (by rw [ho]; simp [Op.operands, Call.operands]) hx
    simp only [execOp, ho, resolve, invoke, builtin, Sem.run_bind, Sem.run_pure, Result.andThen_ok, List.map_toArray, List.map_cons, List.map_nil, a1, a2, hr]
  | some ad =>
    have hat : ∀ j u, news[j]? = some u → w.cell? (ad.add j) = some u := by
      by_cases h0 : 0 < q
      · obtain ⟨b, off, e1, hat⟩ := hnews h0
        cases e1
        exact fun j u hu => by rw [addr_add]; exact hat j u hu
      · obtain rfl : news = [] := List.length_eq_zero_iff.1 (by rw [hl, show q = 0 by omega, Nat.zero_mul])
        exact fun j u hu => by simp at hu
    obtain ⟨v', w', hr, h2, h3, _, h4⟩ := run_append_own_at (P := P) (w := w) (ty := o.type) w0.heap.size t e i0 z size bytes ut.u hi hz0 hz1 hz2 hz (Nat.le_of_ble_eq_true hsz) v m xs hown ad q c news hl hat
      (fun u hu => List.all_eq_true.1 h1 u hu) (by unfold maxLen; omega) hmax x0.size
    refine EL_valw hg hd (fun ρ ha => ?_) (k v' w' h2 (own_anchor hown x0 h3) h3 h4)
    have a1 := ha.ev (by rw [ho]; simp [Op.operands, Call.operands]) hs
    have a2 := ha.ev (by rw [ho]; simp [Op.operands, Call.operands]) hx
    simp only [execOp, ho, resolve, invoke, builtin, Sem.run_bind, Sem.run_pure, Result.andThen_ok, List.map_toArray, List.map_cons, List.map_nil, a1, a2, hr]
end
end Go.En
namespace Go.En
open Go.RowKit
section
variable {P : Program} {L : List (Nat × Value)} {w : World} {o : Oper}
theorem val_max {t u : TypeId} {x y : Operand} {a b : Int} (ho : o.op = .call { callee := .builtin .max, args := #[x, y], argTypes := #[t, u] }) (hx : ev L x = some (int a)) (hy : ev L y = some (int b)) : Val P L w o (int (if b > a then b else a)) := fun ρ ha => by
  have h1 := ha.ev (by rw [ho]; simp [Op.operands, Call.operands]) hx
  have h2 := ha.ev (by rw [ho]; simp [Op.operands, Call.operands]) hy
  simp [execOp, ho, resolve, invoke, builtin, Builtin.max_, Builtin.max2, h1, h2, go_sem]
theorem val_min {t u : TypeId} {x y : Operand} {a b : Int} (ho : o.op = .call { callee := .builtin .min, args := #[x, y], argTypes := #[t, u] }) (hx : ev L x = some (int a)) (hy : ev L y = some (int b)) : Val P L w o (int (if b < a then b else a)) := fun ρ ha => by
  have h1 := ha.ev (by rw [ho]; simp [Op.operands, Call.operands]) hx
  have h2 := ha.ev (by rw [ho]; simp [Op.operands, Call.operands]) hy
  simp [execOp, ho, resolve, invoke, builtin, Builtin.min_, Builtin.min2, h1, h2, go_sem]
/-- a struct of two numbers -/
structure TwoInts (P : Program) (t e : TypeId) : Prop where
  st : P.underlying t = some (.struct (P.fieldsOf t))
  hp : P.stoodInHeld t = false
  hg : P.eqGuardType P.depth t = false
  hf : ((P.fieldsOf t).toList.map fun f => (f.name == "_", f.type, f.offset)) = [(false, e, 0), (false, e, 1)]
  he : P.underlying e = some (.int .i64)
theorem run_part_int {e : TypeId} {xs : Array Value} {off : Nat} {v : Value} (he : P.underlying e = some (.int .i64)) (hx : xs[off]? = some v) : (part e xs off).run P w = .ok v w := by
  have h3 : (isAgg e).run P w = .ok false w := by simp [isAgg, run_underlying he]
  simp [part, h3, hx]
theorem run_eq_two {t e : TypeId} (h : TwoInts P t e) (a b c d : Int) : (Op.equalIn 10000 t (.agg #[int a, int b]) (.agg #[int c, int d])).run P w = .ok (decide (a = c) && decide (b = d)) w := by
  rw [run_equalIn_struct w 9999 t _ _ h.st h.hp]
  have hf := h.hf
  obtain ⟨f, g, hl⟩ : ∃ f g, (P.fieldsOf t).toList = [f, g] := by
    have := congrArg List.length hf
    rw [List.length_map] at this
    generalize (P.fieldsOf t).toList = l at this ⊢
    cases l with
    | nil => simp at this
    | cons f l => cases l with
      | nil => simp at this
      | cons g l => cases l with
        | nil => exact ⟨f, g, rfl⟩
        | cons => simp at this
  rw [hl] at hf ⊢
  · 
    simp only [List.map_cons, List.map_nil, List.cons.injEq, Prod.mk.injEq, and_true] at hf
    obtain ⟨⟨n1, t1, o1⟩, n2, t2, o2⟩ := hf
    have m1 : f.name ≠ "_" := by simpa using n1
    have m2 : g.name ≠ "_" := by simpa using n2
    have p1 := fun (xs : Array Value) v (hx : xs[0]? = some v) => run_part_int (P := P) (w := w) h.he hx
    have p2 := fun (xs : Array Value) v (hx : xs[1]? = some v) => run_part_int (P := P) (w := w) h.he hx
    have q := fun x y => run_equalIn_int (P := P) w 9998 e .i64 .i64 x y h.he
    simp only [Op.eqFields, t1, o1, t2, o2, m1, m2, ne_eq, not_false_eq_true, if_true, Sem.run_bind]
    rw [p1 _ (int a) rfl]
    simp only [Result.andThen_ok]
    rw [p1 _ (int c) rfl]
    simp only [Result.andThen_ok]
    rw [q]
    simp only [Result.andThen_ok]
    by_cases hac : a = c
    · subst hac
      simp only [beq_self_eq_true, Bool.not_true, Bool.false_eq_true, if_false, Sem.run_bind]
      rw [p2 _ (int b) rfl]
      simp only [Result.andThen_ok]
      rw [p2 _ (int d) rfl]
      simp only [Result.andThen_ok]
      rw [q]
      simp only [Result.andThen_ok]
      by_cases hbd : b = d
      · subst hbd; simp
      · simp [hbd]
    · simp [hac]
theorem val_ne_two {t e u : TypeId} {x y : Operand} {a b c d : Int} (h : TwoInts P t e) (ho : o.op = .binOp .neq t x y u) (hx : ev L x = some (.agg #[int a, int b])) (hy : ev L y = some (.agg #[int c, int d])) : Val P L w o (.bool (!(decide (a = c) && decide (b = d)))) := fun ρ ha => by
  have h1 := ha.ev (by rw [ho]; simp [Op.operands]) hx
  have h2 := ha.ev (by rw [ho]; simp [Op.operands]) hy
  have h3 := run_eqGuard_agg (P := P) w .neq t x y #[int a, int b] #[int c, int d] h.hg
  have h4 := run_neq_struct (P := P) w t #[int a, int b] #[int c, int d]
  have h5 := run_eq_two (w := w) h a b c d
  simp [execOp, ho, h1, h2, h3, h4, h5, go_sem]
theorem val_ne_two_b {t e u : TypeId} {x y : Operand} {a b c d : Int} {r : Bool} (h : TwoInts P t e) (ho : o.op = .binOp .neq t x y u) (hx : ev L x = some (.agg #[int a, int b])) (hy : ev L y = some (.agg #[int c, int d])) (hr : r = !(decide (a = c) && decide (b = d))) : Val P L w o (.bool r) := hr ▸ val_ne_two h ho hx hy
theorem val_eq_two {t e u : TypeId} {x y : Operand} {a b c d : Int} (h : TwoInts P t e) (ho : o.op = .binOp .eql t x y u) (hx : ev L x = some (.agg #[int a, int b])) (hy : ev L y = some (.agg #[int c, int d])) : Val P L w o (.bool (decide (a = c) && decide (b = d))) := fun ρ ha => by
  have h1 := ha.ev (by rw [ho]; simp [Op.operands]) hx
  have h2 := ha.ev (by rw [ho]; simp [Op.operands]) hy
  have h3 := run_eqGuard_agg (P := P) w .eql t x y #[int a, int b] #[int c, int d] h.hg
  have h4 := run_eql_struct (P := P) w t #[int a, int b] #[int c, int d]
  have h5 := run_eq_two (w := w) h a b c d
  simp [execOp, ho, h1, h2, h3, h4, h5, go_sem]
end
/-- results: a struct in a cell, and a value -/
theorem ret_ct {P : Program} {n : Nat} {L : List (Nat × Value)} {w : World} {fn : Func} {S : Value → World → Prop} {s u : Tmp} {x : Value} {ty : TypeId} {d : TypeDesc} {b off : Nat} {cs : List Value} {z : Value} {size bytes : Nat} [UT P ty d] [TI P ty z size bytes] (hr : fn.results = #[.cell s ty, .tmp u])
    (hd : isAggD d = true) (hv : lk L s = some (.pointer (some ⟨b, off, none⟩))) (hc : At w b off cs) (hl : Nat.beq cs.length size = true) (hx : lk L u = some x) (hs : S (.tuple #[.agg cs.toArray, x]) w) : K n (bodyPost P fn (Rt S)) .ret L w := fun a ha => by
  refine ⟨ha.nod, .tuple #[.agg cs.toArray, x], ?_, _, rfl, hs⟩
  have h1 := ha.get s _ hv
  have h2 := ha.get u _ hx
  have h3 := run_isAgg (P := P) (t := ty) w
  rw [hd] at h3
  obtain ⟨i0, hi0, _, hsz, _⟩ := run_ti (P := P) (t := ty) w
  have h4 := run_loadCells_list (P := P) w ⟨b, off, none⟩ cs (fun j v hv => by rw [addr_add]; exact hc j v hv)
  rw [Nat.eq_of_beq_eq_true hl] at h4
  unfold loadCells at h4
  simp [results, hr, Array.getD_eq_getD_getElem?, h1, h2, Instr.loadAt, Instr.sureAddr, loadVar, go_sem, h3, sizeOf, hi0, hsz, h4]
end Go.En
namespace Go.En
theorem kmin (k : IntKind) : k.min = (match k with | .i8 => -128 | .i16 => -32768 | .i32 => -2147483648 | .i64 => -9223372036854775808 | .u8 => 0 | .u16 => 0 | .u32 => 0 | .u64 => 0 : Int) := by cases k <;> rfl
theorem kmax (k : IntKind) : k.max = (match k with | .i8 => 127 | .i16 => 32767 | .i32 => 2147483647 | .i64 => 9223372036854775807 | .u8 => 255 | .u16 => 65535 | .u32 => 4294967295 | .u64 => 18446744073709551615 : Int) := by cases k <;> rfl
end Go.En
namespace Go.En
open Go.RowKit

section
variable {P : Program} {n : Nat} {Q : Post} {ops : List Oper}
/-- any order, by what holds when the operations of 'C' are done -/
theorem any_J (J : (Nat → Prop) → Act → World → Prop) (hlow : chkLow ops = true) (hgd : ∀ o ∈ ops, o.guard = none)
    (hstep : ∀ C C' a w i o, J C a w → Clo ops C → ¬ C i → ops[i]? = some o → (∀ e ∈ o.after, Region.binds .any e = true → C e.on) → (∀ j, C' j ↔ j = i ∨ C j) → ∀ K Q', (∀ v w', J C' (a.put o.dst v) w' → K (a.put o.dst v) w') → o.wp P a w K Q')
    (hend : ∀ C a w, (∀ j, j < ops.length → C j) → J C a w → Q .normal a w) :
    ∀ (fuel : Nat) (listed : Array Bool) (a : Act) (w : World), listed.size = ops.length → Clo ops (LsD listed) → J (LsD listed) a w → unl ops.length listed = fuel → wpAny P .any ops.toArray Q fuel listed a w := by
  have hleast : ∀ (listed : Array Bool), listed.size = ops.length → (¬ ∀ j, j < ops.length → LsD listed j) → ∃ i, i < ops.length ∧ i ∈ Region.ready .any ops.toArray listed := by
    intro listed hl hn
    have : ∃ i, i < ops.length ∧ ¬ LsD listed i := by
      apply Classical.byContradiction
      intro h
      exact hn fun j hj => Classical.byContradiction fun hj' => h ⟨j, hj, hj'⟩
    obtain ⟨i, h1, h2, h3⟩ := least_not (fun i => by unfold LsD; infer_instance) ops.length this
    exact ⟨i, h1, (ready_mem hl).2 ⟨h2, _, List.getElem?_eq_getElem h1, fun e he hb => h3 _ (chkLow_ok hlow (List.getElem?_eq_getElem h1) he hb)⟩⟩
  intro fuel
  induction fuel with
  | zero =>
    intro listed a w hl hc hj hu
    have hall : ∀ j, j < ops.length → LsD listed j := by
      intro j hj
      apply Classical.byContradiction
      intro hn
      have := unl_set (N := ops.length) hj hl hn
      omega
    refine ⟨?_, hend _ a w hall hj⟩
    rw [List.eq_nil_iff_forall_not_mem]
    intro i hi
    obtain ⟨h1, o, ho, _⟩ := (ready_mem hl).1 hi
    exact h1 (hall i (List.getElem?_eq_some_iff.1 ho).1)
  | succ fuel ih =>
    intro listed a w hl hc hj hu
    refine ⟨fun h0 => ?_, fun i hi => ?_⟩
    · refine hend _ a w (Classical.byContradiction fun hn => ?_) hj
      obtain ⟨i, _, hi⟩ := hleast listed hl hn
      rw [h0] at hi; cases hi
    obtain ⟨hun, o, ho, hed⟩ := (ready_mem hl).1 hi
    have hilt := (List.getElem?_eq_some_iff.1 ho).1
    have hoa : ops.toArray[i]? = some o := by simpa using ho
    have hset : ∀ j, LsD (listed.setIfInBounds i true) j ↔ (j = i ∨ LsD listed j) := fun j => by
      unfold LsD
      by_cases hij : i = j
      · subst hij; simp [hl, hilt]
      · rw [getD_set_ne false hij]; constructor
        · exact .inr
        · rintro (h | h)
          · exact absurd h.symm hij
          · exact h
    unfold wpOp
    simp only [hoa]
    have hw : Region.wanted o (yielded ops.toArray a.tmps) = true := by unfold Region.wanted; rw [hgd o (List.mem_of_getElem? ho)]
    rw [if_pos hw]
    refine .inl (hstep _ _ a w i o hj hc hun ho (fun e he hb => hed e he hb) hset _ _ fun v w' hv => ?_)
    refine ih _ _ _ (by simpa using hl) ?_ hv ?_
    · intro k q hq hk e he hb
      rw [hset] at hk ⊢
      rcases hk with rfl | hk
      · rw [ho] at hq; cases hq; exact .inr (hed e he hb)
      · exact .inr (hc k q hq hk e he hb)
    · have := unl_set (N := ops.length) hilt hl hun
      omega
theorem ev_of {L : List (Nat × Value)} {a : Act} {x : Operand} {v : Value} (h : ∀ s u, x = .tmp s → lk L s = some u → a.tmps[s]? = some u) (hx : ev L x = some v) : a.eval x = v := by
  cases x with
  | tmp t => simp only [En.ev] at hx; have := h t v rfl hx; simp [Act.eval, Array.getD_eq_getD_getElem?, this]
  | const u => simpa [En.ev, Act.eval] using hx
  | global g => simpa [En.ev, Act.eval] using hx
  | func f => simpa [En.ev, Act.eval] using hx
theorem lk_append {L M : List (Nat × Value)} {s : Nat} {v : Value} (h : lk (L ++ M) s = some v) : lk L s = some v ∨ lk M s = some v := by
  induction L with
  | nil => exact .inr h
  | cons x r ih =>
    obtain ⟨k, u⟩ := x
    simp only [List.cons_append, lk] at h ⊢
    cases hb : Nat.beq k s with
    | true => rw [hb] at h; simp at h ⊢; exact .inl h
    | false => rw [hb] at h; simp at h ⊢; exact ih h
theorem lk_get {L : List (Nat × Value)} {s : Nat} {v : Value} (h : lk L s = some v) : ∃ j : Nat, L[j]? = some (s, v) := by
  induction L with
  | nil => simp [lk] at h
  | cons x r ih =>
    obtain ⟨k, u⟩ := x
    simp only [lk] at h
    cases hb : Nat.beq k s with
    | true =>
      rw [hb] at h; simp at h
      have := Nat.eq_of_beq_eq_true hb
      subst this; subst h
      exact ⟨0, rfl⟩
    | false =>
      rw [hb] at h; simp at h
      obtain ⟨j, hj⟩ := ih h
      exact ⟨j + 1, by simpa using hj⟩
def VSeq (P : Program) (L : List (Nat × Value)) (w0 : World) : List Oper → List (Nat × Value) → Prop
  | o :: r, x :: xs => (∀ w, Ext w0 w → Val P L w o x.2) ∧ VSeq P L w0 r xs
  | _, [] => True
  | [], _ :: _ => False
theorem VSeq.get {L : List (Nat × Value)} {w0 : World} : ∀ {l : List Oper} {xs : List (Nat × Value)}, VSeq P L w0 l xs → ∀ {i : Nat} {x : Nat × Value} {o : Oper}, xs[i]? = some x → l[i]? = some o → ∀ w, Ext w0 w → Val P L w o x.2
  | _ :: _, _ :: _, h, 0, _, _, hx, ho => by simp at hx ho; subst hx; subst ho; exact h.1
  | _ :: _, _ :: _, h, i + 1, _, _, hx, ho => VSeq.get h.2 (by simpa using hx) (by simpa using ho)
  | _, [], _, _, _, _, hx, _ => by simp at hx
  | [], _ :: _, h, _, _, _, _, _ => h.elim
structure JP (n : Nat) (L0 Lr : List (Nat × Value)) (w0 : World) (m p q : Nat) (t : TypeId) (Zc X Y : List Value) (C : Nat → Prop) (a : Act) (w : World) : Prop where
  size : a.tmps.size = n
  nod : a.defers = []
  ext : Ext w0 w
  base : ∀ s v, lk L0 s = some v → a.tmps[s]? = some v
  reads : ∀ j s v, C j → Lr[j]? = some (s, v) → a.tmps[s]? = some v
  hp : C m → ∃ b, a.tmps[p]? = some (.pointer (some ⟨b, 0, none⟩)) ∧ w0.heap.size ≤ b ∧ (C (m + 2) → Row w b t X) ∧ (¬ C (m + 2) → Row w b t Zc)
  hq : C (m + 1) → ∃ b, a.tmps[q]? = some (.pointer (some ⟨b, 0, none⟩)) ∧ w0.heap.size ≤ b ∧ (C (m + 3) → Row w b t Y) ∧ (¬ C (m + 3) → Row w b t Zc)
  ne : C m → C (m + 1) → a.tmps[p]? ≠ a.tmps[q]?
theorem put_ne {a : Act} {d : Option Tmp} {v : Value} {s : Nat} (h : d ≠ some s) : (a.put d v).tmps[s]? = a.tmps[s]? := by
  cases d with
  | none => rfl
  | some d => exact Array.getElem?_setIfInBounds_ne (fun e => h (by rw [e]))
theorem put_eq {a : Act} {d : Nat} {v : Value} (h : d < a.tmps.size) : (a.put (some d) v).tmps[d]? = some v := by
  simp only [Act.put]; exact Array.getElem?_setIfInBounds_self_of_lt h
theorem put_size {a : Act} {d : Option Tmp} {v : Value} : (a.put d v).tmps.size = a.tmps.size := by cases d <;> simp [Act.put]
theorem put_nod {a : Act} {d : Option Tmp} {v : Value} : (a.put d v).defers = a.defers := by cases d <;> rfl
theorem run_alloc {t : TypeId} {z : Value} {size bytes : Nat} [TI P t z size bytes] {o : Oper} (ho : o.op = .alloc t) (ρ : Operand → Value) (w : World) : (execOp ρ o).run P w = .ok (.value (.pointer (some ⟨w.heap.size, 0, none⟩))) (w.alloc (.cells z.cells t)) := by
  obtain ⟨i, hi, hz, _⟩ := run_ti (P := P) (t := t) w
  simp [execOp, ho, Instr.alloc, newVar, newRow, newObj, zeroValue, go_sem, hi, hz]
  rfl
theorem run_storeA {t : TypeId} {z : Value} {size bytes : Nat} [TI P t z size bytes] {o : Oper} {x y : Operand} {b : Nat} {cs X : List Value} (ho : o.op = .store t x y) {ρ : Operand → Value} {w : World} (hx : ρ x = .pointer (some ⟨b, 0, none⟩)) (hy : ρ y = .agg X.toArray)
    (hX : X.length = size) (h1 : X.all Value.oneCell' = true) (hr : Row w b t cs) (hl : cs.length = size) : ∃ w', (execOp ρ o).run P w = .ok .skip w' ∧ Row w' b t X ∧ Kb (some b) w w' ∧ w'.heap.size = w.heap.size := by
  have h := run_storeCells_at (P := P) b 0 t X 0 cs.toArray w hr (by simp [hX, hl]) (fun u hu => List.all_eq_true.1 h1 u hu)
  simp only [Nat.add_zero, Nat.zero_add] at h
  have h4 := run_sizeOf (P := P) (t := t) w
  refine ⟨w.setRow b (cs.take 0 ++ X ++ cs.drop X.length).toArray, ?_, ?_, ⟨rfl, rfl, rfl, by simp, fun k hk hne => setRow_other w b k _ (fun e => hne (by rw [e]))⟩, by simp⟩
  · simp only [execOp, ho, hx, hy, Instr.storeAt, Instr.sureAddr, storeVar, Sem.run_bind, Sem.run_pure, Result.andThen_ok, h4, Value.cells]
    rw [if_neg (by simp [hX])]
    simp only [h, Result.andThen_ok]
  · have e : (cs.take 0 ++ X ++ cs.drop X.length) = X := by rw [List.take_zero, List.nil_append, List.drop_eq_nil_of_le (by omega), List.append_nil]
    rw [e]
    exact setRow_heap w b cs.toArray X.toArray t (0, 0) hr
/-- an operation looks at what stands ahead of it alone -/
def chkFwd (ops : List Oper) : Bool := ops.zipIdx.all fun p => (p.1.looksAt ops.toArray).all fun s => ops.zipIdx.all fun q => match q.1.dst with | some d => !(Nat.beq d s) || Nat.blt q.2 p.2 | none => true
theorem chkFwd_ok {ops : List Oper} (h : chkFwd ops = true) {i j : Nat} {o q : Oper} (ho : ops[i]? = some o) (hq : ops[j]? = some q) {s : Nat} (hs : s ∈ o.looksAt ops.toArray) (hd : q.dst = some s) : j < i := by
  have h1 := List.all_eq_true.1 h _ (zip_mem ho)
  have h2 := List.all_eq_true.1 h1 s hs
  have h3 := List.all_eq_true.1 h2 _ (zip_mem hq)
  simp only [hd, Nat.beq_refl, Bool.not_true, Bool.false_or] at h3
  exact Nat.le_of_ble_eq_true h3
theorem E_pair {id : Nat} {L0 Lr : List (Nat × Value)} {w0 : World} {m p q sx sy : Nat} {t : TypeId} {z : Value} {size bytes : Nat} {X Y : List Value} [TI P t z size bytes]
    (hm : P.follows .mixedOrders = true) (hc : (chkLow ops && chkReads ops ops.length && chkDst ops ops.length && chkFwd ops) = true) (hlen : ops.length = m + 4) (hgd : ops.all (fun o => o.guard.isNone) = true)
    (hLr : (ops.take m).map (·.dst) = Lr.map fun x => some x.1) (h0 : ops[m]?.map (fun o => (o.op, o.dst)) = some (.alloc t, some p)) (h1 : ops[m + 1]?.map (fun o => (o.op, o.dst)) = some (.alloc t, some q))
    (h2 : ops[m + 2]?.map (fun o => (o.op, o.dst)) = some (.store t (.tmp p) (.tmp sx), none)) (h3 : ops[m + 3]?.map (fun o => (o.op, o.dst)) = some (.store t (.tmp q) (.tmp sy), none))
    (hds : ops.all (fun o => okd n o.dst) = true) (hdis : ops.all (fun o => match o.dst with | some d => L0.all (fun x => !(Nat.beq x.1 d)) | none => true) = true)
    (hX : lk Lr sx = some (.agg X.toArray)) (hY : lk Lr sy = some (.agg Y.toArray)) (hXs : X.length = size) (hYs : Y.length = size) (hX1 : X.all Value.oneCell' = true) (hY1 : Y.all Value.oneCell' = true) (hz : z.cells.size = size)
    (hV : VSeq P (L0 ++ Lr) w0 ops Lr)
    (k : ∀ b c w, Ext w0 w → w0.heap.size ≤ b → w0.heap.size ≤ c → b ≠ c → Row w b t X → Row w c t Y → K n Q .normal ((p, .pointer (some ⟨b, 0, none⟩)) :: (q, .pointer (some ⟨c, 0, none⟩)) :: L0) w) : E P n (.region id ops.toArray true) Q L0 w0 := by
  intro a ha
  simp only [Bool.and_eq_true] at hc
  obtain ⟨⟨⟨hlow, hreads⟩, hdst⟩, hfwd⟩ := hc
  have hrl : Lr.length = m := by
    have := congrArg List.length hLr
    simp at this; omega
  -- what stands where
  have op_of : ∀ {i : Nat} {x : Op × Option Tmp}, ops[i]?.map (fun o => (o.op, o.dst)) = some x → ∀ {o}, ops[i]? = some o → o.op = x.1 ∧ o.dst = x.2 := fun {i x} hx {o} ho => by
    rw [ho] at hx; simp at hx; rw [← hx]; exact ⟨rfl, rfl⟩
  have rd_dst : ∀ {j : Nat} {s : Nat} {v : Value}, Lr[j]? = some (s, v) → ∃ o, ops[j]? = some o ∧ o.dst = some s := fun {j s v} hj => by
    have hjl := (List.getElem?_eq_some_iff.1 hj).1
    have e := congrArg (·[j]?) hLr
    simp only [List.getElem?_map, hj, Option.map_some] at e
    rw [List.getElem?_take_of_lt (by omega)] at e
    cases ho : ops[j]? with
    | none => rw [ho] at e; cases e
    | some o => rw [ho] at e; exact ⟨o, rfl, by simpa using e⟩
  have dst_j : ∀ {i j : Nat} {o o' : Oper} {s : Nat}, ops[i]? = some o → ops[j]? = some o' → o.dst = some s → o'.dst = some s → i = j := fun ho ho' hd hd' =>
    chkDst_ok hdst ho (List.getElem?_eq_some_iff.1 ho).1 ho' (List.getElem?_eq_some_iff.1 ho').1 hd hd'
  have nin : ∀ {i : Nat} {o : Oper} {s : Nat}, ops[i]? = some o → o.dst = some s → lk L0 s = none := fun {i o s} ho hd => by
    have := List.all_eq_true.1 hdis o (List.mem_of_getElem? ho)
    rw [hd] at this
    simp only [List.all_eq_true, Bool.not_eq_true'] at this
    cases hl : lk L0 s with
    | none => rfl
    | some v =>
      obtain ⟨j, hj⟩ := lk_get hl
      have := this _ (List.mem_of_getElem? hj)
      simp at this
  have o0 : ∃ o, ops[m]? = some o := ⟨_, List.getElem?_eq_getElem (by omega)⟩
  have o1 : ∃ o, ops[m + 1]? = some o := ⟨_, List.getElem?_eq_getElem (by omega)⟩
  obtain ⟨oa, hoa⟩ := o0
  obtain ⟨ob, hob⟩ := o1
  obtain ⟨ha1, ha2⟩ := op_of h0 hoa
  obtain ⟨hb1, hb2⟩ := op_of h1 hob
  dsimp only at ha1 ha2 hb1 hb2
  have hpn : p < n := by have := List.all_eq_true.1 hds oa (List.mem_of_getElem? hoa); rw [ha2] at this; exact Nat.le_of_ble_eq_true this
  have hqn : q < n := by have := List.all_eq_true.1 hds ob (List.mem_of_getElem? hob); rw [hb2] at this; exact Nat.le_of_ble_eq_true this
  have hpq : p ≠ q := fun e => by subst e; have := dst_j hoa hob ha2 hb2; omega
  have hzl : z.cells.toList.length = size := by simpa using hz
  -- what an operation's operands were made by is done
  have hlook : ∀ {C : Nat → Prop} {i j : Nat} {o o' : Oper} {s : Nat}, Clo ops C → ops[i]? = some o → (∀ e ∈ o.after, Region.binds .any e = true → C e.on) → .tmp s ∈ o.op.operands → ops[j]? = some o' → o'.dst = some s → C j := by
    intro C i j o o' s hcl ho hed hs hj hd
    have hr := chkReads_ok hreads ho (List.getElem?_eq_some_iff.1 ho).1 hj (List.getElem?_eq_some_iff.1 hj).1 (looks_op hs) hd
    exact (hr.1 (chkFwd_ok hfwd ho hj (looks_op hs) hd)).clo hcl (fun o2 ho2 => by rw [ho] at ho2; cases ho2; exact hed)
  refine wp_region_any hm ?_
  rw [show ops.toArray.size = ops.length by simp]
  have hfl : ∀ i, ¬ LsD (Array.replicate ops.length false) i := fun i => by
    unfold LsD; simp [Array.getElem?_replicate]; split <;> simp
  refine any_J (J := JP n L0 Lr w0 m p q t z.cells.toList X Y) hlow (fun o ho => by have := List.all_eq_true.1 hgd o ho; simpa using this) ?_ ?_ _ _ a _ (by simp) (fun i o _ hi => absurd hi (hfl i))
    ⟨ha.size, ha.nod, ext_drew w0, ha.get, fun j s v hj => absurd hj (hfl j), fun hj => absurd hj (hfl _), fun hj => absurd hj (hfl _), fun hj => absurd hj (hfl _)⟩ (by
      have := unl_prefix (N := ops.length) (Nat.zero_le _) (listed := Array.replicate ops.length false) (fun i => ⟨fun h => absurd h (hfl i), fun h => absurd h (Nat.not_lt_zero _)⟩)
      omega)
  · intro C C' a w i o I hcl hi ho hed hC' K Q' hK
    have hil := (List.getElem?_eq_some_iff.1 ho).1
    have hsz : ∀ {d : Nat}, d < n → d < a.tmps.size := fun h => by rw [I.size]; exact h
    -- what stays where another slot is written
    have stay : ∀ {s : Nat} {v v' : Value}, o.dst ≠ some s → a.tmps[s]? = some v → (a.put o.dst v').tmps[s]? = some v := fun hne h => by rw [put_ne hne]; exact h
    by_cases him : i < m
    · -- a reading
      obtain ⟨⟨s, v⟩, hx⟩ : ∃ x, Lr[i]? = some x := ⟨_, List.getElem?_eq_getElem (by omega)⟩
      obtain ⟨o', ho', hd⟩ := rd_dst hx
      rw [ho] at ho'; cases ho'
      have hsn : s < n := by have := List.all_eq_true.1 hds o (List.mem_of_getElem? ho); rw [hd] at this; exact Nat.le_of_ble_eq_true this
      have hag : Agree (L0 ++ Lr) o a.eval := fun x hxo u hu => ev_of (fun s' u' he hl => by
        subst he
        rcases lk_append hl with hl | hl
        · exact I.base _ _ hl
        · obtain ⟨j, hj⟩ := lk_get hl
          obtain ⟨o2, ho2, hd2⟩ := rd_dst hj
          exact I.reads j _ _ (hlook hcl ho hed hxo ho2 hd2) hj) hu
      have hrun := hV.get hx ho w I.ext a.eval hag
      unfold Oper.wp
      rw [hrun]
      refine hK v w ⟨by rw [put_size]; exact I.size, by rw [put_nod]; exact I.nod, I.ext, fun s' u hl => ?_, fun j s' u hj hju => ?_, fun hcm => ?_, fun hcm => ?_, fun hcm hcm1 => ?_⟩
      · refine stay (fun e => ?_) (I.base _ _ hl)
        rw [nin ho e] at hl; cases hl
      · by_cases hji : j = i
        · subst hji
          rw [hx] at hju; cases hju
          rw [hd]; exact put_eq (hsz hsn)
        · obtain ⟨o2, ho2, hd2⟩ := rd_dst hju
          exact stay (fun e => hji (dst_j ho2 ho hd2 e)) (I.reads j _ _ (((hC' j).1 hj).resolve_left hji) hju)
      · obtain ⟨b, e1, e2, e3, e4⟩ := I.hp (((hC' m).1 hcm).resolve_left (by omega))
        exact ⟨b, stay (fun e => by have := dst_j ho hoa e ha2; omega) e1, e2, fun h => e3 (((hC' _).1 h).resolve_left (by omega)), fun h => e4 fun h' => h ((hC' _).2 (.inr h'))⟩
      · obtain ⟨b, e1, e2, e3, e4⟩ := I.hq (((hC' _).1 hcm).resolve_left (by omega))
        exact ⟨b, stay (fun e => by have := dst_j ho hob e hb2; omega) e1, e2, fun h => e3 (((hC' _).1 h).resolve_left (by omega)), fun h => e4 fun h' => h ((hC' _).2 (.inr h'))⟩
      · have := I.ne (((hC' _).1 hcm).resolve_left (by omega)) (((hC' _).1 hcm1).resolve_left (by omega))
        rw [put_ne (fun e => by have := dst_j ho hoa e ha2; omega), put_ne (fun e => by have := dst_j ho hob e hb2; omega)]
        exact this
    by_cases hi0 : i = m
    · -- the first variable
      subst hi0
      rw [hoa] at ho; cases ho
      have hrun := run_alloc (P := P) ha1 a.eval w
      have hx := ext_alloc w (.cells z.cells t)
      unfold Oper.wp
      rw [hrun]
      refine hK _ _ ⟨by rw [put_size]; exact I.size, by rw [put_nod]; exact I.nod, I.ext.trans hx, fun s' u hl => ?_, fun j s' u hj hju => ?_, fun hcm => ?_, fun hcm => ?_, fun hcm hcm1 => ?_⟩
      · refine stay (fun e => ?_) (I.base _ _ hl)
        rw [nin hoa e] at hl; cases hl
      · obtain ⟨o2, ho2, hd2⟩ := rd_dst hju
        have hji : j ≠ i := by have := (List.getElem?_eq_some_iff.1 hju).1; omega
        exact stay (fun e => hji (dst_j ho2 hoa hd2 e)) (I.reads j _ _ (((hC' j).1 hj).resolve_left hji) hju)
      · refine ⟨w.heap.size, by rw [ha2]; exact put_eq (hsz hpn), I.ext.size, fun h => ?_, fun _ => row_alloc _ _ _⟩
        exfalso
        have h2c := ((hC' _).1 h).resolve_left (by omega)
        obtain ⟨oc, hoc⟩ : ∃ o, ops[i + 2]? = some o := ⟨_, List.getElem?_eq_getElem (by omega)⟩
        obtain ⟨hc1, _⟩ := op_of h2 hoc
        exact hi (hlook hcl hoc (fun e he hb => hcl _ _ hoc h2c e he hb) (by rw [hc1]; simp [Op.operands]) hoa ha2)
      · obtain ⟨b, e1, e2, e3, e4⟩ := I.hq (((hC' _).1 hcm).resolve_left (by omega))
        exact ⟨b, stay (fun e => by rw [ha2] at e; cases e; exact hpq rfl) e1, e2, fun h => (e3 (((hC' _).1 h).resolve_left (by omega))).ext hx, fun h => (e4 fun h' => h ((hC' _).2 (.inr h'))).ext hx⟩
      · obtain ⟨b, e1, e2, e3, e4⟩ := I.hq (((hC' _).1 hcm1).resolve_left (by omega))
        have hbl : b < w.heap.size := by
          by_cases h : C (i + 3)
          · exact (e3 h).lt
          · exact (e4 h).lt
        rw [ha2, put_eq (hsz hpn), ← ha2, stay (fun e => by rw [ha2] at e; cases e; exact hpq rfl) e1]
        intro e; cases e; omega
    by_cases hi1 : i = m + 1
    · subst hi1
      rw [hob] at ho; cases ho
      have hrun := run_alloc (P := P) hb1 a.eval w
      have hx := ext_alloc w (.cells z.cells t)
      unfold Oper.wp
      rw [hrun]
      refine hK _ _ ⟨by rw [put_size]; exact I.size, by rw [put_nod]; exact I.nod, I.ext.trans hx, fun s' u hl => ?_, fun j s' u hj hju => ?_, fun hcm => ?_, fun hcm => ?_, fun hcm hcm1 => ?_⟩
      · refine stay (fun e => ?_) (I.base _ _ hl)
        rw [nin hob e] at hl; cases hl
      · obtain ⟨o2, ho2, hd2⟩ := rd_dst hju
        have hji : j ≠ m + 1 := by have := (List.getElem?_eq_some_iff.1 hju).1; omega
        exact stay (fun e => hji (dst_j ho2 hob hd2 e)) (I.reads j _ _ (((hC' j).1 hj).resolve_left hji) hju)
      · obtain ⟨b, e1, e2, e3, e4⟩ := I.hp (((hC' _).1 hcm).resolve_left (by omega))
        exact ⟨b, stay (fun e => by rw [hb2] at e; cases e; exact hpq rfl) e1, e2, fun h => (e3 (((hC' _).1 h).resolve_left (by omega))).ext hx, fun h => (e4 fun h' => h ((hC' _).2 (.inr h'))).ext hx⟩
      · refine ⟨w.heap.size, by rw [hb2]; exact put_eq (hsz hqn), I.ext.size, fun h => ?_, fun _ => row_alloc _ _ _⟩
        exfalso
        have h2c := ((hC' _).1 h).resolve_left (by omega)
        obtain ⟨oc, hoc⟩ : ∃ o, ops[m + 3]? = some o := ⟨_, List.getElem?_eq_getElem (by omega)⟩
        obtain ⟨hc1, _⟩ := op_of h3 hoc
        exact hi (hlook hcl hoc (fun e he hb => hcl _ _ hoc h2c e he hb) (by rw [hc1]; simp [Op.operands]) hob hb2)
      · obtain ⟨b, e1, e2, e3, e4⟩ := I.hp (((hC' _).1 hcm).resolve_left (by omega))
        have hbl : b < w.heap.size := by
          by_cases h : C (m + 2)
          · exact (e3 h).lt
          · exact (e4 h).lt
        rw [hb2, put_eq (hsz hqn), ← hb2, stay (fun e => by rw [hb2] at e; cases e; exact hpq rfl) e1]
        intro e; cases e; omega
    -- the stores
    have hst : ∀ {s u : Nat} {V : List Value}, o.op = .store t (.tmp u) (.tmp s) → lk Lr s = some (.agg V.toArray) → a.eval (.tmp s) = .agg V.toArray := fun {s u V} hop hl => by
      refine ev_of (x := .tmp s) (L := Lr) (fun s' u' he hl' => ?_) hl
      cases he
      obtain ⟨j, hj⟩ := lk_get hl'
      obtain ⟨o2, ho2, hd2⟩ := rd_dst hj
      exact I.reads j _ _ (hlook hcl ho hed (by rw [hop]; simp [Op.operands]) ho2 hd2) hj
    by_cases hi2 : i = m + 2
    · subst hi2
      obtain ⟨hop, hdn⟩ := op_of h2 ho
      dsimp only at hop hdn
      have hcm : C m := hlook hcl ho hed (by rw [hop]; simp [Op.operands]) hoa ha2
      obtain ⟨b, e1, e2, e3, e4⟩ := I.hp hcm
      have hpv : a.eval (.tmp p) = .pointer (some ⟨b, 0, none⟩) := by simp [Act.eval, Array.getD_eq_getD_getElem?, e1]
      obtain ⟨w', hrun, r1, k1, hsz1⟩ := run_storeA (P := P) hop (ρ := a.eval) (w := w) hpv (hst hop hX) hXs hX1 (e4 hi) hzl
      unfold Oper.wp
      rw [hrun]
      refine hK _ _ ?_
      rw [hdn]
      refine ⟨I.size, I.nod, k1.ext I.ext (fun b' hb' => by cases hb'; exact e2), I.base, fun j s' u hj hju => ?_, fun _ => ⟨b, e1, e2, fun _ => r1, fun h => absurd ((hC' _).2 (.inl rfl)) h⟩, fun hc1 => ?_, fun _ hc1 => I.ne hcm (((hC' _).1 hc1).resolve_left (by omega))⟩
      · have hji : j ≠ m + 2 := by have := (List.getElem?_eq_some_iff.1 hju).1; omega
        exact I.reads j _ _ (((hC' j).1 hj).resolve_left hji) hju
      · have hcm1 := ((hC' _).1 hc1).resolve_left (by omega)
        obtain ⟨c, f1, f2, f3, f4⟩ := I.hq hcm1
        have hne : some c ≠ some b := fun e => by cases e; exact I.ne hcm hcm1 (by rw [e1, f1])
        exact ⟨c, f1, f2, fun h => k1.row (f3 (((hC' _).1 h).resolve_left (by omega))) hne, fun h => k1.row (f4 fun h' => h ((hC' _).2 (.inr h'))) hne⟩
    · have hi3 : i = m + 3 := by omega
      subst hi3
      obtain ⟨hop, hdn⟩ := op_of h3 ho
      dsimp only at hop hdn
      have hcm1 : C (m + 1) := hlook hcl ho hed (by rw [hop]; simp [Op.operands]) hob hb2
      obtain ⟨c, e1, e2, e3, e4⟩ := I.hq hcm1
      have hpv : a.eval (.tmp q) = .pointer (some ⟨c, 0, none⟩) := by simp [Act.eval, Array.getD_eq_getD_getElem?, e1]
      obtain ⟨w', hrun, r1, k1, hsz1⟩ := run_storeA (P := P) hop (ρ := a.eval) (w := w) hpv (hst hop hY) hYs hY1 (e4 hi) hzl
      unfold Oper.wp
      rw [hrun]
      refine hK _ _ ?_
      rw [hdn]
      refine ⟨I.size, I.nod, k1.ext I.ext (fun b' hb' => by cases hb'; exact e2), I.base, fun j s' u hj hju => ?_, fun hc1 => ?_, fun _ => ⟨c, e1, e2, fun _ => r1, fun h => absurd ((hC' _).2 (.inl rfl)) h⟩, fun hc0 _ => I.ne (((hC' _).1 hc0).resolve_left (by omega)) hcm1⟩
      · have hji : j ≠ m + 3 := by have := (List.getElem?_eq_some_iff.1 hju).1; omega
        exact I.reads j _ _ (((hC' j).1 hj).resolve_left hji) hju
      · have hcm := ((hC' _).1 hc1).resolve_left (by omega)
        obtain ⟨b, f1, f2, f3, f4⟩ := I.hp hcm
        have hne : some b ≠ some c := fun e => by cases e; exact I.ne hcm hcm1 (by rw [e1, f1])
        exact ⟨b, f1, f2, fun h => k1.row (f3 (((hC' _).1 h).resolve_left (by omega))) hne, fun h => k1.row (f4 fun h' => h ((hC' _).2 (.inr h'))) hne⟩
  · intro C a w hall I
    obtain ⟨b, e1, e2, e3, _⟩ := I.hp (hall _ (by omega))
    obtain ⟨c, f1, f2, f3, _⟩ := I.hq (hall _ (by omega))
    refine k b c w I.ext e2 f2 (fun e => ?_) (e3 (hall _ (by omega))) (f3 (hall _ (by omega))) a ⟨I.size, I.nod, fun s v hs => ?_⟩
    · exact I.ne (hall _ (by omega)) (hall _ (by omega)) (by rw [e1, f1, e])
    · simp only [lk] at hs
      cases hb : Nat.beq p s with
      | true =>
        rw [hb] at hs; simp at hs
        have := Nat.eq_of_beq_eq_true hb
        subst this; rw [e1, hs]
      | false =>
        rw [hb] at hs
        simp only [cond_false] at hs
        cases hb2 : Nat.beq q s with
        | true =>
          rw [hb2] at hs; simp at hs
          have := Nat.eq_of_beq_eq_true hb2
          subst this; rw [f1, hs]
        | false =>
          rw [hb2] at hs
          exact I.base s v hs
end
end Go.En
namespace Go.En
open Go.RowKit
section
variable {P : Program} {n : Nat} {Q : Post} {ops : List Oper}
theorem E_dm {id : Nat} {L : List (Nat × Value)} {w : World} (m : Nat) (hm : P.follows .mixedOrders = true) (hc : chk ops m = true) (hdm : domb n L = true) (h : RQ P n ops w Q (ops.take m) (ops.drop m) (vG L)) : E P n (.region id ops.toArray true) Q L w := by
  refine E_dr m hm hc hdm ?_
  unfold RQ at h
  have hml : m ≤ ops.length := by
    simp only [chk, Bool.and_eq_true] at hc
    exact Nat.le_of_ble_eq_true hc.1.1.1.1
  rw [List.take_append_drop, List.length_take, Nat.min_eq_left hml] at h
  exact h
theorem RQ_alloc {w0 : World} {o : Oper} {rest tl : List Oper} {G : List (Nat × Ent)} {d : Nat} {t : TypeId} {z : Value} {size bytes : Nat} [TI P t z size bytes] (hg : ggst ops G o = some true) (hd : odst n o.dst = some d) (ho : o.op = .alloc t)
    (k : RQ P n ops w0 Q rest tl ((d, .r (fun u w => ∃ b, u = .pointer (some ⟨b, 0, none⟩) ∧ w0.heap.size ≤ b ∧ Row w b t z.cells.toList)) :: G)) : RQ P n ops w0 Q (o :: rest) tl G :=
  RW_op (T := .r (fun u w => ∃ b, u = .pointer (some ⟨b, 0, none⟩) ∧ w0.heap.size ≤ b ∧ Row w b t z.cells.toList)) hg (odst_eq hd).2 (fun _ _ _ _ xe h => by obtain ⟨b, e, h1, h2⟩ := h; exact ⟨b, e, h1, h2.ext xe⟩)
    (fun w _ hw _ ρ _ => .inl ⟨_, _, run_alloc ho ρ w, ⟨w.heap.size, rfl, hw.size, row_alloc _ _ _⟩, ext_alloc _ _⟩) (by rw [(odst_eq hd).1]; exact k)
end
theorem val_bool_eq2 {P : Program} {L : List (Nat × Value)} {w : World} {o : Oper} {t u : TypeId} {x y : Operand} {a b : Bool} [ut : UT P t .bool] (ho : o.op = .binOp .eql t x y u) (hx : ev L x = some (.bool a)) (hy : ev L y = some (.bool b)) : Val P L w o (.bool (a == b)) := fun ρ ha => by
  have h1 := ha.ev (by rw [ho]; simp [Op.operands]) hx
  have h2 := ha.ev (by rw [ho]; simp [Op.operands]) hy
  have h3 := run_ut (t := t) (P := P) w
  have h4 := run_eql_bool (P := P) w t a b ut.u
  simp [execOp, ho, h1, h2, go_sem, h3, h4]
theorem val_bool_ne2 {P : Program} {L : List (Nat × Value)} {w : World} {o : Oper} {t u : TypeId} {x y : Operand} {a b : Bool} [ut : UT P t .bool] (ho : o.op = .binOp .neq t x y u) (hx : ev L x = some (.bool a)) (hy : ev L y = some (.bool b)) : Val P L w o (.bool (!(a == b))) := fun ρ ha => by
  have h1 := ha.ev (by rw [ho]; simp [Op.operands]) hx
  have h2 := ha.ev (by rw [ho]; simp [Op.operands]) hy
  have h3 := run_ut (t := t) (P := P) w
  have h4 := run_neq_bool (P := P) w t a b ut.u
  simp [execOp, ho, h1, h2, go_sem, h3, h4]
end Go.En
namespace Go.En
open Go.RowKit
section
variable {P : Program} {n : Nat} {ops : List Oper} {w0 : World} {Q : Post} {m : Nat} {G0 : List (Nat × Ent)} {Ts : Nat → Ent}
theorem any_from (p : Nat) (hchk : chk ops m = true)
    (hM : ∀ k < m, ∀ o, ops[k]? = some o → (Ts k).mono w0 ∧ okd n o.dst = true)
    (hC : ∀ k, p ≤ k → k < m → ∀ o, ops[k]? = some o → OpC P n ops w0 o (Gn ops G0 Ts k) (Ts k))
    (hF : ∀ a w, Ext w0 w → a.tmps.size = n → a.defers = [] → Sats (Gn ops G0 Ts m) a w → wpList P ops.toArray Q (ops.drop m) a w)
    (hG : ∀ s t, gk G0 s = some t → t.mono w0) (hdom : ∀ s t, gk G0 s = some t → s < n) :
    ∀ (fuel : Nat) (listed : Array Bool) (a : Act) (w : World), Inv n ops w0 m G0 Ts listed a w → (∀ j, j < p → LsD listed j) → unl ops.length listed = fuel → wpAny P .any ops.toArray Q fuel listed a w := by
  simp only [chk, Bool.and_eq_true] at hchk
  obtain ⟨⟨⟨⟨hm, hlow⟩, hreads⟩, hdst⟩, htail⟩ := hchk
  have hm : m ≤ ops.length := Nat.le_of_ble_eq_true hm
  have hget : ∀ j, j < m → ∃ o, ops[j]? = some o := fun j hj => ⟨_, List.getElem?_eq_getElem (by omega)⟩
  -- the entries that a state holds, seen from operation k on
  have hent : ∀ (listed : Array Bool) (a : Act) (w : World), Inv n ops w0 m G0 Ts listed a w → ∀ (k s : Nat) (t : Ent), k ≤ m → gk (Gn ops G0 Ts k) s = some t →
      (∀ j o, j < m → ops[j]? = some o → o.dst = some s → (j < k → LsD listed j) ∧ (k ≤ j → ¬ LsD listed j)) → t.sat (a.tmps.getD s undef) w := by
    intro listed a w I k s t hk hg hw
    by_cases hex : ∃ j o, j < k ∧ ops[j]? = some o ∧ o.dst = some s
    · obtain ⟨j, o, hj, ho, hd⟩ := hex
      rw [Gn_some ops G0 Ts k s j o hj ho hd (fun j' h1 h2 o' ho' hd' => by have := chkDst_ok hdst ho (by omega) ho' (by omega) hd hd'; omega)] at hg
      cases hg
      exact I.new j o s (by omega) ho hd ((hw j o (by omega) ho hd).1 hj)
    · rw [Gn_none ops G0 Ts k s (fun j hj o ho hd => hex ⟨j, o, hj, ho, hd⟩)] at hg
      refine I.old s (fun j o hj ho hd => ?_) t hg
      by_cases hjk : j < k
      · exact absurd ⟨j, o, hjk, ho, hd⟩ hex
      · exact (hw j o hj ho hd).2 (by omega)
  have hfin : ∀ (listed : Array Bool) (a : Act) (w : World) (fuel : Nat), Inv n ops w0 m G0 Ts listed a w → (∀ j, j < m → LsD listed j) → unl ops.length listed = fuel → wpAny P .any ops.toArray Q fuel listed a w := by
    intro listed a w fuel I hall hu
    have hp : ∀ i, LsD listed i ↔ i < m := fun i => ⟨I.low i, hall i⟩
    have := unl_prefix hm hp
    refine tail_any hlow htail fuel m listed a w (Nat.le_refl _) (by omega) I.lsz hp (hF a w I.ext I.size I.nod ?_)
    intro s t hg
    refine ⟨?_, hent listed a w I m s t (Nat.le_refl _) hg fun j o hj _ _ => ⟨fun _ => hall j hj, fun h => absurd hj (by omega)⟩⟩
    rw [I.size]
    by_cases hex : ∃ j o, j < m ∧ ops[j]? = some o ∧ o.dst = some s
    · obtain ⟨j, o, hj, ho, hd⟩ := hex
      have := (hM j hj o ho).2
      rw [hd] at this
      exact Nat.le_of_ble_eq_true this
    · rw [Gn_none ops G0 Ts m s (fun j hj o ho hd => hex ⟨j, o, hj, ho, hd⟩)] at hg
      exact hdom s t hg
  -- the least that is not listed is ready
  have hleast : ∀ (listed : Array Bool) (a : Act) (w : World), Inv n ops w0 m G0 Ts listed a w → (¬ ∀ j, j < m → LsD listed j) → ∃ i, i < m ∧ i ∈ Region.ready .any ops.toArray listed := by
    intro listed a w I hn
    have : ∃ i, i < m ∧ ¬ LsD listed i := by
      apply Classical.byContradiction
      intro h
      exact hn fun j hj => Classical.byContradiction fun hj' => h ⟨j, hj, hj'⟩
    obtain ⟨i, h1, h2, h3⟩ := least_not (fun i => by unfold LsD; infer_instance) m this
    obtain ⟨o, ho⟩ := hget i h1
    exact ⟨i, h1, (ready_mem I.lsz).2 ⟨h2, o, ho, fun e he hb => h3 _ (chkLow_ok hlow ho he hb)⟩⟩
  intro fuel
  induction fuel with
  | zero =>
    intro listed a w I hpre hu
    by_cases hall : ∀ j, j < m → LsD listed j
    · exact hfin listed a w 0 I hall hu
    · exfalso
      obtain ⟨i, h1, h2⟩ := hleast listed a w I hall
      have := unl_set (N := ops.length) (by omega) I.lsz ((ready_mem I.lsz).1 h2).1
      omega
  | succ fuel ih =>
    intro listed a w I hpre hu
    by_cases hall : ∀ j, j < m → LsD listed j
    · exact hfin listed a w _ I hall hu
    · obtain ⟨i0, hi0m, hi0⟩ := hleast listed a w I hall
      refine ⟨fun h0 => (by rw [h0] at hi0; cases hi0), fun i hi => ?_⟩
      obtain ⟨hun, o, ho, hed⟩ := (ready_mem I.lsz).1 hi
      have hilt := (List.getElem?_eq_some_iff.1 ho).1
      have hedge : ∀ o', ops[i]? = some o' → ∀ e ∈ o'.after, Region.binds .any e = true → LsD listed e.on := fun o' ho' => by rw [ho] at ho'; cases ho'; exact hed
      have him : i < m := by
        apply Classical.byContradiction
        intro hge
        exact hall fun j hj => (chkTail_ok htail hilt (by omega) (show j < i by omega)).clo I.clo hedge
      obtain ⟨hmono, hokd⟩ := hM i him o ho
      have hop := hC i (by
        by_cases hip : i < p
        · exact absurd (hpre i hip) hun
        · omega) him o ho
      have hsat : ∀ s ∈ o.looksAt ops.toArray, ∀ t, gk (Gn ops G0 Ts i) s = some t → t.sat (a.tmps.getD s undef) w := by
        intro s hs t hg
        refine hent listed a w I i s t (by omega) hg fun j q hj hq hd => ?_
        have hr := chkReads_ok hreads ho him hq hj hs hd
        refine ⟨fun hlt => (hr.1 hlt).clo I.clo hedge, fun hle hlj => ?_⟩
        by_cases hji : j = i
        · subst hji; exact hun hlj
        · exact hun ((hr.2 (by omega)).clo I.clo (fun o' ho' e he hb => I.clo j o' ho' hlj e he hb))
      have hstep := hop a w I.ext I.size I.nod hsat
      have hnext : ∀ v w', (Ts i).sat v w' → Ext w w' → Inv n ops w0 m G0 Ts (listed.setIfInBounds i true) (a.put o.dst v) w' := by
        intro v w' hv hx
        have hset : ∀ j, LsD (listed.setIfInBounds i true) j ↔ (j = i ∨ LsD listed j) := fun j => by
          unfold LsD
          by_cases hij : i = j
          · subst hij; simp [I.lsz, hilt]
          · rw [getD_set_ne false hij]; constructor
            · exact .inr
            · rintro (h | h)
              · exact absurd h.symm hij
              · exact h
        have hput : ∀ s, o.dst ≠ some s → (a.put o.dst v).tmps.getD s undef = a.tmps.getD s undef := fun s hs => by
          cases hd : o.dst with
          | none => rfl
          | some d =>
            have hne : d ≠ s := fun e => hs (by rw [hd, e])
            simp [Act.put, Array.getD_eq_getD_getElem?, Array.getElem?_setIfInBounds_ne hne]
        have hputs : ∀ s, o.dst = some s → (a.put o.dst v).tmps.getD s undef = v := fun s hs => by
          have hlt : s < n := by
            have := hokd; rw [hs] at this; exact Nat.le_of_ble_eq_true this
          simp [Act.put, hs, Array.getD_eq_getD_getElem?, Array.getElem?_setIfInBounds_self_of_lt (show s < a.tmps.size by rw [I.size]; exact hlt)]
        refine ⟨by simpa using I.lsz, I.ext.trans hx, ?_, ?_, ?_, ?_, ?_, ?_⟩
        · cases o.dst <;> simp [Act.put, I.size]
        · cases o.dst <;> simp [Act.put, I.nod]
        · intro k q hq hk e he hb
          rw [hset] at hk ⊢
          rcases hk with rfl | hk
          · exact .inr (hedge q hq e he hb)
          · exact .inr (I.clo k q hq hk e he hb)
        · intro k hk
          rcases (hset k).1 hk with rfl | hk
          · exact him
          · exact I.low k hk
        · intro j q s hj hq hd hlj
          by_cases hji : j = i
          · subst hji
            rw [ho] at hq; cases hq
            rw [hputs s hd]; exact hv
          · have hne : o.dst ≠ some s := fun h => hji (chkDst_ok hdst hq hj ho him hd h)
            rw [hput s hne]
            rcases (hset j).1 hlj with h | h
            · exact absurd h hji
            · exact (hM j hj q hq).1 _ _ _ I.ext hx (I.new j q s hj hq hd h)
        · intro s hs t hg
          have hne : o.dst ≠ some s := fun h => hs i o him ho h ((hset i).2 (.inl rfl))
          rw [hput s hne]
          exact hG s t hg _ _ _ I.ext hx (I.old s (fun j q hj hq hd hlj => hs j q hj hq hd ((hset j).2 (.inr hlj))) t hg)
      have hpre' : ∀ j, j < p → LsD (listed.setIfInBounds i true) j := fun j hj => by
        unfold LsD
        by_cases hij : i = j
        · subst hij; simp [I.lsz, hilt]
        · rw [getD_set_ne false hij]; exact hpre j hj
      have hu' : unl ops.length (listed.setIfInBounds i true) = fuel := by
        have := unl_set (N := ops.length) hilt I.lsz hun
        omega
      have hoa : ops.toArray[i]? = some o := by simpa using ho
      unfold wpOp
      simp only [hoa]
      split
      · rename_i hw
        rw [if_pos hw] at hstep
        exact .inl (hstep _ _ fun v w' hv hx => ih _ _ _ (hnext v w' hv hx) hpre' hu')
      · rename_i hw
        rw [if_neg hw] at hstep
        exact ih _ _ _ (hnext undef w hstep (Ext.refl w)) hpre' hu'

/-- the first p operations: each later one comes behind them -/
def chkPre (ops : List Oper) (p : Nat) : Bool :=
  let b := bf ops
  (List.range ops.length).all fun k => (List.range p).all fun j => Nat.ble k j || (b.getD k 0).testBit j
theorem chkPre_ok {ops : List Oper} {p : Nat} (h : chkPre ops p = true) {k j : Nat} (hk : k < ops.length) (hj : j < p) (hjk : j < k) : Rch ops k j := by
  have h1 := List.all_eq_true.1 h k (by simpa using hk)
  have h2 := List.all_eq_true.1 h1 j (by simpa using hj)
  have h0 : Nat.ble k j = false := by
    cases hb : Nat.ble k j with
    | false => rfl
    | true => have := Nat.le_of_ble_eq_true hb; omega
  simp only [h0, Bool.false_or] at h2
  exact bf_ok h2
def nrm (X : Act → World → Prop) (Q : Post) : Post := fun e a w => match e with
  | .normal => X a w
  | e => Q e a w
theorem wp_nrm {X : Act → World → Prop} {o : Oper} {a : Act} {w : World} {K : Act → World → Prop} (h : o.wp P a w K (nrm X Q)) : o.wp P a w K Q := h
theorem lets_nrm {X : Act → World → Prop} (h : LetsOut (nrm X Q)) : LetsOut Q := h
theorem head_any {X : Act → World → Prop} {p : Nat} (hlow : chkLow ops = true) (hpre : chkPre ops p = true) (hpN : p ≤ ops.length)
    (hX : ∀ a w listed, X a w → listed.size = ops.length → (∀ i, LsD listed i ↔ i < p) → wpAny P .any ops.toArray Q (ops.length - p) listed a w) :
    ∀ (d k : Nat) (listed : Array Bool) (a : Act) (w : World), k + d = p → listed.size = ops.length → (∀ i, LsD listed i ↔ i < k) →
      wpList P ops.toArray (nrm X Q) ((ops.drop k).take d) a w → wpAny P .any ops.toArray Q (ops.length - k) listed a w
  | 0, k, listed, a, w, hk, hl, hp, h => by
    obtain rfl : k = p := by omega
    exact hX a w listed h hl hp
  | d + 1, k, listed, a, w, hk, hl, hp, h => by
    have hlt : k < ops.length := by omega
    have hok : ops[k]? = some ops[k] := List.getElem?_eq_getElem hlt
    rw [List.drop_eq_getElem_cons hlt, List.take_succ_cons] at h
    rw [show ops.length - k = (ops.length - (k + 1)) + 1 by omega]
    have hrk : k ∈ Region.ready .any ops.toArray listed := (ready_mem hl).2 ⟨fun h => by have := (hp k).1 h; omega, _, hok, fun e he hb => (hp _).2 (chkLow_ok hlow hok he hb)⟩
    have hclo : Clo ops (LsD listed) := fun i o ho hi e he hb => (hp _).2 (Nat.lt_trans (chkLow_ok hlow ho he hb) ((hp i).1 hi))
    refine ⟨fun h0 => (by rw [h0] at hrk; cases hrk), fun i hi => ?_⟩
    obtain ⟨h1, o, ho, h2⟩ := (ready_mem hl).1 hi
    have hilt := (List.getElem?_eq_some_iff.1 ho).1
    have hik : i = k := by
      by_cases hgt : k < i
      · have := (chkPre_ok hpre hilt (show k < p by omega) hgt).clo hclo (fun o' ho' e he hb => by rw [ho] at ho'; cases ho'; exact h2 e he hb)
        have := (hp k).1 this; omega
      · have : ¬ i < k := fun h => h1 ((hp i).2 h)
        omega
    subst hik
    unfold wpOp
    have hoa : ops.toArray[i]? = some ops[i] := by simpa using hok
    simp only [hoa]
    have key : ∀ a' w', wpList P ops.toArray (nrm X Q) ((ops.drop (i + 1)).take d) a' w' → wpAny P .any ops.toArray Q (ops.length - (i + 1)) (listed.setIfInBounds i true) a' w' := fun a' w' h' =>
      head_any hlow hpre hpN hX d (i + 1) _ a' w' (by omega) (by simpa using hl) (fun j => by
        unfold LsD at hp ⊢
        by_cases hji : i = j
        · subst hji; simp [hl, hilt]
        · rw [getD_set_ne false hji, hp j]; omega) h'
    unfold wpList at h
    split
    · rename_i hw
      rw [if_pos hw] at h
      rcases h with h | h
      · exact .inl (Oper.wp_mono key (wp_nrm h))
      · exact .inr ⟨h.1, lets_nrm h.2⟩
    · rename_i hw
      rw [if_neg hw] at h
      exact key _ _ h
theorem RW_congr : ∀ (l : List Oper) (m : Nat) (G G' : List (Nat × Ent)), (∀ s, gk G s = gk G' s) → RW P n ops w0 Q l m G → RW P n ops w0 Q l m G'
  | l, 0, G, G', h, hr => by
    have hr2 : ∀ a w, Ext w0 w → a.tmps.size = n → a.defers = [] → Sats G a w → wpList P ops.toArray Q l a w := by cases l <;> exact hr
    have : ∀ a w, Ext w0 w → a.tmps.size = n → a.defers = [] → Sats G' a w → wpList P ops.toArray Q l a w := fun a w h1 h2 h3 h4 => hr2 a w h1 h2 h3 fun s t hs => h4 s t (by rw [← h s]; exact hs)
    cases l <;> exact this
  | [], m + 1, _, _, _, hr => hr.elim
  | o :: r, m + 1, G, G', h, ⟨T, h1, h2, h3, h4⟩ => by
    refine ⟨T, h1, h2, fun a w e1 e2 e3 e4 => h3 a w e1 e2 e3 fun s hs t ht => e4 s hs t (by rw [← h s]; exact ht), RW_congr r m _ _ (fun s => ?_) h4⟩
    cases o.dst with
    | none => exact h s
    | some d =>
      simp only [gput, gk_cons]
      split
      · rfl
      · exact h s
theorem Gn_add : ∀ (l : List Oper) (G : List (Nat × Ent)) (Ts : Nat → Ent) (p k : Nat), p ≤ l.length → Gn l G Ts (p + k) = Gn (l.drop p) (Gn l G Ts p) (fun j => Ts (p + j)) k
  | l, G, Ts, 0, k, _ => by
    have : Gn l G Ts 0 = G := by cases l <;> rfl
    rw [this, Nat.zero_add, List.drop_zero]
    congr 1
    funext j; rw [Nat.zero_add]
  | [], G, Ts, p + 1, k, h => by simp at h
  | o :: r, G, Ts, p + 1, k, h => by
    rw [show p + 1 + k = (p + k) + 1 by omega]
    simp only [Gn, List.drop_succ_cons]
    rw [Gn_add r _ _ p k (by simpa using h)]
    congr 1
    funext j; congr 1; omega
theorem vG_some : ∀ {L : List (Nat × Value)} {s : Nat} {v : Value}, lk L s = some v → gk (vG L) s = some (.v v)
  | [], _, _, h => by simp [lk] at h
  | (k, u) :: r, s, v, h => by
    simp only [vG, gk, lk] at h ⊢
    cases hb : Nat.beq k s with
    | true => rw [hb] at h; simp at h; subst h; rfl
    | false => rw [hb] at h; exact vG_some (by simpa using h)
/-- what the first operations yield is known -/
def pres (ops : List Oper) (p : Nat) (L : List (Nat × Value)) : Bool := (ops.take p).all fun o => match o.dst with
  | some d => (lk L d).isSome
  | none => true
def PreX (P : Program) (ops : List Oper) (Q : Post) (p : Nat) : Act → World → Prop := fun a w =>
  ∀ listed : Array Bool, listed.size = ops.length → (∀ i, LsD listed i ↔ i < p) → wpAny P .any ops.toArray Q (ops.length - p) listed a w
theorem K_pre {L : List (Nat × Value)} {w : World} (p m : Nat) (hc : chk ops m = true) (hpm : Nat.ble p m = true) (hdm : domb n L = true) (hps : pres ops p L = true) (hok : ((ops.take p).all fun o => okd n o.dst) = true)
    (h : RQ P n ops w Q ((ops.take m).drop p) (ops.drop m) (vG L)) : K n (nrm (PreX P ops Q p) Q) .normal L w := fun a ha => by
  intro listed hsz hp
  have hpm := Nat.le_of_ble_eq_true hpm
  have hc' := hc
  simp only [chk, Bool.and_eq_true] at hc'
  obtain ⟨⟨⟨⟨hml, hlow⟩, hreads⟩, hdst⟩, htail⟩ := hc'
  have hml := Nat.le_of_ble_eq_true hml
  have hlist : (ops.take m).drop p ++ ops.drop m = ops.drop p := by
    conv => rhs; rw [← List.take_append_drop m ops, List.drop_append_of_le_length (by rw [List.length_take]; omega)]
  have hlen : ((ops.take m).drop p).length = m - p := by rw [List.length_drop, List.length_take]; omega
  unfold RQ at h
  rw [hlist, hlen] at h
  -- the entries of the first operations
  obtain ⟨T0, hT0⟩ : ∃ T0 : Nat → Ent, T0 = fun k => match (ops[k]?).bind (·.dst) with | some d => .v ((lk L d).getD undef) | none => .v undef := ⟨_, rfl⟩
  have hT0v : ∀ k o d, k < p → ops[k]? = some o → o.dst = some d → ∃ x, lk L d = some x ∧ T0 k = .v x := fun k o d hk ho hd => by
    have h1 := List.all_eq_true.1 hps o (List.mem_of_getElem? (take_get ho hk))
    rw [hd] at h1
    obtain ⟨x, hx⟩ := Option.isSome_iff_exists.1 h1
    exact ⟨x, hx, by rw [hT0]; simp [ho, hd, hx]⟩
  have hG : ∀ s, gk (vG L) s = gk (Gn ops (vG L) T0 p) s := fun s => by
    by_cases hex : ∃ j o, j < p ∧ ops[j]? = some o ∧ o.dst = some s
    · obtain ⟨j, o, hj, ho, hd⟩ := hex
      obtain ⟨x, hx, ht⟩ := hT0v j o s hj ho hd
      rw [Gn_some ops (vG L) T0 p s j o hj ho hd (fun j' h1 h2 o' ho' hd' => by have := chkDst_ok hdst ho (by omega) ho' (by omega) hd hd'; omega), ht, vG_some hx]
    · rw [Gn_none ops (vG L) T0 p s (fun j hj o ho hd => hex ⟨j, o, hj, ho, hd⟩)]
  obtain ⟨T1, k1, k2⟩ := RW_ex _ _ _ (RW_congr _ _ _ _ hG h)
  obtain ⟨Ts, hTs⟩ : ∃ Ts : Nat → Ent, Ts = fun k => if k < p then T0 k else T1 (k - p) := ⟨_, rfl⟩
  have hGp : Gn ops (vG L) Ts p = Gn ops (vG L) T0 p := by
    have : ∀ (l : List Oper) (G : List (Nat × Ent)) (A B : Nat → Ent) (k : Nat), (∀ j, j < k → A j = B j) → Gn l G A k = Gn l G B k := by
      intro l
      induction l with
      | nil => intro G A B k _; cases k <;> rfl
      | cons o r ih =>
        intro G A B k hAB
        cases k with
        | zero => rfl
        | succ k =>
          simp only [Gn]
          rw [hAB 0 (by omega)]
          exact ih _ _ _ k fun j hj => hAB (j + 1) (by omega)
    exact this _ _ _ _ _ fun j hj => by rw [hTs]; simp [hj]
  have hGk : ∀ k, p ≤ k → Gn ops (vG L) Ts k = Gn (ops.drop p) (Gn ops (vG L) T0 p) T1 (k - p) := fun k hk => by
    have := Gn_add ops (vG L) Ts p (k - p) (by omega)
    rw [show p + (k - p) = k by omega, hGp] at this
    rw [this]
    congr 1
    funext j
    rw [hTs]
    dsimp only
    rw [if_neg (by omega), Nat.add_sub_cancel_left]
  have hdrop : ∀ k o, p ≤ k → ops[k]? = some o → (ops.drop p)[k - p]? = some o := fun k o hk ho => by
    rw [List.getElem?_drop, show p + (k - p) = k by omega]; exact ho
  have hTk : ∀ k, p ≤ k → Ts k = T1 (k - p) := fun k hk => by rw [hTs]; simp [show ¬ k < p by omega]
  have hTp : ∀ k, k < p → Ts k = T0 k := fun k hk => by rw [hTs]; simp [hk]
  have hT0m : ∀ k, (T0 k).mono w := fun k => by
    rw [hT0]; dsimp only
    split <;> exact fun _ _ _ _ _ h => h
  refine any_from (w0 := w) (m := m) (G0 := vG L) (Ts := Ts) p hc (fun k hk o ho => ?_) (fun k hpk hk o ho => ?_) (fun a' w' x1 x2 x3 x4 => ?_)
    (fun s t hs => by obtain ⟨v, rfl, _⟩ := vG_get L s t hs; exact fun _ _ _ _ _ h => h) (fun s t hs => by obtain ⟨v, rfl, hl⟩ := vG_get L s t hs; exact domb_ok hdm hl)
    (ops.length - p) listed a w ⟨hsz, Ext.refl w, ha.size, ha.nod, fun i o ho hi e he hb => (hp _).2 (Nat.lt_trans (chkLow_ok hlow ho he hb) ((hp i).1 hi)), fun i hi => by have := (hp i).1 hi; omega, ?_, ?_⟩ (fun j hj => (hp j).2 hj) ?_
  · by_cases hkp : k < p
    · rw [hTp k hkp]
      exact ⟨hT0m k, List.all_eq_true.1 hok o (List.mem_of_getElem? (take_get ho hkp))⟩
    · rw [hTk k (by omega)]
      obtain ⟨e1, e2, _⟩ := k1 (k - p) (by omega) o (hdrop k o (by omega) ho)
      exact ⟨e1, e2⟩
  · rw [hTk k hpk, hGk k hpk]
    exact (k1 (k - p) (by omega) o (hdrop k o hpk ho)).2.2
  · rw [hGk m hpm] at x4
    have := k2 a' w' x1 x2 x3 x4
    rwa [List.drop_drop, show p + (m - p) = m by omega] at this
  · intro j o s hj ho hd hlj
    have hjp := (hp j).1 hlj
    obtain ⟨x, hx, ht⟩ := hT0v j o s hjp ho hd
    rw [hTp j hjp, ht]
    simp [Ent.sat, Array.getD_eq_getD_getElem?, ha.get s x hx]
  · intro s _ t hs
    obtain ⟨v, rfl, hl⟩ := vG_get L s t hs
    simp [Ent.sat, Array.getD_eq_getD_getElem?, ha.get s v hl]
  · have := unl_prefix (N := ops.length) (show p ≤ ops.length by omega) hp
    omega
theorem E_pre {id : Nat} {L : List (Nat × Value)} {w : World} (p : Nat) (hm : P.follows .mixedOrders = true) (hc : chkLow ops = true) (hpre : chkPre ops p = true) (hpl : Nat.ble p ops.length = true)
    (h : ∀ w1, Ext w w1 → EL P n ops (nrm (PreX P ops Q p) Q) (ops.take p) L w1) : E P n (.region id ops.toArray true) Q L w := fun a ha => by
  refine wp_region_any hm ?_
  have hpl := Nat.le_of_ble_eq_true hpl
  rw [show ops.toArray.size = ops.length by simp]
  have := head_any (P := P) (Q := Q) (X := PreX P ops Q p) hc hpre hpl (fun a w listed hx h1 h2 => hx listed h1 h2) p 0 (Array.replicate ops.length false) a _ (by omega) (by simp) (fun i => by
    unfold LsD; simp [Array.getElem?_replicate]; split <;> rfl) (by simpa using h _ (ext_drew w) a ha)
  simpa using this
end
end Go.En
namespace Go.En
open Go.RowKit
theorem bd_each {H : Type} {P : Program} {ts : List TypeId} {ds : List (DataW H)} (h : (DataW.weightsEach P ts ds).all (· ≤ reachBytes) = true) {j : Nat} {t : TypeId} {d : DataW H} (ht : ts[j]? = some t) (hd : ds[j]? = some d) : Bd P t d :=
  List.all_eq_true.2 fun n hn => List.all_eq_true.1 h n (DataW.weights_mem_each ht hd n hn)
theorem open_struct {H : Type} {enc : TypeId × Value → H} {P : Program} {w : World} {sp : Nat → Bool} {held : Bool} {fuel : Nat} {t : TypeId} {fs : Array Field} {tos : List (TypeId × Nat)} {cs : List Value} {x : DataW H × List MemPlace}
    (hu : P.underlying t = some (.struct fs)) (hfs : (fs.toList.map fun f => (f.type, f.offset)) = tos) (h : DataW.trod enc P w 0 sp held fuel t cs = some x) (hbd : Bd P t x.1) :
    cs.length = P.cellsOf t ∧ ∀ (i : Nat) (ty off : Nat), tos[i]? = some (ty, off) → ∃ y n, DataW.trod enc P w 0 sp held n ty ((cs.drop off).take (P.cellsOf ty)) = some y ∧ Bd P ty y.1 := by
  obtain ⟨xs, n, _, rfl, hl, hlen, hf⟩ := DataW.trod_struct hu h
  refine ⟨hl, fun i ty off hi => ?_⟩
  subst hfs
  rw [List.getElem?_map, Array.getElem?_toList] at hi
  cases hfi : fs[i]? with
  | none => rw [hfi] at hi; cases hi
  | some f =>
    rw [hfi] at hi
    simp only [Option.map_some, Option.some.injEq, Prod.mk.injEq] at hi
    obtain ⟨rfl, rfl⟩ := hi
    have hlt := (Array.getElem?_eq_some_iff.1 hfi).1
    obtain ⟨y, hy⟩ : ∃ y, xs[i]? = some y := ⟨_, List.getElem?_eq_getElem (by omega)⟩
    refine ⟨y, n, by rw [hf i f hfi, hy], ?_⟩
    simp only [Bd, DataW.weights, hu] at hbd
    exact bd_each hbd (j := i) (by rw [List.getElem?_map, Array.getElem?_toList, hfi]; rfl) (by rw [List.getElem?_map, hy]; rfl)
theorem str_of (s : ByteArray) : Value.string s = str s.data.toList := by cases s; simp [str]
end Go.En
namespace Go.En
open Go.RowKit Go.MapKept
/-- a map with number keys lies in block r: f k is what it holds at k -/
def MapF (w : World) (r : Nat) (f : Int → Option Value) : Prop :=
  ∃ es clock, w.heap[r]? = some (.map es clock) ∧ Stamped es clock ∧ (∀ x ∈ es.toList, IsKey (.int .i64) x.key) ∧ ∀ k v, f k = some v ↔ ∃ e ∈ es.toList, e.key = int k ∧ e.val = v
theorem MapF.lt {w : World} {r : Nat} {f : Int → Option Value} (h : MapF w r f) : r < w.heap.size := by
  obtain ⟨_, _, h, _⟩ := h; exact (Array.getElem?_eq_some_iff.1 h).1
theorem MapF.same {w w' : World} {r : Nat} {f : Int → Option Value} (h : MapF w r f) (e : w'.heap[r]? = w.heap[r]?) : MapF w' r f := by
  obtain ⟨es, c, h1, h2⟩ := h; exact ⟨es, c, e.trans h1, h2⟩
theorem MapF.ext {w w' : World} {r : Nat} {f : Int → Option Value} (h : MapF w r f) (x : Ext w w') : MapF w' r f := h.same (x.block h.lt)
theorem MapF.kb {g : Option Nat} {w w' : World} {r : Nat} {f : Int → Option Value} (h : MapF w r f) (k : Kb g w w') (hne : some r ≠ g) : MapF w' r f := h.same (World.grownBy.block k r h.lt hne)
theorem find_mapF {es : Array MapEntry} {clock : Nat} {f : Int → Option Value} (hs : Stamped es clock) (hk : ∀ x ∈ es.toList, IsKey (.int .i64) x.key) (hf : ∀ k v, f k = some v ↔ ∃ e ∈ es.toList, e.key = int k ∧ e.val = v) (k : Int) :
    (f k = none ∧ Instr.findNow (.int .i64) (int k) es.toList 0 = some none ∧ ∀ x ∈ es.toList, x.key ≠ int k) ∨ ∃ j e, f k = some e.val ∧ Instr.findNow (.int .i64) (int k) es.toList 0 = some (some (j, e.val)) ∧ es.toList[j]? = some e ∧ e.key = int k := by
  have hik : IsKey (.int .i64) (int k) := rfl
  rcases findNow_spec hik es.toList 0 hk with ⟨h1, h2⟩ | ⟨j, e, h1, h2, h3⟩
  · refine .inl ⟨?_, h1, h2⟩
    cases hfk : f k with
    | none => rfl
    | some v =>
      obtain ⟨e, he, hek, _⟩ := (hf k v).1 hfk
      exact absurd hek (h2 e he)
  · rw [Nat.zero_add] at h1
    exact .inr ⟨j, e, (hf k e.val).2 ⟨e, List.mem_of_getElem? h2, h3, rfl⟩, h1, h2, h3⟩
section
variable {P : Program} {n : Nat} {Q : Post} {L : List (Nat × Value)} {w : World} {ops : List Oper} {o : Oper} {rest : List Oper}
theorem EL_makeMap {d : Nat} {t : TypeId} (hg : gst ops L o = some true) (hd : odst n o.dst = some d) (ho : o.op = .makeMap t none)
    (k : ∀ r w', r = w.heap.size → MapF w' r (fun _ => none) → Ext w w' → EL P n ops Q rest ((d, .map (some r)) :: L) w') : EL P n ops Q (o :: rest) L w := by
  refine EL_valw (w' := w.alloc (.map #[] 0)) hg hd (fun ρ _ => ?_) (k _ _ rfl ⟨#[], 0, (heap_alloc w _).1, stamped_empty 0, by simp, by simp⟩ (ext_alloc _ _))
  simp [execOp, ho, Instr.makeMap, go_sem]
theorem val_lookup {t kt et : TypeId} {x i : Operand} {r : Nat} {z : Value} {size bytes : Nat} {f : Int → Option Value} {k : Int} [um : UT P t (.map kt et)] [uk : UT P kt (.int .i64)] [ti : TI P et z size bytes] (hm : MapF w r f) (ho : o.op = .lookup t x i false) (hx : ev L x = some (.map (some r))) (hi : ev L i = some (int k)) :
    Val P L w o ((f k).getD z) := fun ρ ha => by
  have h1 := ha.ev (by rw [ho]; simp [Op.operands]) hx
  have h2 := ha.ev (by rw [ho]; simp [Op.operands]) hi
  obtain ⟨es, clock, hb, hs, hks, hf⟩ := hm
  have hik : IsKey (.int .i64) (int k) := rfl
  obtain ⟨i0, hi0, hz0, _, _⟩ := run_ti (P := P) (t := et) w
  have h5 : (zeroValue et).run P w = .ok z w := by simp [zeroValue, hi0, hz0]
  have h6 := run_checkKey (P := P) (w := w) uk.u hik (es.isEmpty) 9999
  rcases find_mapF hs hks hf k with ⟨e1, e2, _⟩ | ⟨j, e, e1, e2, e3, e4⟩
  · have h7 := run_findKey (P := P) (w := w) uk.u e2
    rw [e1]
    simp only [execOp, ho, Instr.lookup, h1, h2]
    simp [run_underlying um.u, Go.MapKept.run_getObj_map hb, h6, h7, h5, Result.andThen]
  · have h7 := run_findKey (P := P) (w := w) uk.u e2
    rw [e1]
    simp only [execOp, ho, Instr.lookup, h1, h2]
    simp [run_underlying um.u, Go.MapKept.run_getObj_map hb, h6, h7, Result.andThen]
theorem EL_mapUpdate {t kt et : TypeId} {x i y : Operand} {r : Nat} {v : Value} {f : Int → Option Value} {k : Int} [um : UT P t (.map kt et)] [uk : UT P kt (.int .i64)] (hm : MapF w r f) (hg : gst ops L o = some true) (hd : o.dst = none) (ho : o.op = .mapUpdate t x i y)
    (hx : ev L x = some (.map (some r))) (hi : ev L i = some (int k)) (hy : ev L y = some v)
    (kk : ∀ w', MapF w' r (fun j => if j = k then some v else f j) → Kb (some r) w w' → EL P n ops Q rest L w') : EL P n ops Q (o :: rest) L w := by
  obtain ⟨es, clock, hb, hs, hks, hf⟩ := hm
  have hik : IsKey (.int .i64) (int k) := rfl
  have h6 := run_checkKey (P := P) (w := w) uk.u hik false 9999
  have hkb : ∀ o' : Obj, Kb (some r) w { w with heap := w.heap.setIfInBounds r o' } := fun o' => ⟨rfl, rfl, rfl, by simp, fun b hlt hne => (heap_set hb).2 b (fun e => hne (by rw [e]))⟩
  rcases find_mapF hs hks hf k with ⟨e1, e2, e3⟩ | ⟨j, e, e1, e2, e3, e4⟩
  · have h7 := run_findKey (P := P) (w := w) uk.u e2
    refine EL_unit (w' := { w with heap := w.heap.setIfInBounds r (.map (es.push { key := int k, val := v, born := clock }) (clock + 1)) }) hg hd (fun ρ ha => ?_) (kk _ ⟨_, _, (heap_set hb).1, stamped_push hs e3, fun x hx => ?_, fun k' v' => ?_⟩ (hkb _))
    · have h1 := ha.ev (by rw [ho]; simp [Op.operands]) hx
      have h2 := ha.ev (by rw [ho]; simp [Op.operands]) hi
      have h3 := ha.ev (by rw [ho]; simp [Op.operands]) hy
      simp only [execOp, ho, h1, h2, h3]
      simp [Instr.mapUpdate, run_underlying um.u, Go.MapKept.run_getObj_map hb, h6, h7, Go.MapKept.run_setObj_map _ hb, Result.andThen]
    · simp only [Array.toList_push, List.mem_append, List.mem_singleton] at hx
      rcases hx with hx | rfl
      · exact hks x hx
      · exact hik
    · simp only [Array.toList_push, List.mem_append, List.mem_singleton]
      by_cases hk : k' = k
      · subst hk
        rw [if_pos rfl]
        constructor
        · intro h; cases h; exact ⟨_, .inr rfl, rfl, rfl⟩
        · rintro ⟨x, hx | rfl, h1, h2⟩
          · exact absurd h1 (e3 x hx)
          · rw [← h2]
      · rw [if_neg hk, hf]
        constructor
        · rintro ⟨x, hx, h1, h2⟩; exact ⟨x, .inl hx, h1, h2⟩
        · rintro ⟨x, hx | rfl, h1, h2⟩
          · exact ⟨x, hx, h1, h2⟩
          · simp at h1; exact absurd h1.symm hk
  · have h7 := run_findKey (P := P) (w := w) uk.u e2
    have hj : es[j]? = some e := by simpa using e3
    have hst := run_keyThatStays (P := P) (w := w) hik
    have hkey : ∀ e', es[j]? = some e' → ({ e' with key := int k, val := v } : MapEntry).key = e'.key := fun e' he' => by rw [hj] at he'; cases he'; exact e4.symm
    refine EL_unit (w' := { w with heap := w.heap.setIfInBounds r (.map (es.modify j fun e => { e with key := int k, val := v }) clock) }) hg hd (fun ρ ha => ?_)
      (kk _ ⟨_, _, (heap_set hb).1, stamped_modify hs _ _ (fun _ _ => rfl) (fun e' _ he' => hkey e' he'), isKey_modify hks _ _ hkey, fun k' v' => ?_⟩ (hkb _))
    · have h1 := ha.ev (by rw [ho]; simp [Op.operands]) hx
      have h2 := ha.ev (by rw [ho]; simp [Op.operands]) hi
      have h3 := ha.ev (by rw [ho]; simp [Op.operands]) hy
      simp only [execOp, ho, h1, h2, h3]
      simp [Instr.mapUpdate, run_underlying um.u, Go.MapKept.run_getObj_map hb, h6, h7, hj, e4, hst, Go.MapKept.run_setObj_map _ hb, Result.andThen]
    · have hmem : ∀ x : MapEntry, x ∈ (es.modify j fun e => { e with key := int k, val := v }).toList ↔ (x ∈ es.toList ∧ x.key ≠ int k) ∨ x = { e with key := int k, val := v } := by
        intro x
        constructor
        · intro hx
          obtain ⟨i, hi⟩ := List.getElem?_of_mem hx
          rw [Array.getElem?_toList, Array.getElem?_modify] at hi
          by_cases hji : j = i
          · subst hji
            rw [if_pos rfl, hj] at hi
            exact .inr (by simpa using hi.symm)
          · rw [if_neg hji] at hi
            have hxm : x ∈ es.toList := List.mem_of_getElem? (by rw [Array.getElem?_toList]; exact hi)
            refine .inl ⟨hxm, fun hxk => hji ?_⟩
            have h1 := (List.getElem?_eq_some_iff.1 e3).1
            have hi2 : es.toList[i]? = some x := by rw [Array.getElem?_toList]; exact hi
            have h2 := (List.getElem?_eq_some_iff.1 hi2).1
            have hn := hs.2.2
            have ha : (es.toList.map (·.key))[j]? = some (int k) := by rw [List.getElem?_map, e3]; simp [e4]
            have hb' : (es.toList.map (·.key))[i]? = some (int k) := by rw [List.getElem?_map, hi2]; simp [hxk]
            exact (List.getElem?_inj (by simpa using h1) hn).1 (ha.trans hb'.symm)
        · rintro (⟨hx, hxk⟩ | rfl)
          · obtain ⟨i, hi⟩ := List.getElem?_of_mem hx
            refine List.mem_of_getElem? (i := i) ?_
            rw [Array.getElem?_toList, Array.getElem?_modify]
            by_cases hji : j = i
            · subst hji
              rw [e3] at hi; cases hi
              exact absurd e4 hxk
            · rw [if_neg hji, ← Array.getElem?_toList]; exact hi
          · refine List.mem_of_getElem? (i := j) ?_
            rw [Array.getElem?_toList, Array.getElem?_modify, if_pos rfl, hj]; rfl
      dsimp only
      by_cases hk : k' = k
      · subst hk
        rw [if_pos rfl]
        constructor
        · intro h; cases h; exact ⟨_, (hmem _).2 (.inr rfl), rfl, rfl⟩
        · rintro ⟨x, hx, h1, h2⟩
          rcases (hmem x).1 hx with ⟨_, hxk⟩ | rfl
          · exact absurd h1 hxk
          · rw [← h2]
      · rw [if_neg hk, hf]
        constructor
        · rintro ⟨x, hx, h1, h2⟩
          exact ⟨x, (hmem x).2 (.inl ⟨hx, fun h => hk (by rw [h1] at h; simpa using h)⟩), h1, h2⟩
        · rintro ⟨x, hx, h1, h2⟩
          rcases (hmem x).1 hx with ⟨hx, _⟩ | rfl
          · exact ⟨x, hx, h1, h2⟩
          · simp at h1; exact absurd h1.symm hk
end
end Go.En
namespace Go.En
open Go.RowKit
section
variable {P : Program} {n : Nat} {Q : Post} {ops : List Oper}
theorem run_lit {L : List (Nat × Value)} {w : World} {o : Oper} {t e : TypeId} {z : Value} {size bytes len : Nat} {ps : List (Nat × Operand)} {vs cs : List Value} [UT P t (.slice e)] [TI P e z size bytes] (ho : o.op = .buildSlice t len ps.toArray)
    (hps : evs L 0 ps = some vs) (hv : vs.all (fun v => Nat.beq v.cells.size size) = true) (hl : Nat.beq vs.length len = true) (hsm : Nat.ble (len * size) 16777216 = true) (hcs : (vs.map fun v => v.cells.toList).flatten = cs) {ρ : Operand → Value} (ha : Agree L o ρ) :
    (execOp ρ o).run P w = .ok (.value (.slice (some ⟨w.heap.size, 0, none⟩) len len)) (w.alloc (.cells cs.toArray e)) := by
  have hps' := evs_eq L ps 0 vs hps
  have hp : (ps.map fun p => (p.1, ρ p.2)) = (vs.zipIdx).map fun p => (p.2, p.1) := by
    have hx : ∀ p ∈ ps, ∀ v, ev L p.2 = some v → ρ p.2 = v := fun p hm v hv => ha.ev (by rw [ho]; simp [Op.operands]; exact ⟨p.1, hm⟩) hv
    clear ho hps
    generalize 0 = j at hps' ⊢
    clear hl hv hcs ha
    induction ps generalizing vs j with
    | nil => cases vs with | nil => rfl | cons _ _ => simp at hps'
    | cons p r ih =>
      cases vs with
      | nil => simp at hps'
      | cons v vr =>
        simp only [List.map_cons, List.zipIdx_cons, List.cons.injEq, Prod.mk.injEq] at hps' ⊢
        exact ⟨⟨hps'.1.1, hx p (by simp) v hps'.1.2⟩, ih (fun q hm u hu => hx q (by simp [hm]) u hu) (j + 1) hps'.2⟩
  have := run_buildSlice (P := P) (t := t) (w := w) (vs := vs) (len := len) (size := size) (fun v hm => Nat.eq_of_beq_eq_true (List.all_eq_true.1 hv v hm)) (Nat.eq_of_beq_eq_true hl) (Nat.le_of_ble_eq_true hsm)
  rw [hcs] at this
  simp only [execOp, ho, List.map_toArray, hp]
  rw [Sem.run_bind, this]
  rfl
theorem RQ_lit {w0 : World} {o : Oper} {rest tl : List Oper} {G : List (Nat × Ent)} {d : Nat} {t e : TypeId} {z : Value} {size bytes len : Nat} {ps : List (Nat × Operand)} {vs cs : List Value} [UT P t (.slice e)] [TI P e z size bytes] (hg : ggst ops G o = some true) (hd : odst n o.dst = some d) (ho : o.op = .buildSlice t len ps.toArray)
    (hps : ∀ δ, evs (mat δ G) 0 ps = some vs) (hv : vs.all (fun v => Nat.beq v.cells.size size) = true) (hl : Nat.beq vs.length len = true) (hsm : Nat.ble (len * size) 16777216 = true) (hcs : (vs.map fun v => v.cells.toList).flatten = cs)
    (k : RQ P n ops w0 Q rest tl ((d, .r (fun u w => ∃ b, u = .slice (some ⟨b, 0, none⟩) len len ∧ w0.heap.size ≤ b ∧ Row w b e cs)) :: G)) : RQ P n ops w0 Q (o :: rest) tl G :=
  RW_op (T := .r (fun u w => ∃ b, u = .slice (some ⟨b, 0, none⟩) len len ∧ w0.heap.size ≤ b ∧ Row w b e cs)) hg (odst_eq hd).2 (fun _ _ _ _ xe h => by obtain ⟨b, e, h1, h2⟩ := h; exact ⟨b, e, h1, h2.ext xe⟩)
    (fun w δ hw _ ρ ha => .inl ⟨_, _, run_lit ho (hps δ) hv hl hsm hcs ha, ⟨w.heap.size, rfl, hw.size, by have := row_alloc w e cs.toArray; exact this⟩, ext_alloc _ _⟩) (by rw [(odst_eq hd).1]; exact k)
end
end Go.En
namespace Go.En
open Go.RowKit
section
variable {P : Program} {n : Nat} {Q : Post} {ops : List Oper}
abbrev Rg := Nat × Nat × Bool
def pushF (x : Option (Nat × Value)) (L : List (Nat × Value)) : List (Nat × Value) := match x with | some y => y :: L | none => L
def frame : List (Nat × Value) → List (Option (Nat × Value)) → Nat → List (Nat × Value)
  | L, x :: xs, i + 1 => frame (pushF x L) xs i
  | L, _, _ => L
def VClause (P : Program) (ws : Nat → World) (L : List (Nat × Value)) (o : Oper) (x : Option (Nat × Value)) (g : Rg) : Prop :=
  match g, x with
  | (lo, hi, true), some y => ∀ p, lo ≤ p → p ≤ hi → Val P L (ws p) o y.2
  | (_, _, true), none => False
  | (q, _, false), some y => ∀ ρ, Agree L o ρ → (execOp ρ o).run P (ws q) = .ok (.value y.2) (ws (q + 1))
  | (q, _, false), none => ∀ ρ, Agree L o ρ → (execOp ρ o).run P (ws q) = .ok .skip (ws (q + 1))
def VQ (P : Program) (ws : Nat → World) : List (Nat × Value) → List Oper → List (Option (Nat × Value)) → List Rg → Prop
  | L, o :: r, x :: xs, g :: gs => VClause P ws L o x g ∧ VQ P ws (pushF x L) r xs gs
  | _, [], [], [] => True
  | _, _, _, _ => False
theorem VQ.get {ws : Nat → World} : ∀ {ops : List Oper} {L : List (Nat × Value)} {xs : List (Option (Nat × Value))} {gs : List Rg}, VQ P ws L ops xs gs → ∀ {i : Nat} {o : Oper}, ops[i]? = some o → ∃ x g, xs[i]? = some x ∧ gs[i]? = some g ∧ VClause P ws (frame L xs i) o x g
  | o :: r, L, x :: xs, g :: gs, h, 0, o', ho => by
    simp at ho; subst ho
    exact ⟨x, g, rfl, rfl, h.1⟩
  | o :: r, L, x :: xs, g :: gs, h, i + 1, o', ho => by
    obtain ⟨x', g', h1, h2, h3⟩ := VQ.get h.2 (i := i) (by simpa using ho)
    exact ⟨x', g', by simpa using h1, by simpa using h2, h3⟩
  | [], _, _, _, _, i, _, ho => by simp at ho
  | _ :: _, _, [], _, h, _, _, _ => h.elim
  | _ :: _, _, _ :: _, [], h, _, _, _ => h.elim
theorem frame_lk : ∀ {xs : List (Option (Nat × Value))} {L : List (Nat × Value)} {i s : Nat} {v : Value}, lk (frame L xs i) s = some v → (∃ j, j < i ∧ xs[j]? = some (some (s, v))) ∨ (lk L s = some v ∧ ∀ j, j < i → ∀ u, xs[j]? ≠ some (some (s, u)))
  | [], L, i, s, v, h => .inr ⟨by simpa [frame] using h, fun j _ u => by simp⟩
  | x :: xs, L, 0, s, v, h => .inr ⟨by simpa [frame] using h, fun j hj => absurd hj (Nat.not_lt_zero _)⟩
  | x :: xs, L, i + 1, s, v, h => by
    rcases frame_lk (xs := xs) (i := i) (show lk (frame (pushF x L) xs i) s = some v from h) with ⟨j, h1, h2⟩ | ⟨h1, h2⟩
    · exact .inl ⟨j + 1, by omega, by simpa using h2⟩
    · cases x with
      | none => exact .inr ⟨h1, fun j hj u => by cases j with | zero => simp | succ j => simpa using h2 j (by omega) u⟩
      | some y =>
        obtain ⟨k, z⟩ := y
        simp only [pushF, lk] at h1
        cases hb : Nat.beq k s with
        | true =>
          rw [hb] at h1; simp at h1
          have := Nat.eq_of_beq_eq_true hb
          subst this; subst h1
          exact .inl ⟨0, by omega, rfl⟩
        | false =>
          rw [hb] at h1; simp at h1
          refine .inr ⟨h1, fun j hj u => ?_⟩
          cases j with
          | zero => intro e; simp at e; rw [e.1] at hb; simp at hb
          | succ j => simpa using h2 j (by omega) u
def rgOk (ops : List Oper) (ss : List Nat) (rg : List Rg) : Bool :=
  let b := bf ops
  (List.range ops.length).all (fun i => match rg.getD i (0, 0, true) with
    | (lo, hi, true) => Nat.ble lo ss.length && (Nat.beq lo 0 || (b.getD i 0).testBit (ss.getD (lo - 1) 0)) && (Nat.ble ss.length hi || (b.getD (ss.getD hi 0) 0).testBit i) && !(ss.any (Nat.beq i))
    | (q, _, false) => Nat.blt q ss.length && Nat.beq (ss.getD q 0) i) &&
  ss.all (fun i => Nat.blt i ops.length) && (List.range ss.length).all (fun q => Nat.beq q 0 || (b.getD (ss.getD q 0) 0).testBit (ss.getD (q - 1) 0))
structure JS (n : Nat) (L0 : List (Nat × Value)) (Lr : List (Option (Nat × Value))) (ss : List Nat) (ws : Nat → World) (ops : List Oper) (C : Nat → Prop) (a : Act) (w : World) : Prop where
  size : a.tmps.size = n
  nod : a.defers = []
  base : ∀ s v, lk L0 s = some v → (∀ j o, C j → ops[j]? = some o → o.dst ≠ some s) → a.tmps[s]? = some v
  reads : ∀ j s v, C j → Lr[j]? = some (some (s, v)) → a.tmps[s]? = some v
  ph : ∃ p, p ≤ ss.length ∧ (∀ q i, ss[q]? = some i → (C i ↔ q < p)) ∧ w = ws p
theorem getD_of {α : Type} {l : List α} {i : Nat} {x d : α} (h : l[i]? = some x) : l.getD i d = x := by rw [List.getD_eq_getElem?_getD, h]; rfl
theorem E_steps {id : Nat} {L0 : List (Nat × Value)} {w0 : World} (ws : Nat → World) (Lr : List (Option (Nat × Value))) (rg : List Rg) (ss : List Nat) (hm : P.follows .mixedOrders = true)
    (hc : (chkLow ops && chkReads ops ops.length && chkDst ops ops.length && rgOk ops ss rg) = true) (hnd : ss.Nodup) (hgd : ops.all (fun o => o.guard.isNone) = true) (hds : ops.all (fun o => okd n o.dst) = true)
    (hLr : ops.map (·.dst) = Lr.map (Option.map Prod.fst)) (h0 : ws 0 = w0.drew) (hV : VQ P ws L0 ops Lr rg) (k : K n Q .normal (frame L0 Lr Lr.length) (ws ss.length)) : E P n (.region id ops.toArray true) Q L0 w0 := by
  intro a ha
  simp only [Bool.and_eq_true] at hc
  obtain ⟨⟨⟨hlow, hreads⟩, hdst⟩, hrg⟩ := hc
  simp only [rgOk, Bool.and_eq_true] at hrg
  obtain ⟨⟨hrg1, hrg3⟩, hrg2⟩ := hrg
  have hlr : ∀ {i : Nat} {o : Oper}, ops[i]? = some o → ∃ x, Lr[i]? = some x ∧ o.dst = x.map Prod.fst := fun {i o} ho => by
    have e := congrArg (·[i]?) hLr
    simp only [List.getElem?_map, ho, Option.map_some] at e
    cases hx : Lr[i]? with
    | none => rw [hx] at e; cases e
    | some x => rw [hx] at e; exact ⟨x, rfl, by simpa using e⟩
  have hll : Lr.length = ops.length := by have := congrArg List.length hLr; simpa using this.symm
  have rd_dst : ∀ {j s : Nat} {v : Value}, Lr[j]? = some (some (s, v)) → ∃ o, ops[j]? = some o ∧ o.dst = some s := fun {j s v} hj => by
    have hjl := (List.getElem?_eq_some_iff.1 hj).1
    obtain ⟨o, ho⟩ : ∃ o, ops[j]? = some o := ⟨_, List.getElem?_eq_getElem (by omega)⟩
    obtain ⟨x, hx, hd⟩ := hlr ho
    rw [hj] at hx; cases hx
    exact ⟨o, ho, hd⟩
  have dst_j : ∀ {i j : Nat} {o o' : Oper} {s : Nat}, ops[i]? = some o → ops[j]? = some o' → o.dst = some s → o'.dst = some s → i = j := fun ho ho' hd hd' =>
    chkDst_ok hdst ho (List.getElem?_eq_some_iff.1 ho).1 ho' (List.getElem?_eq_some_iff.1 ho').1 hd hd'
  refine wp_region_any hm ?_
  rw [show ops.toArray.size = ops.length by simp]
  have hfl : ∀ i, ¬ LsD (Array.replicate ops.length false) i := fun i => by
    unfold LsD; simp [Array.getElem?_replicate]; split <;> simp
  refine any_J (J := JS n L0 Lr ss ws ops) hlow (fun o ho => by have := List.all_eq_true.1 hgd o ho; simpa using this) ?_ ?_ _ _ a _ (by simp) (fun i o _ hi => absurd hi (hfl i))
    ⟨ha.size, ha.nod, fun s v hs _ => ha.get s v hs, fun j s v hj => absurd hj (hfl j), 0, Nat.zero_le _, fun q i _ => ⟨fun h => absurd h (hfl i), fun h => absurd h (Nat.not_lt_zero _)⟩, h0.symm⟩ (by
      have := unl_prefix (N := ops.length) (Nat.zero_le _) (listed := Array.replicate ops.length false) (fun i => ⟨fun h => absurd h (hfl i), fun h => absurd h (Nat.not_lt_zero _)⟩)
      omega)
  · intro C C' a w i o I hcl hi ho hed hC' K Q' hK
    have hil := (List.getElem?_eq_some_iff.1 ho).1
    obtain ⟨p, hp1, hp2, hp3⟩ := I.ph
    subst hp3
    have hreach : ∀ {j : Nat}, Rch ops i j → C j := fun hr => hr.clo hcl (fun o2 ho2 => by rw [ho] at ho2; cases ho2; exact hed)
    have hag : Agree (frame L0 Lr i) o a.eval := fun x hxo u hu => ev_of (fun s u he hl => by
      subst he
      rcases frame_lk hl with ⟨j, h1, h2⟩ | ⟨h1, h2⟩
      · obtain ⟨o2, ho2, hd2⟩ := rd_dst h2
        have hr := chkReads_ok hreads ho hil ho2 (List.getElem?_eq_some_iff.1 ho2).1 (looks_op hxo) hd2
        exact I.reads j s u (hreach (hr.1 h1)) h2
      · refine I.base s u h1 (fun j o2 hj ho2 hd2 => ?_)
        obtain ⟨x2, hx2, hx3⟩ := hlr ho2
        rw [hd2] at hx3
        by_cases hji : j < i
        · cases x2 with
          | none => cases hx3
          | some y =>
            obtain ⟨s2, v2⟩ := y
            simp at hx3; subst hx3
            exact h2 j hji _ hx2
        · by_cases hje : j = i
          · subst hje; exact hi hj
          · have hr := chkReads_ok hreads ho hil ho2 (List.getElem?_eq_some_iff.1 ho2).1 (looks_op hxo) hd2
            exact hi ((hr.2 (by omega)).clo hcl (fun o3 ho3 e he hb => hcl _ _ ho3 hj e he hb))) hu
    obtain ⟨x, g, hx, hg, hcl2⟩ := hV.get ho
    obtain ⟨x', hx', hdx⟩ := hlr ho
    rw [hx] at hx'; cases hx'
    have hgd2 := List.all_eq_true.1 hrg1 i (by simpa using hil)
    rw [getD_of hg] at hgd2
    -- what a step leaves of the frame
    have step : ∀ (v : Value) (w' : World), (∀ y, x = some y → v = y.2) → (∃ p, p ≤ ss.length ∧ (∀ q i, ss[q]? = some i → (C' i ↔ q < p)) ∧ w' = ws p) → JS n L0 Lr ss ws ops C' (a.put o.dst v) w' := by
      intro v w' hv hph
      have hsn : ∀ {s : Nat}, o.dst = some s → s < n := fun hd => by have := List.all_eq_true.1 hds o (List.mem_of_getElem? ho); rw [hd] at this; exact Nat.le_of_ble_eq_true this
      refine ⟨by rw [put_size]; exact I.size, by rw [put_nod]; exact I.nod, fun s u hs hno => ?_, fun j s u hj hju => ?_, hph⟩
      · rw [put_ne (hno i o ((hC' i).2 (.inl rfl)) ho)]
        exact I.base s u hs (fun j o2 hj ho2 => hno j o2 ((hC' j).2 (.inr hj)) ho2)
      · by_cases hji : j = i
        · subst hji
          rw [hx] at hju; cases hju
          rw [hdx, hv _ rfl]
          exact put_eq (by rw [I.size]; exact hsn hdx)
        · obtain ⟨o2, ho2, hd2⟩ := rd_dst hju
          rw [put_ne (fun e => hji (dst_j ho2 ho hd2 e))]
          exact I.reads j s u (((hC' j).1 hj).resolve_left hji) hju
    obtain ⟨lo, hi2, fl⟩ := g
    cases fl with
    | true =>
      simp only [Bool.and_eq_true, Bool.or_eq_true, Bool.not_eq_true'] at hgd2
      obtain ⟨⟨⟨g1, g2⟩, g3⟩, g4⟩ := hgd2
      have g1' := Nat.le_of_ble_eq_true g1
      have hnotin : ∀ q, ss[q]? ≠ some i := fun q hq => by
        have : ss.any (Nat.beq i) = true := List.any_eq_true.2 ⟨i, List.mem_of_getElem? hq, Nat.beq_refl i⟩
        rw [this] at g4; cases g4
      have hlop : lo ≤ p := by
        rcases g2 with g2 | g2
        · have := Nat.eq_of_beq_eq_true g2; omega
        · by_cases h00 : lo = 0
          · omega
          · obtain ⟨z, hz⟩ : ∃ z, ss[lo - 1]? = some z := ⟨_, List.getElem?_eq_getElem (by omega)⟩
            rw [getD_of hz] at g2
            have := (hp2 _ _ hz).1 (hreach (bf_ok g2))
            omega
      have hphi : p ≤ hi2 := by
        rcases g3 with g3 | g3
        · have := Nat.le_of_ble_eq_true g3; omega
        · apply Classical.byContradiction
          intro hn
          obtain ⟨z, hz⟩ : ∃ z, ss[hi2]? = some z := ⟨_, List.getElem?_eq_getElem (by omega)⟩
          rw [getD_of hz] at g3
          have hcz := (hp2 _ _ hz).2 (by omega)
          exact hi ((bf_ok g3).clo hcl (fun o3 ho3 e he hb => hcl _ _ ho3 hcz e he hb))
      cases x with
      | none => exact hcl2.elim
      | some y =>
        have hrun := hcl2 p hlop hphi a.eval hag
        unfold Oper.wp
        rw [hrun]
        refine hK y.2 (ws p) (step _ _ (fun y' e => by cases e; rfl) ⟨p, hp1, fun q z hz => ?_, rfl⟩)
        rw [hC', ← hp2 q z hz]
        exact ⟨fun h => h.resolve_left (fun e => hnotin q (e ▸ hz)), .inr⟩
    | false =>
      simp only [Bool.and_eq_true] at hgd2
      obtain ⟨g1, g2⟩ := hgd2
      have g1' : lo < ss.length := Nat.le_of_ble_eq_true g1
      have hq : ss[lo]? = some i := by
        rw [List.getElem?_eq_getElem g1']
        have := Nat.eq_of_beq_eq_true g2
        rw [List.getD_eq_getElem?_getD, List.getElem?_eq_getElem g1'] at this
        simpa using this
      have hpl : p = lo := by
        have h1 : ¬ lo < p := fun h => hi ((hp2 _ _ hq).2 h)
        by_cases h00 : lo = 0
        · omega
        · have hb := List.all_eq_true.1 hrg2 lo (by simpa using g1')
          simp only [Bool.or_eq_true] at hb
          rcases hb with hb | hb
          · exact absurd (Nat.eq_of_beq_eq_true hb) h00
          · obtain ⟨z, hz⟩ : ∃ z, ss[lo - 1]? = some z := ⟨_, List.getElem?_eq_getElem (by omega)⟩
            rw [getD_of hq, getD_of hz] at hb
            have := (hp2 _ _ hz).1 (hreach (bf_ok hb))
            omega
      subst hpl
      have hph : ∃ p', p' ≤ ss.length ∧ (∀ q i, ss[q]? = some i → (C' i ↔ q < p')) ∧ ws (p + 1) = ws p' := by
        refine ⟨p + 1, g1', fun q z hz => ?_, rfl⟩
        rw [hC', hp2 q z hz]
        have hqz : z = i ↔ q = p := by
          constructor
          · intro e
            subst e
            exact (List.getElem?_inj (List.getElem?_eq_some_iff.1 hz).1 hnd).1 (hz.trans hq.symm)
          · intro e
            subst e
            rw [hz] at hq; cases hq; rfl
        rw [hqz]
        omega
      cases x with
      | none =>
        have hrun := hcl2 a.eval hag
        unfold Oper.wp
        rw [hrun]
        exact hK undef (ws (p + 1)) (step _ _ (fun y' e => by cases e) hph)
      | some y =>
        have hrun := hcl2 a.eval hag
        unfold Oper.wp
        rw [hrun]
        exact hK y.2 (ws (p + 1)) (step _ _ (fun y' e => by cases e; rfl) hph)
  · intro C a w hall I
    obtain ⟨p, hp1, hp2, hp3⟩ := I.ph
    have hpe : p = ss.length := by
      apply Classical.byContradiction
      intro hn
      obtain ⟨z, hz⟩ : ∃ z, ss[p]? = some z := ⟨_, List.getElem?_eq_getElem (by omega)⟩
      have hzl : z < ops.length := by
        exact Nat.le_of_ble_eq_true (List.all_eq_true.1 hrg3 z (List.mem_of_getElem? hz))
      have := (hp2 _ _ hz).1 (hall z hzl)
      omega
    subst hpe
    subst hp3
    refine k a ⟨I.size, I.nod, fun s v hs => ?_⟩
    rcases frame_lk hs with ⟨j, h1, h2⟩ | ⟨h1, h2⟩
    · exact I.reads j s v (hall j (by omega)) h2
    · refine I.base s v h1 (fun j o2 hj ho2 hd2 => ?_)
      obtain ⟨x2, hx2, hx3⟩ := hlr ho2
      rw [hd2] at hx3
      cases x2 with
      | none => cases hx3
      | some y =>
        obtain ⟨s2, v2⟩ := y
        simp at hx3; subst hx3
        exact h2 j (by have := (List.getElem?_eq_some_iff.1 hx2).1; omega) _ hx2
/-- a store, as a step -/
theorem step_store {L : List (Nat × Value)} {w : World} {o : Oper} {t : TypeId} {x y : Operand} {v z : Value} {size bytes : Nat} {b off : Nat} {e : TypeId} {cs : List Value} [TI P t z size bytes] (ho : o.op = .store t x y) (hx : ev L x = some (.pointer (some ⟨b, off, none⟩))) (hy : ev L y = some v)
    (hs : v.cells.size = size) (h1 : v.cells.toList.all Value.oneCell' = true) (hr : Row w b e cs) (hl : off + size ≤ cs.length) :
    ∀ ρ, Agree L o ρ → (execOp ρ o).run P w = .ok .skip (w.setRow b (cs.take off ++ v.cells.toList ++ cs.drop (off + size)).toArray) := fun ρ ha => by
  have h := run_storeCells_at (P := P) b off e v.cells.toList 0 cs.toArray w hr (by simp [hs]; exact hl) (fun u hu => List.all_eq_true.1 h1 u hu)
  simp only [Nat.add_zero] at h
  have a1 := ha.ev (by rw [ho]; simp [Op.operands]) hx
  have a2 := ha.ev (by rw [ho]; simp [Op.operands]) hy
  have h4 := run_sizeOf (P := P) (t := t) w
  simp only [execOp, ho, a1, a2, Instr.storeAt, Instr.sureAddr, storeVar, Sem.run_bind, Sem.run_pure, Result.andThen_ok, h4, hs]
  rw [if_neg (by simp)]
  have e1 : (List.drop (off + v.cells.toList.length) cs) = List.drop (off + size) cs := by rw [Array.length_toList, hs]
  simp only [h, Result.andThen_ok]
  simp [hs]
theorem step_store' {L : List (Nat × Value)} {w : World} {o : Oper} {t : TypeId} {x y : Operand} {v z : Value} {size bytes : Nat} {b off : Nat} {e : TypeId} {cs new cs' : List Value} [TI P t z size bytes] (ho : o.op = .store t x y) (hx : ev L x = some (.pointer (some ⟨b, off, none⟩))) (hy : ev L y = some v)
    (hv : v.cells.toList = new) (hs : Nat.beq new.length size = true) (h1 : new.all Value.oneCell' = true) (hr : Row w b e cs) (hl : off + size ≤ cs.length) (hcs : cs.take off ++ new ++ cs.drop (off + size) = cs') :
    ∀ ρ, Agree L o ρ → (execOp ρ o).run P w = .ok .skip (w.setRow b cs'.toArray) := by
  subst hcs
  subst hv
  exact step_store ho hx hy (by rw [← Nat.eq_of_beq_eq_true hs, Array.length_toList]) h1 hr hl
theorem set_row {w : World} {b : Nat} {e : TypeId} {cs : List Value} (cs' : List Value) (hr : Row w b e cs) : Row (w.setRow b cs'.toArray) b e cs' ∧ Kb (some b) w (w.setRow b cs'.toArray) :=
  ⟨setRow_heap w b cs.toArray cs'.toArray e (0, 0) hr, ⟨rfl, rfl, rfl, by simp, fun k hk hne => setRow_other w b k _ (fun e => hne (by rw [e]))⟩⟩
/-- an append, as a step -/
theorem app_ex {w : World} (t ty : TypeId) {e : TypeId} {z : Value} {size bytes : Nat} [ut : UT P t (.slice e)] [ti : TI P e z size bytes] {v : Value} {B m : Nat} {xs : List Value} (hown : w.ownsRow B e size v m xs) {b off q : Nat} (c : Nat) {news : List Value} (hnews : At w b off news) (hl : news.length = q * size)
    (h1 : news.all Value.oneCell' = true) (hz : z.cells.size = size) (hsz : 0 < size) (hmax : (m + q) * bytes ≤ 140737488355328) (hmax' : m + q ≤ 9223372036854775807) (hB : B ≤ w.heap.size) :
    ∃ v' w', (Builtin.append_ #[t, t] ty #[v, .slice (some ⟨b, off, none⟩) q c]).run P w = .ok v' w' ∧ w'.ownsRow B e size v' (m + q) (xs ++ news) ∧ Kb v.ownBlock w w' := by
  obtain ⟨i0, hi, hz0, hz1, hz2⟩ := info_parts ti.i
  obtain ⟨v', w', hr, h2, h3, _⟩ := run_append_own (P := P) w B t ty e i0 z size bytes ut.u hi hz0 hz1 hz2 hz hsz v m xs hown ⟨b, off, none⟩ q c news hl (fun j u hu => by rw [addr_add]; exact hnews j u hu)
    (fun u hu => List.all_eq_true.1 h1 u hu) (by unfold maxLen; omega) hmax hB
  exact ⟨v', w', hr, h2, h3⟩
theorem step_app {L : List (Nat × Value)} {w w' : World} {o : Oper} {t : TypeId} {s x : Operand} {v v' u : Value} (ho : o.op = .call { callee := .builtin .append, args := #[s, x], argTypes := #[t, t] }) (hs : ev L s = some v) (hx : ev L x = some u)
    (hr : (Builtin.append_ #[t, t] o.type #[v, u]).run P w = .ok v' w') : ∀ ρ, Agree L o ρ → (execOp ρ o).run P w = .ok (.value v') w' := fun ρ ha => by
  have a1 := ha.ev (by rw [ho]; simp [Op.operands, Call.operands]) hs
  have a2 := ha.ev (by rw [ho]; simp [Op.operands, Call.operands]) hx
  simp only [execOp, ho, resolve, invoke, builtin, Sem.run_bind, Sem.run_pure, Result.andThen_ok, List.map_toArray, List.map_cons, List.map_nil, a1, a2, hr]
end
end Go.En
namespace Go.En
open Go.RowKit
section
variable {P : Program} {n : Nat} {Q : Post} {ops : List Oper}
def upd (δ : Nat → Value) (d : Option Tmp) (v : Value) : Nat → Value := fun s => if d = some s then v else δ s
def StepP (P : Program) (L : List (Nat × Value)) (w : World) (o : Oper) (v : Value) (w' : World) : Prop :=
  (∀ ρ, Agree L o ρ → (execOp ρ o).run P w = .ok (.value v) w') ∨ (o.dst = none ∧ ∀ ρ, Agree L o ρ → (execOp ρ o).run P w = .ok .skip w')
theorem stepV {L : List (Nat × Value)} {w : World} {o : Oper} {v : Value} (h : Val P L w o v) : StepP P L w o v w := .inl h
theorem stepLit {L : List (Nat × Value)} {w : World} {o : Oper} {t e : TypeId} {z : Value} {size bytes len : Nat} {ps : List (Nat × Operand)} {vs cs : List Value} [UT P t (.slice e)] [TI P e z size bytes] (ho : o.op = .buildSlice t len ps.toArray)
    (hps : evs L 0 ps = some vs) (hv : vs.all (fun v => Nat.beq v.cells.size size) = true) (hl : Nat.beq vs.length len = true) (hsm : Nat.ble (len * size) 16777216 = true) (hcs : (vs.map fun v => v.cells.toList).flatten = cs) :
    StepP P L w o (.slice (some ⟨w.heap.size, 0, none⟩) len len) (w.alloc (.cells cs.toArray e)) := .inl fun _ ha => run_lit ho hps hv hl hsm hcs ha
structure JU (n : Nat) (Φ : (Nat → Prop) → (Nat → Value) → World → Prop) (C : Nat → Prop) (a : Act) (w : World) : Prop where
  size : a.tmps.size = n
  nod : a.defers = []
  phi : Φ C (fun s => a.tmps.getD s undef) w
theorem E_phi {id : Nat} {L0 : List (Nat × Value)} {w0 : World} (Φ : (Nat → Prop) → (Nat → Value) → World → Prop) (hm : P.follows .mixedOrders = true) (hc : chkLow ops = true) (hgd : ops.all (fun o => o.guard.isNone) = true) (hds : ops.all (fun o => okd n o.dst) = true)
    (h0 : ∀ δ, (∀ s v, lk L0 s = some v → δ s = v) → Φ (fun _ => False) δ w0.drew)
    (hstep : ∀ (C : Nat → Prop) (δ : Nat → Value) (w : World) (i : Nat) (o : Oper), ops[i]? = some o → ¬ C i → (∀ j, ((bf ops).getD i 0).testBit j = true → C j) → (∀ j, ((bf ops).getD j 0).testBit i = true → ¬ C j) → Φ C δ w →
      ∃ L v w', (∀ s u, lk L s = some u → δ s = u) ∧ StepP P L w o v w' ∧ ∀ C', (∀ j, C' j ↔ j = i ∨ C j) → Φ C' (upd δ o.dst v) w')
    (hend : ∀ C δ w, (∀ j, j < ops.length → C j) → Φ C δ w → ∃ L, (∀ s v, lk L s = some v → s < n ∧ δ s = v) ∧ K n Q .normal L w) : E P n (.region id ops.toArray true) Q L0 w0 := by
  intro a ha
  refine wp_region_any hm ?_
  rw [show ops.toArray.size = ops.length by simp]
  have hfl : ∀ i, ¬ LsD (Array.replicate ops.length false) i := fun i => by
    unfold LsD; simp [Array.getElem?_replicate]; split <;> simp
  have hget : ∀ {a : Act} {s : Nat} {v : Value}, a.tmps[s]? = some v → a.tmps.getD s undef = v := fun h => by rw [Array.getD_eq_getD_getElem?, h]; rfl
  have hfe : LsD (Array.replicate ops.length false) = fun _ => False := funext fun i => propext ⟨fun h => hfl i h, fun h => h.elim⟩
  refine any_J (J := JU n Φ) hc (fun o ho => by have := List.all_eq_true.1 hgd o ho; simpa using this) ?_ ?_ _ _ a _ (by simp) (fun i o _ hi => absurd hi (hfl i))
    ⟨ha.size, ha.nod, by rw [hfe]; exact h0 _ fun s v hs => hget (ha.get s v hs)⟩ (by
      have := unl_prefix (N := ops.length) (Nat.zero_le _) (listed := Array.replicate ops.length false) (fun i => ⟨fun h => absurd h (hfl i), fun h => absurd h (Nat.not_lt_zero _)⟩)
      omega)
  · intro C C' a w i o I hcl hi ho hed hC' K Q' hK
    obtain ⟨L, v, w', hL, hS, hΦ⟩ := hstep C (fun s => a.tmps.getD s undef) w i o ho hi (fun j hb => (bf_ok hb).clo hcl (fun o2 ho2 => by rw [ho] at ho2; cases ho2; exact hed))
      (fun j hb hj => hi ((bf_ok hb).clo hcl (fun o3 ho3 e he hbb => hcl _ _ ho3 hj e he hbb))) I.phi
    have hag : Agree L o a.eval := fun x _ u hu => by
      cases x with
      | tmp t => simp only [En.ev] at hu; exact hL t u hu
      | const u' => simpa [En.ev, Act.eval] using hu
      | global g => simpa [En.ev, Act.eval] using hu
      | func f => simpa [En.ev, Act.eval] using hu
    have hup : ∀ u, (o.dst = none ∨ u = v) → (fun s => (a.put o.dst u).tmps.getD s undef) = upd (fun s => a.tmps.getD s undef) o.dst v := fun u hu => by
      funext s
      unfold upd
      by_cases hd : o.dst = some s
      · have hsn : s < n := by have := List.all_eq_true.1 hds o (List.mem_of_getElem? ho); rw [hd] at this; exact Nat.le_of_ble_eq_true this
        rw [if_pos hd, hd]
        rcases hu with hu | rfl
        · rw [hu] at hd; cases hd
        · exact hget (put_eq (by rw [I.size]; exact hsn))
      · rw [if_neg hd]
        show (a.put o.dst u).tmps.getD s undef = a.tmps.getD s undef
        rw [Array.getD_eq_getD_getElem?, put_ne hd, ← Array.getD_eq_getD_getElem?]
    rcases hS with hrun | ⟨hd, hrun⟩
    · unfold Oper.wp
      rw [hrun _ hag]
      exact hK v w' ⟨by rw [put_size]; exact I.size, by rw [put_nod]; exact I.nod, by rw [hup v (.inr rfl)]; exact hΦ C' hC'⟩
    · unfold Oper.wp
      rw [hrun _ hag]
      exact hK undef w' ⟨by rw [put_size]; exact I.size, by rw [put_nod]; exact I.nod, by rw [hup undef (.inl hd)]; exact hΦ C' hC'⟩
  · intro C a w hall I
    obtain ⟨L, hL, hK⟩ := hend C _ w hall I.phi
    refine hK a ⟨I.size, I.nod, fun s v hs => ?_⟩
    obtain ⟨h1, h2⟩ := hL s v hs
    have hsa : s < a.tmps.size := by rw [I.size]; exact h1
    rw [Array.getD_eq_getD_getElem?, Array.getElem?_eq_getElem hsa] at h2
    rw [Array.getElem?_eq_getElem hsa]
    exact congrArg some h2
/-- an append of a slice, nil too -/
theorem app_exO {w : World} (t ty : TypeId) {e : TypeId} {z : Value} {size bytes : Nat} [ut : UT P t (.slice e)] [ti : TI P e z size bytes] {v : Value} {w0 : World} {m : Nat} {xs : List Value} {a : Option Addr} {q : Nat} (c : Nat) {news : List Value}
    (hown : w.ownsRow w0.heap.size e size v m xs) (x0 : Ext w0 w) (hnews : 0 < q → ∃ b off, a = some ⟨b, off, none⟩ ∧ At w b off news) (hl : news.length = q * size)
    (h1 : news.all Value.oneCell' = true) (hz : z.cells.size = size) (hsz : Nat.ble 1 size = true) (hmax : (m + q) * bytes ≤ 140737488355328) (hmax' : m + q ≤ 9223372036854775807) :
    ∃ v' w', (Builtin.append_ #[t, t] ty #[v, .slice a q c]).run P w = .ok v' w' ∧ w'.ownsRow w0.heap.size e size v' (m + q) (xs ++ news) ∧ Ext w0 w' ∧ Kb v.ownBlock w w' ∧ (v'.ownBlock = v.ownBlock ∨ v'.ownBlock = some w.heap.size) := by
  obtain ⟨i0, hi, hz0, hz1, hz2⟩ := info_parts ti.i
  cases a with
  | none =>
    have hq : q = 0 := by
      by_cases h0 : 0 < q
      · obtain ⟨_, _, e1, _⟩ := hnews h0; cases e1
      · omega
    subst hq
    obtain rfl : news = [] := List.length_eq_zero_iff.1 (by rw [hl, Nat.zero_mul])
    have hr := append_owned_none (P := P) (w := w) (ty := ty) (c := c) ut.u hi hown
    exact ⟨v, w, hr, by simpa using hown, x0, World.grownBy.refl _ _, .inl rfl⟩
  | some ad =>
    have hat : ∀ j u, news[j]? = some u → w.cell? (ad.add j) = some u := by
      by_cases h0 : 0 < q
      · obtain ⟨b, off, e1, hat⟩ := hnews h0
        cases e1
        exact fun j u hu => by rw [addr_add]; exact hat j u hu
      · obtain rfl : news = [] := List.length_eq_zero_iff.1 (by rw [hl, show q = 0 by omega, Nat.zero_mul])
        exact fun j u hu => by simp at hu
    obtain ⟨v', w', hr, h2, h3, _, h4⟩ := run_append_own_at (P := P) (w := w) (ty := ty) w0.heap.size t e i0 z size bytes ut.u hi hz0 hz1 hz2 hz (Nat.le_of_ble_eq_true hsz) v m xs hown ad q c news hl hat
      (fun u hu => List.all_eq_true.1 h1 u hu) (by unfold maxLen; omega) hmax x0.size
    exact ⟨v', w', hr, h2, own_anchor hown x0 h3, h3, h4⟩
end
end Go.En
namespace Go.En
open Go.RowKit
section
variable {P : Program} {n : Nat} {Q : Post} {ops : List Oper}
def VC (P : Program) (L : List (Nat × Value)) (w0 : World) (o : Oper) (v : Value) : Prop :=
  (∀ w, Ext w0 w → Val P L w o v) ∨ (∃ f args, (∀ w, Ext w0 w → Enters P L w o f args) ∧ ∀ w, Ext w0 w → Calls P f args w (Rt fun u w' => u = v ∧ Ext w w'))
theorem vcV {L : List (Nat × Value)} {w0 : World} {o : Oper} {v : Value} (h : ∀ w, Ext w0 w → Val P L w o v) : VC P L w0 o v := .inl h
theorem vcC {L : List (Nat × Value)} {w0 : World} {o : Oper} {v : Value} {f : FuncId} {args : Array Value} (h : ∀ w, Ext w0 w → Enters P L w o f args) (hc : ∀ w, Ext w0 w → Calls P f args w (Rt fun u w' => u = v ∧ Ext w w')) : VC P L w0 o v := .inr ⟨f, args, h, hc⟩
def VSq (P : Program) (w0 : World) : List (Nat × Value) → List Oper → List (Option (Nat × Value)) → Prop
  | L, o :: r, some x :: xs => VC P L w0 o x.2 ∧ VSq P w0 (x :: L) r xs
  | L, _ :: r, none :: xs => VSq P w0 L r xs
  | _, [], [] => True
  | _, _, _ => False
theorem VSq.get {w0 : World} : ∀ {ops : List Oper} {L : List (Nat × Value)} {xs : List (Option (Nat × Value))}, VSq P w0 L ops xs → ∀ {i : Nat} {o : Oper} {y : Nat × Value}, ops[i]? = some o → xs[i]? = some (some y) → VC P (frame L xs i) w0 o y.2
  | o :: r, L, some x :: xs, h, 0, o', y, ho, hy => by
    simp at ho hy; subst ho; subst hy
    exact h.1
  | o :: r, L, some x :: xs, h, i + 1, o', y, ho, hy => VSq.get (L := x :: L) h.2 (i := i) (by simpa using ho) (by simpa using hy)
  | o :: r, L, none :: xs, h, 0, o', y, ho, hy => by simp at hy
  | o :: r, L, none :: xs, h, i + 1, o', y, ho, hy => VSq.get (ops := r) (xs := xs) (L := L) (show VSq P w0 L r xs from h) (i := i) (by simpa using ho) (by simpa using hy)
  | [], _, _, _, i, _, _, ho, _ => by simp at ho
  | _ :: _, _, [], h, _, _, _, _, _ => h.elim
structure JO (n : Nat) (L0 : List (Nat × Value)) (Lr : List (Option (Nat × Value))) (w0 : World) (ops : List Oper) (ia is p : Nat) (t : TypeId) (Zc X : List Value) (C : Nat → Prop) (a : Act) (w : World) : Prop where
  size : a.tmps.size = n
  nod : a.defers = []
  ext : Ext w0 w
  base : ∀ s v, lk L0 s = some v → (∀ j o, C j → ops[j]? = some o → o.dst ≠ some s) → a.tmps[s]? = some v
  reads : ∀ j s v, C j → Lr[j]? = some (some (s, v)) → a.tmps[s]? = some v
  hp : C ia → ∃ b, a.tmps[p]? = some (.pointer (some ⟨b, 0, none⟩)) ∧ w0.heap.size ≤ b ∧ (C is → Row w b t X) ∧ (¬ C is → Row w b t Zc)
def oneOk (ops : List Oper) (Lr : List (Option (Nat × Value))) (ia is : Nat) : Bool :=
  Nat.beq Lr.length ops.length && (List.range ops.length).all fun i => Nat.beq i ia || Nat.beq i is || (Lr.getD i none).isSome
theorem E_one {id : Nat} {L0 : List (Nat × Value)} {w0 : World} (ia is p sx : Nat) {t : TypeId} {z : Value} {size bytes : Nat} (X : List Value) (Lr : List (Option (Nat × Value))) [TI P t z size bytes] (hm : P.follows .mixedOrders = true)
    (hc : (chkLow ops && chkReads ops ops.length && chkDst ops ops.length) = true) (hgd : ops.all (fun o => o.guard.isNone) = true) (hds : ops.all (fun o => okd n o.dst) = true)
    (h0 : ops[ia]?.map (fun o => (o.op, o.dst)) = some (.alloc t, some p)) (h1 : ops[is]?.map (fun o => (o.op, o.dst)) = some (.store t (.tmp p) (.tmp sx), none))
    (hLa : Lr[ia]? = some none) (hLs : Lr[is]? = some none) (hLd : (ops.map (·.dst)).set ia none = Lr.map (Option.map Prod.fst)) (hok : oneOk ops Lr ia is = true) (hias : ia < is) (hp0 : lk L0 p = none)
    (hX : lk (frame L0 Lr is) sx = some (.agg X.toArray)) (hXs : X.length = size) (hX1 : X.all Value.oneCell' = true) (hz : z.cells.size = size)
    (hV : VSq P w0 L0 ops Lr)
    (k : ∀ b w, Ext w0 w → w0.heap.size ≤ b → Row w b t X → K n Q .normal ((p, .pointer (some ⟨b, 0, none⟩)) :: frame L0 Lr Lr.length) w) : E P n (.region id ops.toArray true) Q L0 w0 := by
  intro a ha
  simp only [Bool.and_eq_true] at hc
  obtain ⟨⟨hlow, hreads⟩, hdst⟩ := hc
  simp only [oneOk, Bool.and_eq_true] at hok
  have hll : Lr.length = ops.length := Nat.eq_of_beq_eq_true hok.1
  have op_of : ∀ {i : Nat} {x : Op × Option Tmp}, ops[i]?.map (fun o => (o.op, o.dst)) = some x → ∀ {o}, ops[i]? = some o → o.op = x.1 ∧ o.dst = x.2 := fun {i x} hx {o} ho => by
    rw [ho] at hx; simp at hx; rw [← hx]; exact ⟨rfl, rfl⟩
  obtain ⟨oa, hoa⟩ : ∃ o, ops[ia]? = some o := by cases ho : ops[ia]? with | none => rw [ho] at h0; cases h0 | some o => exact ⟨o, rfl⟩
  obtain ⟨os, hos⟩ : ∃ o, ops[is]? = some o := by cases ho : ops[is]? with | none => rw [ho] at h1; cases h1 | some o => exact ⟨o, rfl⟩
  obtain ⟨ha1, ha2⟩ := op_of h0 hoa
  obtain ⟨hs1, hs2⟩ := op_of h1 hos
  dsimp only at ha1 ha2 hs1 hs2
  -- what stands where
  have hlr : ∀ {i : Nat} {o : Oper}, ops[i]? = some o → i ≠ ia → ∃ x, Lr[i]? = some x ∧ o.dst = x.map Prod.fst := fun {i o} ho hia => by
    have e := congrArg (·[i]?) hLd
    simp only [List.getElem?_map] at e
    rw [List.getElem?_set_ne (fun h => hia h.symm), List.getElem?_map, ho, Option.map_some] at e
    cases hx : Lr[i]? with
    | none => rw [hx] at e; cases e
    | some x => rw [hx] at e; exact ⟨x, rfl, by simpa using e⟩
  have rd_dst : ∀ {j s : Nat} {v : Value}, Lr[j]? = some (some (s, v)) → j ≠ ia ∧ ∃ o, ops[j]? = some o ∧ o.dst = some s := fun {j s v} hj => by
    have hjl := (List.getElem?_eq_some_iff.1 hj).1
    have hji : j ≠ ia := fun e => by subst e; rw [hLa] at hj; cases hj
    obtain ⟨o, ho⟩ : ∃ o, ops[j]? = some o := ⟨_, List.getElem?_eq_getElem (by omega)⟩
    obtain ⟨x, hx, hd⟩ := hlr ho hji
    rw [hj] at hx; cases hx
    exact ⟨hji, o, ho, hd⟩
  have dst_j : ∀ {i j : Nat} {o o' : Oper} {s : Nat}, ops[i]? = some o → ops[j]? = some o' → o.dst = some s → o'.dst = some s → i = j := fun ho ho' hd hd' =>
    chkDst_ok hdst ho (List.getElem?_eq_some_iff.1 ho).1 ho' (List.getElem?_eq_some_iff.1 ho').1 hd hd'
  have hpn : p < n := by have := List.all_eq_true.1 hds oa (List.mem_of_getElem? hoa); rw [ha2] at this; exact Nat.le_of_ble_eq_true this
  have hzl : z.cells.toList.length = size := by simpa using hz
  refine wp_region_any hm ?_
  rw [show ops.toArray.size = ops.length by simp]
  have hfl : ∀ i, ¬ LsD (Array.replicate ops.length false) i := fun i => by
    unfold LsD; simp [Array.getElem?_replicate]; split <;> simp
  -- what is looked up in the frame stands there
  have look : ∀ {C : Nat → Prop} {a : Act} {w : World} {i : Nat} {o : Oper} {s : Nat} {u : Value}, JO n L0 Lr w0 ops ia is p t z.cells.toList X C a w → Clo ops C → ops[i]? = some o → ¬ C i → (∀ e ∈ o.after, Region.binds .any e = true → C e.on) → .tmp s ∈ o.op.operands → lk (frame L0 Lr i) s = some u → a.tmps[s]? = some u := by
    intro C a w i o s u I hcl ho hi hed hxo hl
    have hil := (List.getElem?_eq_some_iff.1 ho).1
    have hreach : ∀ {j : Nat}, Rch ops i j → C j := fun hr => hr.clo hcl (fun o2 ho2 => by rw [ho] at ho2; cases ho2; exact hed)
    rcases frame_lk hl with ⟨j, h1, h2⟩ | ⟨h1, h2⟩
    · obtain ⟨_, o2, ho2, hd2⟩ := rd_dst h2
      have hr := chkReads_ok hreads ho hil ho2 (List.getElem?_eq_some_iff.1 ho2).1 (looks_op hxo) hd2
      exact I.reads j s u (hreach (hr.1 (by assumption))) h2
    · refine I.base s u h1 (fun j o2 hj ho2 hd2 => ?_)
      by_cases hja : j = ia
      · subst hja
        rw [hoa] at ho2; cases ho2
        rw [ha2] at hd2; cases hd2
        rw [hp0] at h1; cases h1
      · obtain ⟨x2, hx2, hx3⟩ := hlr ho2 hja
        rw [hd2] at hx3
        by_cases hji : j < i
        · cases x2 with
          | none => cases hx3
          | some y =>
            obtain ⟨s2, v2⟩ := y
            simp at hx3; subst hx3
            exact h2 j hji _ hx2
        · by_cases hje : j = i
          · subst hje; exact hi hj
          · have hr := chkReads_ok hreads ho hil ho2 (List.getElem?_eq_some_iff.1 ho2).1 (looks_op hxo) hd2
            exact hi ((hr.2 (by omega)).clo hcl (fun o3 ho3 e he hb => hcl _ _ ho3 hj e he hb))
  have hp_reads : ∀ {C : Nat → Prop} {i : Nat} {o : Oper}, Clo ops C → ops[i]? = some o → (∀ e ∈ o.after, Region.binds .any e = true → C e.on) → ia < i → .tmp p ∈ o.op.operands → C ia := fun {C i o} hcl ho hed hlt hxo => by
    have hr := chkReads_ok hreads ho (List.getElem?_eq_some_iff.1 ho).1 hoa (List.getElem?_eq_some_iff.1 hoa).1 (looks_op hxo) ha2
    exact (hr.1 hlt).clo hcl (fun o2 ho2 => by rw [ho] at ho2; cases ho2; exact hed)
  have hs_after : ∀ {C : Nat → Prop}, Clo ops C → C is → C ia := fun {C} hcl h => hp_reads hcl hos (fun e he hb => hcl _ _ hos h e he hb) hias (by rw [hs1]; simp [Op.operands])
  refine any_J (J := JO n L0 Lr w0 ops ia is p t z.cells.toList X) hlow (fun o ho => by have := List.all_eq_true.1 hgd o ho; simpa using this) ?_ ?_ _ _ a _ (by simp) (fun i o _ hi => absurd hi (hfl i))
    ⟨ha.size, ha.nod, ext_drew w0, fun s v hs _ => ha.get s v hs, fun j s v hj => absurd hj (hfl j), fun hj => absurd hj (hfl _)⟩ (by
      have := unl_prefix (N := ops.length) (Nat.zero_le _) (listed := Array.replicate ops.length false) (fun i => ⟨fun h => absurd h (hfl i), fun h => absurd h (Nat.not_lt_zero _)⟩)
      omega)
  · intro C C' a w i o I hcl hi ho hed hC' K Q' hK
    have hil := (List.getElem?_eq_some_iff.1 ho).1
    -- the parts that do not hang on the world
    have stepB : ∀ (v : Value), (∀ s u, lk L0 s = some u → (∀ j q, C' j → ops[j]? = some q → q.dst ≠ some s) → (a.put o.dst v).tmps[s]? = some u) := fun v s u hs hno => by
      rw [put_ne (hno i o ((hC' i).2 (.inl rfl)) ho)]
      exact I.base s u hs (fun j o2 hj ho2 => hno j o2 ((hC' j).2 (.inr hj)) ho2)
    have stepR : ∀ (v : Value), (∀ y, Lr[i]? = some (some y) → v = y.2) → ∀ j s u, C' j → Lr[j]? = some (some (s, u)) → (a.put o.dst v).tmps[s]? = some u := fun v hv j s u hj hju => by
      obtain ⟨hja, o2, ho2, hd2⟩ := rd_dst hju
      by_cases hji : j = i
      · subst hji
        rw [ho] at ho2; cases ho2
        have hsn : s < n := by have := List.all_eq_true.1 hds o (List.mem_of_getElem? ho); rw [hd2] at this; exact Nat.le_of_ble_eq_true this
        rw [hd2, hv _ hju]
        exact put_eq (by rw [I.size]; exact hsn)
      · rw [put_ne (fun e => hji (dst_j ho2 ho hd2 e))]
        exact I.reads j s u (((hC' j).1 hj).resolve_left hji) hju
    by_cases hia : i = ia
    · subst hia
      rw [hoa] at ho; cases ho
      have hrun := run_alloc (P := P) ha1 a.eval w
      have hx := ext_alloc w (.cells z.cells t)
      unfold Oper.wp
      rw [hrun]
      refine hK _ _ ⟨by rw [put_size]; exact I.size, by rw [put_nod]; exact I.nod, I.ext.trans hx, stepB _, stepR _ (fun y hy => by rw [hLa] at hy; cases hy), fun _ => ?_⟩
      refine ⟨w.heap.size, by rw [ha2]; exact put_eq (by rw [I.size]; exact hpn), I.ext.size, fun h => ?_, fun _ => row_alloc _ _ _⟩
      exact absurd (hs_after hcl (((hC' _).1 h).resolve_left (by omega))) hi
    by_cases his : i = is
    · subst his
      rw [hos] at ho; cases ho
      have hca : C ia := hp_reads hcl hos hed hias (by rw [hs1]; simp [Op.operands])
      obtain ⟨b, e1, e2, e3, e4⟩ := I.hp hca
      have hpv : a.eval (.tmp p) = .pointer (some ⟨b, 0, none⟩) := by simp [Act.eval, Array.getD_eq_getD_getElem?, e1]
      have hxv : a.eval (.tmp sx) = .agg X.toArray := by
        have := look I hcl hos hi hed (by rw [hs1]; simp [Op.operands]) hX
        simp [Act.eval, Array.getD_eq_getD_getElem?, this]
      obtain ⟨w', hrun, r1, k1, hsz1⟩ := run_storeA (P := P) hs1 (ρ := a.eval) (w := w) hpv hxv hXs hX1 (e4 hi) hzl
      unfold Oper.wp
      rw [hrun]
      refine hK _ _ ⟨by rw [put_size]; exact I.size, by rw [put_nod]; exact I.nod, k1.ext I.ext (fun b' hb' => by cases hb'; exact e2), stepB _, stepR _ (fun y hy => by rw [hLs] at hy; cases hy), fun _ => ?_⟩
      rw [hs2]
      exact ⟨b, e1, e2, fun _ => r1, fun h => absurd ((hC' _).2 (.inl rfl)) h⟩
    · obtain ⟨x, hx⟩ : ∃ x, Lr[i]? = some x := ⟨_, List.getElem?_eq_getElem (by omega)⟩
      have hsm := List.all_eq_true.1 hok.2 i (by simpa using hil)
      rw [getD_of hx] at hsm
      have hsm' : x.isSome = true := by
        simp only [Bool.or_eq_true] at hsm
        rcases hsm with (h | h) | h
        · exact absurd (Nat.eq_of_beq_eq_true h) hia
        · exact absurd (Nat.eq_of_beq_eq_true h) his
        · exact h
      obtain ⟨y, rfl⟩ := Option.isSome_iff_exists.1 hsm'
      have hag : Agree (frame L0 Lr i) o a.eval := fun x hxo u hu => ev_of (fun s u he hl => by
        subst he
        exact look I hcl ho hi hed hxo hl) hu
      have hpk : ∀ (v : Value) (w' : World), Ext w w' → C' ia → ∃ b, (a.put o.dst v).tmps[p]? = some (.pointer (some ⟨b, 0, none⟩)) ∧ w0.heap.size ≤ b ∧ (C' is → Row w' b t X) ∧ (¬ C' is → Row w' b t z.cells.toList) := fun v w' hx' hca => by
        obtain ⟨b, e1, e2, e3, e4⟩ := I.hp (((hC' _).1 hca).resolve_left (fun e => hia e.symm))
        refine ⟨b, ?_, e2, fun h => (e3 (((hC' _).1 h).resolve_left (fun e => his e.symm))).ext hx', fun h => (e4 fun h' => h ((hC' _).2 (.inr h'))).ext hx'⟩
        rw [put_ne (fun e => hia (dst_j ho hoa e ha2))]
        exact e1
      rcases VSq.get hV ho hx with hval | ⟨f, args, hen, hca⟩
      · have hrun := hval w I.ext a.eval hag
        unfold Oper.wp
        rw [hrun]
        exact hK y.2 w ⟨by rw [put_size]; exact I.size, by rw [put_nod]; exact I.nod, I.ext, stepB _, stepR _ (fun y' hy => by rw [hx] at hy; cases hy; rfl), hpk _ _ (Ext.refl w)⟩
      · have hrun := hen w I.ext a.eval hag
        unfold Oper.wp
        rw [hrun, Oper.upon_enter]
        refine (hca w I.ext).mono ?_
        rintro e w' ⟨v, rfl, rfl, hxx⟩
        exact hK y.2 w' ⟨by rw [put_size]; exact I.size, by rw [put_nod]; exact I.nod, I.ext.trans hxx, stepB _, stepR _ (fun y' hy => by rw [hx] at hy; cases hy; rfl), hpk _ _ hxx⟩
  · intro C a w hall I
    obtain ⟨b, e1, e2, e3, _⟩ := I.hp (hall _ (List.getElem?_eq_some_iff.1 hoa).1)
    refine k b w I.ext e2 (e3 (hall _ (List.getElem?_eq_some_iff.1 hos).1)) a ⟨I.size, I.nod, fun s v hs => ?_⟩
    simp only [lk] at hs
    cases hb : Nat.beq p s with
    | true =>
      rw [hb] at hs; simp at hs
      have := Nat.eq_of_beq_eq_true hb
      subst this; rw [e1, hs]
    | false =>
      rw [hb] at hs
      simp only [cond_false] at hs
      rcases frame_lk hs with ⟨j, h1, h2⟩ | ⟨h1, h2⟩
      · exact I.reads j s v (hall j (by omega)) h2
      · refine I.base s v h1 (fun j o2 hj ho2 hd2 => ?_)
        by_cases hja : j = ia
        · subst hja
          rw [hoa] at ho2; cases ho2
          rw [ha2] at hd2; cases hd2
          rw [hp0] at h1; cases h1
        · obtain ⟨x2, hx2, hx3⟩ := hlr ho2 hja
          rw [hd2] at hx3
          cases x2 with
          | none => cases hx3
          | some y =>
            obtain ⟨s2, v2⟩ := y
            simp at hx3; subst hx3
            exact h2 j (by have := (List.getElem?_eq_some_iff.1 hx2).1; omega) _ hx2
end
end Go.En
namespace Go.En
open Go.RowKit Go.MapKept
theorem mapUpd_ex {P : Program} {w : World} {t kt et : TypeId} {r : Nat} {v : Value} {f : Int → Option Value} {k : Int} (um : UT P t (.map kt et)) (uk : UT P kt (.int .i64)) (hm : MapF w r f) :
    ∃ w', MapF w' r (fun j => if j = k then some v else f j) ∧ Kb (some r) w w' ∧ ∀ (o : Oper) (L : List (Nat × Value)) (x i y : Operand), o.op = .mapUpdate t x i y → ev L x = some (.map (some r)) → ev L i = some (int k) → ev L y = some v → ∀ ρ, Agree L o ρ → (execOp ρ o).run P w = .ok .skip w' := by
  obtain ⟨es, clock, hb, hs, hks, hf⟩ := hm
  have hik : IsKey (.int .i64) (int k) := rfl
  have h6 := run_checkKey (P := P) (w := w) uk.u hik false 9999
  have hkb : ∀ o' : Obj, Kb (some r) w { w with heap := w.heap.setIfInBounds r o' } := fun o' => ⟨rfl, rfl, rfl, by simp, fun b hlt hne => (heap_set hb).2 b (fun e => hne (by rw [e]))⟩
  rcases find_mapF hs hks hf k with ⟨e1, e2, e3⟩ | ⟨j, e, e1, e2, e3, e4⟩
  · have h7 := run_findKey (P := P) (w := w) uk.u e2
    refine ⟨{ w with heap := w.heap.setIfInBounds r (.map (es.push { key := int k, val := v, born := clock }) (clock + 1)) }, ⟨_, _, (heap_set hb).1, stamped_push hs e3, fun x hx => ?_, fun k' v' => ?_⟩, hkb _, fun o L x i y ho hx hi hy ρ ha => ?_⟩
    rotate_left 2
    · have h1 := ha.ev (by rw [ho]; simp [Op.operands]) hx
      have h2 := ha.ev (by rw [ho]; simp [Op.operands]) hi
      have h3 := ha.ev (by rw [ho]; simp [Op.operands]) hy
      simp only [execOp, ho, h1, h2, h3]
      simp [Instr.mapUpdate, run_underlying um.u, Go.MapKept.run_getObj_map hb, h6, h7, Go.MapKept.run_setObj_map _ hb, Result.andThen]
    · simp only [Array.toList_push, List.mem_append, List.mem_singleton] at hx
      rcases hx with hx | rfl
      · exact hks x hx
      · exact hik
    · simp only [Array.toList_push, List.mem_append, List.mem_singleton]
      by_cases hk : k' = k
      · subst hk
        rw [if_pos rfl]
        constructor
        · intro h; cases h; exact ⟨_, .inr rfl, rfl, rfl⟩
        · rintro ⟨x, hx | rfl, h1, h2⟩
          · exact absurd h1 (e3 x hx)
          · rw [← h2]
      · rw [if_neg hk, hf]
        constructor
        · rintro ⟨x, hx, h1, h2⟩; exact ⟨x, .inl hx, h1, h2⟩
        · rintro ⟨x, hx | rfl, h1, h2⟩
          · exact ⟨x, hx, h1, h2⟩
          · simp at h1; exact absurd h1.symm hk
  · have h7 := run_findKey (P := P) (w := w) uk.u e2
    have hj : es[j]? = some e := by simpa using e3
    have hst := run_keyThatStays (P := P) (w := w) hik
    have hkey : ∀ e', es[j]? = some e' → ({ e' with key := int k, val := v } : MapEntry).key = e'.key := fun e' he' => by rw [hj] at he'; cases he'; exact e4.symm
    refine ⟨{ w with heap := w.heap.setIfInBounds r (.map (es.modify j fun e => { e with key := int k, val := v }) clock) }, ⟨_, _, (heap_set hb).1, stamped_modify hs _ _ (fun _ _ => rfl) (fun e' _ he' => hkey e' he'), isKey_modify hks _ _ hkey, fun k' v' => ?_⟩, hkb _, fun o L x i y ho hx hi hy ρ ha => ?_⟩
    rotate_left 1
    · have h1 := ha.ev (by rw [ho]; simp [Op.operands]) hx
      have h2 := ha.ev (by rw [ho]; simp [Op.operands]) hi
      have h3 := ha.ev (by rw [ho]; simp [Op.operands]) hy
      simp only [execOp, ho, h1, h2, h3]
      simp [Instr.mapUpdate, run_underlying um.u, Go.MapKept.run_getObj_map hb, h6, h7, hj, e4, hst, Go.MapKept.run_setObj_map _ hb, Result.andThen]
    · have hmem : ∀ x : MapEntry, x ∈ (es.modify j fun e => { e with key := int k, val := v }).toList ↔ (x ∈ es.toList ∧ x.key ≠ int k) ∨ x = { e with key := int k, val := v } := by
        intro x
        constructor
        · intro hx
          obtain ⟨i, hi⟩ := List.getElem?_of_mem hx
          rw [Array.getElem?_toList, Array.getElem?_modify] at hi
          by_cases hji : j = i
          · subst hji
            rw [if_pos rfl, hj] at hi
            exact .inr (by simpa using hi.symm)
          · rw [if_neg hji] at hi
            have hxm : x ∈ es.toList := List.mem_of_getElem? (by rw [Array.getElem?_toList]; exact hi)
            refine .inl ⟨hxm, fun hxk => hji ?_⟩
            have h1 := (List.getElem?_eq_some_iff.1 e3).1
            have hi2 : es.toList[i]? = some x := by rw [Array.getElem?_toList]; exact hi
            have h2 := (List.getElem?_eq_some_iff.1 hi2).1
            have hn := hs.2.2
            have ha : (es.toList.map (·.key))[j]? = some (int k) := by rw [List.getElem?_map, e3]; simp [e4]
            have hb' : (es.toList.map (·.key))[i]? = some (int k) := by rw [List.getElem?_map, hi2]; simp [hxk]
            exact (List.getElem?_inj (by simpa using h1) hn).1 (ha.trans hb'.symm)
        · rintro (⟨hx, hxk⟩ | rfl)
          · obtain ⟨i, hi⟩ := List.getElem?_of_mem hx
            refine List.mem_of_getElem? (i := i) ?_
            rw [Array.getElem?_toList, Array.getElem?_modify]
            by_cases hji : j = i
            · subst hji
              rw [e3] at hi; cases hi
              exact absurd e4 hxk
            · rw [if_neg hji, ← Array.getElem?_toList]; exact hi
          · refine List.mem_of_getElem? (i := j) ?_
            rw [Array.getElem?_toList, Array.getElem?_modify, if_pos rfl, hj]; rfl
      dsimp only
      by_cases hk : k' = k
      · subst hk
        rw [if_pos rfl]
        constructor
        · intro h; cases h; exact ⟨_, (hmem _).2 (.inr rfl), rfl, rfl⟩
        · rintro ⟨x, hx, h1, h2⟩
          rcases (hmem x).1 hx with ⟨_, hxk⟩ | rfl
          · exact absurd h1 hxk
          · rw [← h2]
      · rw [if_neg hk, hf]
        constructor
        · rintro ⟨x, hx, h1, h2⟩
          exact ⟨x, (hmem x).2 (.inl ⟨hx, fun h => hk (by rw [h1] at h; simpa using h)⟩), h1, h2⟩
        · rintro ⟨x, hx, h1, h2⟩
          rcases (hmem x).1 hx with ⟨hx, _⟩ | rfl
          · exact ⟨x, hx, h1, h2⟩
          · simp at h1; exact absurd h1.symm hk
end Go.En
