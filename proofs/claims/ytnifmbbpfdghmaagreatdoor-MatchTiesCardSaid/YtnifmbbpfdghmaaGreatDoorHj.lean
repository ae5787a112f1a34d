/-
  A loop over the keys of a map with number keys: an iterator is made; each key comes once, in any order.
-/
import Derived.Test.YtnifmbbpfdghmaaGreatDoorY1
import Derived.Maps.RangeRun
set_option linter.all false
namespace Go.En
open Go.RowKit Go.MapKept
open Go.ChangeMaps (setBlock)
theorem nodup_map_inj {α β : Type} {g : α → β} : ∀ {l : List α}, (l.map g).Nodup → ∀ {x y : α}, x ∈ l → y ∈ l → g x = g y → x = y
  | [], _, _, _, hx, _, _ => by cases hx
  | a :: l, h, x, y, hx, hy, e => by
    obtain ⟨h1, h2⟩ := List.nodup_cons.1 h
    rcases List.mem_cons.1 hx with ex | hx <;> rcases List.mem_cons.1 hy with ey | hy
    · rw [ex, ey]
    · exact absurd (List.mem_map.2 ⟨y, hy, by rw [← e, ex]⟩) h1
    · exact absurd (List.mem_map.2 ⟨x, hx, by rw [e, ey]⟩) h1
    · exact nodup_map_inj h2 hx hy e
/-- an iterator (block r) over a map (block b) that holds f; the keys of which 'left' holds are still to come, c of them -/
def RngF (w : World) (b r : Nat) (f : Int → Option Value) (left : Int → Prop) (c : Nat) : Prop :=
  ∃ es clock since seen c0, w.heap[b]? = some (.map es clock) ∧ Stamped es clock ∧ (∀ x ∈ es.toList, IsKey (.int .i64) x.key) ∧ (∀ k v, f k = some v ↔ ∃ e ∈ es.toList, e.key = int k ∧ e.val = v) ∧
    w.heap[r]? = some (.mapIter (some b) since seen c0) ∧ (∀ x ∈ es.toList, x.born < since) ∧ since ≤ c0 ∧ since ≤ clock ∧ (leftOf es seen).size = c ∧ ∀ k, left k ↔ ∃ e ∈ es.toList, e.key = int k ∧ seen.contains e.born = false
theorem RngF.map {w : World} {b r c : Nat} {f : Int → Option Value} {left : Int → Prop} (h : RngF w b r f left c) : MapF w b f := by
  obtain ⟨es, clock, _, _, _, hb, hs, hk, hf, _⟩ := h
  exact ⟨es, clock, hb, hs, hk, hf⟩
theorem RngF.same {w w' : World} {b r c : Nat} {f : Int → Option Value} {left : Int → Prop} (h : RngF w b r f left c) (e1 : w'.heap[b]? = w.heap[b]?) (e2 : w'.heap[r]? = w.heap[r]?) : RngF w' b r f left c := by
  obtain ⟨es, clock, since, seen, c0, hb, hs, hk, hf, hr, rest⟩ := h
  exact ⟨es, clock, since, seen, c0, e1.trans hb, hs, hk, hf, e2.trans hr, rest⟩
theorem RngF.lt {w : World} {b r c : Nat} {f : Int → Option Value} {left : Int → Prop} (h : RngF w b r f left c) : r < w.heap.size := by
  obtain ⟨_, _, _, _, _, _, _, _, _, hr, _⟩ := h
  exact (Array.getElem?_eq_some_iff.1 hr).1
theorem RngF.ne {w : World} {b r c : Nat} {f : Int → Option Value} {left : Int → Prop} (h : RngF w b r f left c) : b ≠ r := by
  obtain ⟨_, _, _, _, _, hb, _, _, _, hr, _⟩ := h
  rintro rfl
  rw [hb] at hr; cases hr
theorem RngF.ext {w w' : World} {b r c : Nat} {f : Int → Option Value} {left : Int → Prop} (h : RngF w b r f left c) (x : Ext w w') : RngF w' b r f left c := h.same (x.block h.map.lt) (x.block h.lt)
theorem RngF.kb {g : Option Nat} {w w' : World} {b r c : Nat} {f : Int → Option Value} {left : Int → Prop} (h : RngF w b r f left c) (k : Kb g w w') (h1 : some b ≠ g) (h2 : some r ≠ g) : RngF w' b r f left c := h.same (World.grownBy.block k b h.map.lt h1) (World.grownBy.block k r h.lt h2)
section
variable {P : Program} {n : Nat} {Q : Post} {L : List (Nat × Value)} {w : World} {ops : List Oper} {o : Oper} {rest : List Oper}
theorem EL_range {d : Nat} {t kt et : TypeId} {x : Operand} {b : Nat} {f : Int → Option Value} [um : UT P t (.map kt et)] (hm : MapF w b f) (hg : gst ops L o = some true) (hd : odst n o.dst = some d) (ho : o.op = .range t x) (hx : ev L x = some (.map (some b)))
    (k : ∀ r c w', r = w.heap.size → RngF w' b r f (fun j => (f j).isSome = true) c → Ext w w' → EL P n ops Q rest ((d, .pointer (some ⟨r, 0, none⟩)) :: L) w') : EL P n ops Q (o :: rest) L w := by
  have hlt := hm.lt
  obtain ⟨es, clock, hb, hs, hk, hf⟩ := hm
  have hrun := run_range_map (P := P) w t kt et b es clock um.u hb
  refine EL_valw (w' := w.alloc (.mapIter (some b) clock #[] clock)) hg hd (fun ρ ha => ?_) (k _ _ _ rfl ⟨es, clock, clock, #[], clock, ((heap_alloc w _).2 b hlt).trans hb, hs, hk, hf, (heap_alloc w _).1, hs.1, Nat.le_refl _, Nat.le_refl _, rfl, fun j => ?_⟩ (ext_alloc _ _))
  · have h1 := ha.ev (by rw [ho]; simp [Op.operands]) hx
    simp only [execOp, ho, h1]
    simp [hrun, Result.andThen]
  · cases hfj : f j with
    | none =>
      constructor
      · intro h; simp [hfj] at h
      · rintro ⟨e, he, hek, _⟩
        have := (hf j e.val).2 ⟨e, he, hek, rfl⟩
        rw [hfj] at this; cases this
    | some v =>
      obtain ⟨e, he, hek, _⟩ := (hf j v).1 hfj
      exact ⟨fun _ => ⟨e, he, hek, by simp⟩, fun _ => by simp [hfj]⟩
theorem EL_next {d : Nat} {it : Operand} {b r c : Nat} {f : Int → Option Value} {left : Int → Prop} (h : RngF w b r f left c) (hg : gst ops L o = some true) (hd : odst n o.dst = some d) (ho : o.op = .next it false) (hx : ev L it = some (.pointer (some ⟨r, 0, none⟩)))
    (kd : (∀ j, ¬ left j) → EL P n ops Q rest ((d, .tuple #[.bool false]) :: L) w)
    (kn : ∀ (j : Int) (v : Value) (w' : World) (c' : Nat), left j → f j = some v → RngF w' b r f (fun i => left i ∧ i ≠ j) c' → c' < c → Kb (some r) w w' → w'.heap.size = w.heap.size → (Instr.entry (.pointer (some ⟨r, 0, none⟩))).run P w' = .ok (.tuple #[int j, v]) w' → EL P n ops Q rest ((d, .tuple #[.bool true, int j, v]) :: L) w') : EL P n ops Q (o :: rest) L w := by
  have hne := h.ne
  obtain ⟨es, clock, since, seen, c0, hb, hs, hk, hf, hr, hold, hsc, hsk, rfl, hl⟩ := h
  rcases run_next_at (P := P) w o.type r b since c0 seen es clock hr hb hold hsc with ⟨h0, hrun⟩ | ⟨e, he, w1, hal, hrun⟩
  · refine EL_valw hg hd (fun ρ ha => ?_) (kd fun j hj => ?_)
    · have h1 := ha.ev (by rw [ho]; simp [Op.operands]) hx
      simp only [execOp, ho, h1]
      simp [hrun, Result.andThen]
    · obtain ⟨x, hx, _, h2⟩ := (hl j).1 hj
      rw [all_seen es seen h0 x hx] at h2; cases h2
  · obtain ⟨hem, hes⟩ := mem_left he
    obtain ⟨j, hj⟩ : ∃ j, e.key = int j := by
      have := hk e hem
      cases hk : e.key <;> rw [hk] at this <;> simp [IsKey] at this
      subst this; exact ⟨_, rfl⟩
    have hr1 : w1.heap[r]? = some (.mapIter (some b) since seen c0) := by rcases hal with rfl | rfl <;> exact hr
    have hb1 : w1.heap[b]? = some (.map es clock) := by rcases hal with rfl | rfl <;> exact hb
    have hset := heap_set (o' := .mapIter (some b) since (seen.push e.born) clock) hr1
    have hb' : (setBlock w1 r (.mapIter (some b) since (seen.push e.born) clock)).heap[b]? = some (.map es clock) := (hset.2 b (fun e1 => hne e1)).trans hb1
    refine EL_valw hg hd (fun ρ ha => ?_) (kn j e.val _ _ ((hl j).2 ⟨e, hem, hj, hes⟩) ((hf j e.val).2 ⟨e, hem, hj, rfl⟩) ⟨es, clock, since, seen.push e.born, clock, hb', hs, hk, hf, hset.1, hold, hsk, hsk, rfl, fun i => ?_⟩ (left_shrinks es seen e he) ?_ ?_ (by rw [← hj]; exact run_entry_at _ r b since seen es clock e hset.1 hb' hem hs.2.1))
    · have h1 := ha.ev (by rw [ho]; simp [Op.operands]) hx
      simp only [execOp, ho, h1]
      simp [hrun, hj, Result.andThen]
    · refine (and_congr_left fun _ => hl i).trans ?_
      constructor
      · rintro ⟨⟨x, hx, hxk, hxs⟩, hij⟩
        refine ⟨x, hx, hxk, ?_⟩
        rw [contains_push, hxs, Bool.false_or]
        cases hbb : (x.born == e.born) with
        | false => rfl
        | true =>
          have := nodup_map_inj hs.2.1 hx hem (by simpa using hbb)
          subst this
          rw [hxk] at hj
          exact absurd (by simpa using hj) hij
      · rintro ⟨x, hx, hxk, hxs⟩
        rw [contains_push] at hxs
        obtain ⟨h1, h2⟩ := Bool.or_eq_false_iff.1 hxs
        refine ⟨⟨x, hx, hxk, h1⟩, fun hij => ?_⟩
        subst hij
        have := nodup_map_inj hs.2.2 hx hem (hxk.trans hj.symm)
        subst this
        simp at h2
    · rcases hal with rfl | rfl <;> exact ⟨rfl, rfl, rfl, by simp [setBlock], fun i _ hi => hset.2 i (fun e1 => hi (by rw [e1]))⟩
    · rcases hal with rfl | rfl <;> simp [setBlock]
/-- the entry that has come -/
theorem val_entry {it : Operand} {r : Nat} {v : Value} (hen : (Instr.entry (.pointer (some ⟨r, 0, none⟩))).run P w = .ok v w) (ho : o.op = .entry it) (hx : ev L it = some (.pointer (some ⟨r, 0, none⟩))) : Val P L w o v := fun ρ ha => by
  have h1 := ha.ev (by rw [ho]; simp [Op.operands]) hx
  simp only [execOp, ho, h1]
  simp [hen, Result.andThen]
end
end Go.En
