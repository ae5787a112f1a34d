/-
  Trees that lie in memory (queries): a struct whose last field is a slice of its own kind.
-/
import Derived.Test.YtnifmbbpfdghmaaGreatDoorY1
set_option linter.all false
namespace Go.En
open Go.RowKit
inductive Qy where
  | mk (op role : Int) (text : List UInt8) (kids : List Qy)
def Qy.op : Qy → Int | .mk o _ _ _ => o
def Qy.role : Qy → Int | .mk _ r _ _ => r
def Qy.text : Qy → List UInt8 | .mk _ _ t _ => t
def Qy.kids : Qy → List Qy | .mk _ _ _ k => k
mutual
def Qy.lies (G : Nat → Prop) (w : World) : Qy → List Value → Prop
  | .mk op role text kids, cs => ∃ a cap, cs = [int op, int role, str text, .slice a kids.length cap] ∧ kids.length ≤ cap ∧ kids.length ≤ 140737488355328 ∧
      (0 < kids.length → ∃ b off, a = some ⟨b, off, none⟩ ∧ G b ∧ ∃ css, Qy.liesAll G w kids css ∧ At w b off css.flatten)
def Qy.liesAll (G : Nat → Prop) (w : World) : List Qy → List (List Value) → Prop
  | [], [] => True
  | q :: qs, c :: cs => Qy.lies G w q c ∧ Qy.liesAll G w qs cs
  | _, _ => False
end
theorem Qy.lies_len {G : Nat → Prop} {w : World} {q : Qy} {cs : List Value} (h : Qy.lies G w q cs) : cs.length = 4 := by
  cases q
  unfold Qy.lies at h
  obtain ⟨a, cap, rfl, _⟩ := h
  rfl
theorem Qy.liesAll_len {G : Nat → Prop} {w : World} : ∀ {qs : List Qy} {css : List (List Value)}, Qy.liesAll G w qs css → css.length = qs.length ∧ ∀ c ∈ css, c.length = 4
  | [], [], _ => by simp
  | [], _ :: _, h => by unfold Qy.liesAll at h; exact h.elim
  | _ :: _, [], h => by unfold Qy.liesAll at h; exact h.elim
  | q :: qs, c :: css, h => by
    unfold Qy.liesAll at h
    obtain ⟨h1, h2⟩ := Qy.liesAll_len h.2
    exact ⟨by simp [h1], fun x hx => by
      rcases List.mem_cons.1 hx with rfl | hx
      · exact Qy.lies_len h.1
      · exact h2 x hx⟩
mutual
theorem Qy.lies_move {G G' : Nat → Prop} {w w' : World} (hm : ∀ b, G b → b < w.heap.size → G' b ∧ w'.heap[b]? = w.heap[b]?) : ∀ (q : Qy) (cs : List Value), Qy.lies G w q cs → Qy.lies G' w' q cs
  | .mk op role text kids, cs, h => by
    unfold Qy.lies at h ⊢
    obtain ⟨a, cap, hcs, hc, hl, hp⟩ := h
    refine ⟨a, cap, hcs, hc, hl, fun h0 => ?_⟩
    obtain ⟨b, off, ha, hg, css, h1, h2⟩ := hp h0
    obtain ⟨l1, l2⟩ := Qy.liesAll_len h1
    have hlt := h2.lt (by rw [flat_len2 l2, l1]; omega)
    exact ⟨b, off, ha, (hm b hg hlt).1, css, Qy.liesAll_move hm kids css h1, h2.same (hm b hg hlt).2⟩
theorem Qy.liesAll_move {G G' : Nat → Prop} {w w' : World} (hm : ∀ b, G b → b < w.heap.size → G' b ∧ w'.heap[b]? = w.heap[b]?) : ∀ (qs : List Qy) (css : List (List Value)), Qy.liesAll G w qs css → Qy.liesAll G' w' qs css
  | [], [], _ => by unfold Qy.liesAll; trivial
  | [], _ :: _, h => by unfold Qy.liesAll at h; exact h.elim
  | _ :: _, [], h => by unfold Qy.liesAll at h; exact h.elim
  | q :: qs, c :: css, h => by
    unfold Qy.liesAll at h ⊢
    exact ⟨Qy.lies_move hm q c h.1, Qy.liesAll_move hm qs css h.2⟩
end
instance : Rep Qy where
  sz := 4
  pos := by decide
  at_ := Qy.lies
  len h := Qy.lies_len h
  one {G w q cs} h := by
    cases q
    unfold Qy.lies at h
    obtain ⟨a, cap, rfl, _⟩ := h
    rfl
  move {G G' w w' q cs} h hm := Qy.lies_move hm q cs h
theorem liesAll_iff {G : Nat → Prop} {w : World} : ∀ {qs : List Qy} {css : List (List Value)}, Qy.liesAll G w qs css ↔ AtsG G w qs css
  | [], [] => by unfold Qy.liesAll; exact ⟨fun _ => trivial, fun _ => trivial⟩
  | [], _ :: _ => by unfold Qy.liesAll; exact ⟨fun h => h.elim, fun h => h.elim⟩
  | _ :: _, [] => by unfold Qy.liesAll; exact ⟨fun h => h.elim, fun h => h.elim⟩
  | q :: qs, c :: css => by
    unfold Qy.liesAll
    exact ⟨fun h => ⟨h.1, liesAll_iff.1 h.2⟩, fun h => ⟨h.1, liesAll_iff.2 h.2⟩⟩
/-- the cells of a query: its numbers, its text, its Kids -/
theorem qy_cells {G : Nat → Prop} {w : World} {q : Qy} {cs : List Value} (h : Rep.at_ G w q cs) : ∃ v, cs = [int q.op, int q.role, str q.text, v] ∧ SlG G w v q.kids := by
  cases q with
  | mk op role text kids =>
    have h1 : Qy.lies G w (.mk op role text kids) cs := h
    unfold Qy.lies at h1
    obtain ⟨a, cap, rfl, hc, hl, hp⟩ := h1
    refine ⟨_, rfl, a, cap, rfl, hc, hl, fun h0 => ?_⟩
    obtain ⟨b, off, ha, hg, css, h2, h3⟩ := hp h0
    exact ⟨b, off, ha, hg, css, liesAll_iff.1 h2, h3⟩
theorem qy_of {G : Nat → Prop} {w : World} {op role : Int} {text : List UInt8} {kids : List Qy} {v : Value} (h : SlG G w v kids) : Rep.at_ G w (Qy.mk op role text kids) [int op, int role, str text, v] := by
  show Qy.lies G w (.mk op role text kids) _
  unfold Qy.lies
  obtain ⟨a, cap, rfl, hc, hl, hp⟩ := h
  refine ⟨a, cap, rfl, hc, hl, fun h0 => ?_⟩
  obtain ⟨b, off, ha, hg, css, h2, h3⟩ := hp h0
  exact ⟨b, off, ha, hg, css, liesAll_iff.2 h2, h3⟩
theorem open_structF {H : Type} {enc : TypeId × Value → H} {P : Program} {w : World} {sp : Nat → Bool} {held : Bool} {fuel : Nat} {t : TypeId} {fs : Array Field} {tos : List (TypeId × Nat)} {cs : List Value} {x : DataW H × List MemPlace}
    (hu : P.underlying t = some (.struct fs)) (hfs : (fs.toList.map fun f => (f.type, f.offset)) = tos) (h : DataW.trod enc P w 0 sp held fuel t cs = some x) (hbd : Bd P t x.1) :
    cs.length = P.cellsOf t ∧ ∀ (i : Nat) (ty off : Nat), tos[i]? = some (ty, off) → ∃ y n, fuel = n + 1 ∧ DataW.trod enc P w 0 sp held n ty ((cs.drop off).take (P.cellsOf ty)) = some y ∧ Bd P ty y.1 := by
  obtain ⟨xs, n, hfu, rfl, hl, hlen, hf⟩ := DataW.trod_struct hu h
  refine ⟨hl, fun i ty off hi => ?_⟩
  subst hfs
  rw [List.getElem?_map, Array.getElem?_toList] at hi
  cases hfi : fs[i]? with
  | none => rw [hfi] at hi; cases hi
  | some f =>
    rw [hfi] at hi
    simp only [Option.map_some, Option.some.injEq, Prod.mk.injEq] at hi
    obtain ⟨rfl, rfl⟩ := hi
    have hlt := (Array.getElem?_eq_some_iff.1 hfi).1
    obtain ⟨y, hy⟩ : ∃ y, xs[i]? = some y := ⟨_, List.getElem?_eq_getElem (by omega)⟩
    refine ⟨y, n, hfu, by rw [hf i f hfi, hy], ?_⟩
    simp only [Bd, DataW.weights, hu] at hbd
    exact bd_each hbd (j := i) (by rw [List.getElem?_map, Array.getElem?_toList, hfi]; rfl) (by rw [List.getElem?_map, hy]; rfl)
theorem open_slF {α : Type} [Rep α] {H : Type} {enc : TypeId × Value → H} {P : Program} {w : World} {sp : Nat → Bool} {held : Bool} {fuel : Nat} {t e : TypeId} {cs : List Value} {x : DataW H × List MemPlace}
    (hO : ∀ (n : Nat) (cs : List Value) (x : DataW H × List MemPlace), fuel = n + 1 → DataW.trod enc P w 0 sp held n e cs = some x → Bd P e x.1 → ∃ a : α, Rep.at_ Tt w a cs) (ht : P.underlying t = some (.slice e)) (hc : P.cellsOf e = Rep.sz α) (hz : 0 < Rep.sz α) (hb : 1 ≤ P.bytesOf e) (h : DataW.trod enc P w 0 sp held fuel t cs = some x) (hbd : Bd P t x.1) : ∃ v, cs = [v] ∧ ∃ xs : List α, Sl w v xs := by
  rcases DataW.trod_slice ht h with ⟨rfl, _⟩ | ⟨a, len, cap, elems, rest, n, hfu, rfl, rfl, _, hl, _, hlen, hel, _⟩
  · exact ⟨_, rfl, [], SlG.nil⟩
  refine ⟨_, rfl, ?_⟩
  simp only [Bd, DataW.weights, ht, List.all_cons, List.all_append, Bool.and_eq_true, decide_eq_true_eq, List.length_map] at hbd
  obtain ⟨hw1, hw2, _⟩ := hbd
  have hlm : len ≤ 140737488355328 := by
    have h1 := reachBytes_lt
    have h2 : elems.length * 1 ≤ (elems.length + rest.length) * P.bytesOf e := Nat.mul_le_mul (by omega) hb
    omega
  have key : ∀ i, i < len → ∃ c x, w.cells? 0 (a.add (i * P.cellsOf e)) (P.cellsOf e) = some c ∧ Rep.at_ Tt w (x : α) c := fun i hi => by
    have h1 := hel i hi
    obtain ⟨y, hy⟩ : ∃ y, elems[i]? = some y := ⟨_, List.getElem?_eq_getElem (by omega)⟩
    rw [hy, Option.bind_eq_some_iff] at h1
    obtain ⟨c, hc1, hc2⟩ := h1
    obtain ⟨x, hx⟩ := hO n _ _ hfu hc2 (weightsAll_mem hw2 y.1 (List.mem_map.2 ⟨y, List.mem_of_getElem? hy, rfl⟩))
    exact ⟨c, x, hc1, hx⟩
  by_cases h0 : len = 0
  · subst h0
    exact ⟨[], some a, cap, rfl, by simp, by simp, fun h => absurd h (by simp)⟩
  have hsp : a = ⟨a.block, a.off, none⟩ := by
    obtain ⟨c, x, hc1, _⟩ := key 0 (by omega)
    unfold World.cells? at hc1
    rw [if_pos (Nat.zero_le _)] at hc1
    have hlc := mapM_some_length hc1
    rw [List.length_range, hc] at hlc
    obtain ⟨v, hv⟩ : ∃ v, c[0]? = some v := ⟨_, List.getElem?_eq_getElem (by omega)⟩
    have := mapM_some_get hc1 0 0 (List.getElem?_range (by omega))
    rw [hv] at this
    simp only [Nat.zero_mul, show ∀ a : Addr, a.add 0 = a from fun a => by simp [Addr.add]] at this
    exact cell_spot this
  have all : ∀ k, k ≤ len → ∃ (xs : List α) (css : List (List Value)), xs.length = k ∧ Ats w xs css ∧ At w a.block a.off css.flatten := by
    intro k
    induction k with
    | zero => exact fun _ => ⟨[], [], rfl, trivial, fun j v hv => by simp at hv⟩
    | succ k ih =>
      intro hk
      obtain ⟨xs, css, h1, h2, h3⟩ := ih (by omega)
      obtain ⟨c, x, hc1, hx⟩ := key k (by omega)
      rw [hsp, addr_add] at hc1
      obtain ⟨_, h4⟩ := cells_at hc1
      refine ⟨xs ++ [x], css ++ [c], by simp [h1], AllAt.append h2 (AllAt.one hx), ?_⟩
      rw [List.flatten_append]
      refine At.join h3 ?_
      rw [AtsG.flat h2, h1, ← hc]
      simpa using h4
  obtain ⟨xs, css, h1, h2, h3⟩ := all len (Nat.le_refl _)
  exact ⟨xs, some a, cap, by rw [h1], by omega, by omega, fun _ => ⟨a.block, a.off, by rw [← hsp], trivial, css, h2, h3⟩⟩
theorem opens_qy {P : Program} {tq tk ti ts : TypeId} {fs : Array Field} (hu : P.underlying tq = some (.struct fs)) (hfs : (fs.toList.map fun f => (f.type, f.offset)) = [(ti, 0), (ti, 1), (ts, 2), (tk, 3)])
    (hi : P.underlying ti = some (.int .i64)) (hs : P.underlying ts = some .string) (hk : P.underlying tk = some (.slice tq)) (ci : P.cellsOf ti = 1) (cs : P.cellsOf ts = 1) (ck : P.cellsOf tk = 1) (cq : P.cellsOf tq = 4) (hb : 1 ≤ P.bytesOf tq) : Opens P tq Qy := ⟨by
  intro H enc w sp held fuel
  induction fuel using Nat.strongRecOn with
  | _ fuel ih =>
    intro c x h hbd
    obtain ⟨hl, hf⟩ := open_structF hu hfs h hbd
    rw [cq] at hl
    match c, hl with
    | [a, b, c, d], _ =>
      obtain ⟨y0, n0, _, h0, _⟩ := hf 0 ti 0 rfl
      obtain ⟨y1, n1, _, h1, _⟩ := hf 1 ti 1 rfl
      obtain ⟨y2, n2, _, h2, _⟩ := hf 2 ts 2 rfl
      obtain ⟨y3, n3, hfu, h3, hb3⟩ := hf 3 tk 3 rfl
      rw [ci] at h0 h1
      rw [cs] at h2
      rw [ck] at h3
      obtain ⟨z0, e0, _⟩ := DataW.trod_int hi h0
      obtain ⟨z1, e1, _⟩ := DataW.trod_int hi h1
      obtain ⟨s, e2, _⟩ := DataW.trod_string hs h2
      obtain ⟨v, e3, ks, hks⟩ := open_slF (α := Qy) (fun n c x hn hx hbx => ih n (by omega) hx hbx) hk cq (by decide) hb h3 hb3
      simp at e0 e1 e2 e3
      subst e0 e1 e2 e3
      refine ⟨.mk z0 z1 s.data.toList ks, ?_⟩
      have := qy_of (op := z0) (role := z1) (text := s.data.toList) hks
      rw [← str_of] at this
      exact this⟩
end Go.En
