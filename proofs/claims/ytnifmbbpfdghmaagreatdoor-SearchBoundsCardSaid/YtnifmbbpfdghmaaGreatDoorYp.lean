/-
  What the rows of the seat share: the two tables; documents, lists, queries that came in, opened. What the rows of search share: indexes and lists of documents that came in, opened.
-/
import Derived.Test.YtnifmbbpfdghmaaGreatDoorCards
import Derived.Test.YtnifmbbpfdghmaaGreatDoorTie
import Derived.Test.YtnifmbbpfdghmaaGreatDoorYj
import Derived.Test.YtnifmbbpfdghmaaGreatDoorY1
import Derived.Test.YtnifmbbpfdghmaaGreatDoorY7
import Derived.Test.YtnifmbbpfdghmaaGreatDoorNh
import Derived.Lib.LaidIn
import Derived.Lib.LaidU8T
import Derived.PinnedBridge
import Derived.Deep.DeepHandedRow
import Derived.Deep.DeepWitnessRowRef
import Derived.ProofKit
import Derived.SizedLaws
import Derived.OpenShut
import Derived.Test.YtnifmbbpfdghmaaGreatDoorYn
set_option linter.all false
namespace Go.Proofs.YtnifmbbpfdghmaaGreatDoor
open Go.Shelf Go.ChangeShapes Go.WideShapes Go.ChangeAt Go.RowKit Go.Lib Go.En
open Go.ChangeMaps (open_string shut_string)

theorem own : ownKnob Tryz.prog.godebug = none := by kernel_rfl
theorem laidOut : laidOutB Tryz.prog = true := by kernel_rfl
/-- THE WITNESS's world: the two variables hold what their initialisers lay. -/
noncomputable def laidWorld (os : Os) : World :=
  let w0 := World.holding Tryz.prog os ⟨#[], #[], []⟩
  let put (h : Array Obj) (g : Nat) (cs : Array Value) : Array Obj := h.modify g fun
    | .cells _ t frozen => .cells cs t frozen
    | o => o
  let h1 := put w0.heap 0 (Lib.firstTab.map fun z => Value.int .u8 z).toArray
  let h2 := put h1 1 ((List.range 16).flatMap fun i => [Value.int .u8 (Lib.accLo i), Value.int .u8 (Lib.accHi i)]).toArray
  { w0 with heap := h2 }
theorem first_eq : Rows.laid_unicode_utf8_first = Lib.firstData := Pinned.utf8First_eq
theorem accept_eq : (Rows.laid_unicode_utf8_acceptRanges : DataW Unit) = Lib.acceptData := by kernel_rfl
set_option maxRecDepth 100000 in
theorem laid_tabs {W : World} (hL : laidMetH Tryz.prog Rows.matchThenRow.laid W) : Tabs W := by
  have hL' : laidMet Tryz.prog Rows.matchThenRow.laid W := hL
  have h1 := Lib.laidMet.reads hL' (.head _)
  have h2 := Lib.laidMet.reads hL' (.tail _ (.head _))
  rw [accept_eq] at h1
  rw [first_eq] at h2
  exact utf8Tabs_of_readsT (U8Types.of196 Tryz.laysValid) ⟨by kernel_rfl, by kernel_rfl, by kernel_rfl, by kernel_rfl, by kernel_rfl, by kernel_rfl, by kernel_rfl⟩ h2 h1
theorem opens3 : Opens Tryz.prog 3 Int := ⟨fun h _ => by
  obtain ⟨z, rfl, _⟩ := DataW.trod_int Tryz.underlying3 h
  exact ⟨z, rfl⟩⟩
/-- a tier whose name is no longer than a string can be -/
structure TierB where
  t : Tier
  h : t.name.length ≤ 9223372036854775807
instance : Rep TierB where
  sz := 4
  pos := by decide
  at_ _ _ b cs := cs = tierC b.t
  len h := by rw [h]; rfl
  one h := by rw [h]; rfl
  move h _ := h
set_option maxRecDepth 100000 in
theorem opens36 : Opens Tryz.prog 36 Qy := by
  obtain ⟨fs, hu, hfs⟩ : ∃ fs, Tryz.prog.underlying 36 = some (.struct fs) ∧ (fs.toList.map fun f => (f.type, f.offset)) = [(3, 0), (3, 1), (9, 2), (34, 3)] := ⟨_, Tryz.underlying36, by kernel_rfl⟩
  exact opens_qy hu hfs Tryz.underlying3 Tryz.underlying9 Tryz.underlying34 (by kernel_rfl) (by kernel_rfl) (by kernel_rfl) (by kernel_rfl) (of_decide_eq_true (by kernel_rfl))
set_option maxRecDepth 100000 in
/-- a query that came in -/
theorem open_q {H : Type} {enc : TypeId × Value → H} {W : World} {base : Nat} {v : Value} {d : DataW H} {ps : List MemPlace} {sp : Nat → Bool} {held : Bool} (hval : Value.okWide Tryz.prog W .any base 36 v) (h : DataW.Trod enc Tryz.prog W 0 sp held 36 v d ps) (hbd : Bd Tryz.prog 36 d) :
    ∃ q : Qy, QAt W v q := by
  obtain ⟨fs, hu, hfs⟩ : ∃ fs, Tryz.prog.underlying 36 = some (.struct fs) ∧ (fs.toList.map fun f => (f.type, f.offset)) = [(3, 0), (3, 1), (9, 2), (34, 3)] := ⟨_, Tryz.underlying36, by kernel_rfl⟩
  obtain ⟨cs, rfl, hcs⟩ := okWide_struct hu hval
  obtain ⟨fuel, h⟩ := h
  obtain ⟨q, hq⟩ := opens36.op h hbd
  obtain ⟨kv, e, hk⟩ := qy_cells hq
  refine ⟨q, kv, ?_, hk⟩
  obtain ⟨l⟩ := cs
  have e' : l = [int q.op, int q.role, str q.text, kv] := e
  rw [e']
end Go.Proofs.YtnifmbbpfdghmaaGreatDoor
namespace Go.Proofs.YtnifmbbpfdghmaaGreatDoor
open Go.Shelf Go.ChangeShapes Go.WideShapes Go.ChangeAt Go.RowKit Go.Lib Go.En
open Go.ChangeMaps (open_string shut_string)
set_option maxRecDepth 100000 in
theorem opens102 : Opens Tryz.prog 102 Ix.Post := ⟨fun {H enc w sp held fuel cs x} h hbd => by
  obtain ⟨fs, hu, hfs⟩ : ∃ fs, Tryz.prog.underlying 102 = some (.struct fs) ∧ (fs.toList.map fun f => (f.type, f.offset)) = [(3, 0), (9, 1), (22, 2)] := ⟨_, Tryz.underlying102, by kernel_rfl⟩
  obtain ⟨hl, hf⟩ := open_struct hu hfs h hbd
  rw [show Tryz.prog.cellsOf 102 = 3 by kernel_rfl] at hl
  match cs, hl with
  | [a, b, c], _ =>
    obtain ⟨y0, n0, h0, _⟩ := hf 0 3 0 rfl
    obtain ⟨y1, n1, h1, _⟩ := hf 1 9 1 rfl
    obtain ⟨y2, n2, h2, hb2⟩ := hf 2 22 2 rfl
    rw [show Tryz.prog.cellsOf 3 = 1 by kernel_rfl] at h0
    rw [show Tryz.prog.cellsOf 9 = 1 by kernel_rfl] at h1
    rw [show Tryz.prog.cellsOf 22 = 1 by kernel_rfl] at h2
    obtain ⟨z, e0, _⟩ := DataW.trod_int Tryz.underlying3 h0
    obtain ⟨s, e1, _⟩ := DataW.trod_string Tryz.underlying9 h1
    haveI := opens3
    obtain ⟨v, e2, ids, hids⟩ := open_sl (α := Int) Tryz.underlying22 (by kernel_rfl) (by decide) (of_decide_eq_true (by kernel_rfl)) h2 hb2
    simp at e0 e1 e2
    subst e0 e1 e2
    exact ⟨⟨z, s.data.toList, ids⟩, c, by rw [← str_of], hids⟩⟩
set_option maxRecDepth 100000 in
/-- an index that came in -/
theorem open_ix {H : Type} {enc : TypeId × Value → H} {W : World} {base : Nat} {v : Value} {d : DataW H} {ps : List MemPlace} {sp : Nat → Bool} {held : Bool} (hval : Value.okWide Tryz.prog W .any base 49 v) (h : DataW.Trod enc Tryz.prog W 0 sp held 49 v d ps) (hbd : Bd Tryz.prog 49 d) :
    ∃ s, v = .agg #[s] ∧ ∃ xs : List Ix.Post, Sl W s xs := by
  obtain ⟨fs, hu, hfs⟩ : ∃ fs, Tryz.prog.underlying 49 = some (.struct fs) ∧ (fs.toList.map fun f => (f.type, f.offset)) = [(47, 0)] := ⟨_, Tryz.underlying49, by kernel_rfl⟩
  obtain ⟨cs, rfl, hcs⟩ := okWide_struct hu hval
  obtain ⟨fuel, h⟩ := h
  obtain ⟨hl, hf⟩ := open_struct hu hfs h hbd
  rw [show Tryz.prog.cellsOf 49 = 1 by kernel_rfl] at hcs
  obtain ⟨l⟩ := cs
  match l, hcs with
  | [a], _ =>
    obtain ⟨y0, n0, h0, hb0⟩ := hf 0 47 0 rfl
    rw [show Tryz.prog.cellsOf 47 = 1 by kernel_rfl] at h0
    haveI := opens102
    obtain ⟨v, e, xs, hxs⟩ := open_sl (α := Ix.Post) Tryz.underlying47 (by kernel_rfl) (by decide) (of_decide_eq_true (by kernel_rfl)) h0 hb0
    simp [Value.cells] at e
    subst e
    exact ⟨a, rfl, xs, hxs⟩
/-- a document whose tiers' names are no longer than a string can be -/
structure DcB where
  d : Dc
  h : Names d
instance : Rep DcB where
  sz := 7
  pos := by decide
  at_ G w x cs := Rep.at_ G w x.d cs
  len h := Rep.len h
  one h := Rep.one h
  move h hm := Rep.move h hm
end Go.Proofs.YtnifmbbpfdghmaaGreatDoor
