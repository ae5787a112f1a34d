/-
  What the rows of the seat share: the two tables, an index opened.
-/
import Derived.Test.YtjpjpgeeeigbkaaDoorCards
import Derived.Test.YtjpjpgeeeigbkaaDoorTie
import Derived.Test.YtjpjpgeeeigbkaaDoorPh
import Derived.Test.YtjpjpgeeeigbkaaDoorO
import Derived.Test.YtjpjpgeeeigbkaaDoorMa
import Derived.Lib.LaidIn
import Derived.Lib.LaidU8T
import Derived.PinnedBridge
import Derived.Deep.DeepHandedRow
import Derived.Deep.DeepWitnessRowRef
import Derived.ProofKit
import Derived.SizedLaws
import Derived.OpenShut
set_option linter.all false
namespace Go.Proofs.YtjpjpgeeeigbkaaDoor
open Go.Shelf Go.ChangeShapes Go.WideShapes Go.ChangeAt Go.RowKit Go.Lib Go.En
open Go.ChangeMaps (open_string shut_string)

theorem own : ownKnob Tryd.prog.godebug = none := by kernel_rfl
theorem laidOut : laidOutB Tryd.prog = true := by kernel_rfl
/-- THE WITNESS's world: the two variables hold what their initialisers lay. -/
noncomputable def laidWorld (os : Os) : World :=
  let w0 := World.holding Tryd.prog os ⟨#[], #[], []⟩
  let put (h : Array Obj) (g : Nat) (cs : Array Value) : Array Obj := h.modify g fun
    | .cells _ t frozen => .cells cs t frozen
    | o => o
  let h1 := put w0.heap 0 (Lib.firstTab.map fun z => Value.int .u8 z).toArray
  let h2 := put h1 1 ((List.range 16).flatMap fun i => [Value.int .u8 (Lib.accLo i), Value.int .u8 (Lib.accHi i)]).toArray
  { w0 with heap := h2 }
theorem first_eq : Rows.laid_unicode_utf8_first = Lib.firstData := Pinned.utf8First_eq
theorem accept_eq : (Rows.laid_unicode_utf8_acceptRanges : DataW Unit) = Lib.acceptData := by kernel_rfl
set_option maxRecDepth 100000 in
theorem laid_tabs {W : World} (hL : laidMetH Tryd.prog Rows.indexChecksRow.laid W) : Tabs W := by
  have hL' : laidMet Tryd.prog Rows.indexChecksRow.laid W := hL
  have h1 := Lib.laidMet.reads hL' (.head _)
  have h2 := Lib.laidMet.reads hL' (.tail _ (.head _))
  rw [accept_eq] at h1
  rw [first_eq] at h2
  exact utf8Tabs_of_readsT (U8Types.of196 Tryd.laysValid) ⟨by kernel_rfl, by kernel_rfl, by kernel_rfl, by kernel_rfl, by kernel_rfl, by kernel_rfl, by kernel_rfl⟩ h2 h1
theorem opens3 : Opens Tryd.prog 3 Int := ⟨fun h _ => by
  obtain ⟨z, rfl, _⟩ := DataW.trod_int Tryd.underlying3 h
  exact ⟨z, rfl⟩⟩
set_option maxRecDepth 100000 in
theorem opens42 : Opens Tryd.prog 42 Post := ⟨fun {H enc w sp held fuel cs x} h hbd => by
  obtain ⟨fs, hu, hfs⟩ : ∃ fs, Tryd.prog.underlying 42 = some (.struct fs) ∧ (fs.toList.map fun f => (f.type, f.offset)) = [(3, 0), (9, 1), (30, 2)] := ⟨_, Tryd.underlying42, by kernel_rfl⟩
  obtain ⟨hl, hf⟩ := open_struct hu hfs h hbd
  rw [show Tryd.prog.cellsOf 42 = 3 by kernel_rfl] at hl
  match cs, hl with
  | [a, b, c], _ =>
    obtain ⟨y0, n0, h0, _⟩ := hf 0 3 0 rfl
    obtain ⟨y1, n1, h1, _⟩ := hf 1 9 1 rfl
    obtain ⟨y2, n2, h2, hb2⟩ := hf 2 30 2 rfl
    rw [show Tryd.prog.cellsOf 3 = 1 by kernel_rfl] at h0
    rw [show Tryd.prog.cellsOf 9 = 1 by kernel_rfl] at h1
    rw [show Tryd.prog.cellsOf 30 = 1 by kernel_rfl] at h2
    obtain ⟨z, e0, _⟩ := DataW.trod_int Tryd.underlying3 h0
    obtain ⟨s, e1, _⟩ := DataW.trod_string Tryd.underlying9 h1
    haveI := opens3
    obtain ⟨v, e2, ids, hids⟩ := open_sl (α := Int) Tryd.underlying30 (by kernel_rfl) (by decide) (of_decide_eq_true (by kernel_rfl)) h2 hb2
    simp at e0 e1 e2
    subst e0 e1 e2
    exact ⟨⟨z, s.data.toList, ids⟩, c, by rw [← str_of], hids⟩⟩
set_option maxRecDepth 100000 in
/-- an index that came in -/
theorem open_ix {H : Type} {enc : TypeId × Value → H} {W : World} {base : Nat} {v : Value} {d : DataW H} {ps : List MemPlace} {sp : Nat → Bool} {held : Bool} (hval : Value.okWide Tryd.prog W .any base 24 v) (h : DataW.Trod enc Tryd.prog W 0 sp held 24 v d ps) (hbd : Bd Tryd.prog 24 d) :
    ∃ s, v = .agg #[s] ∧ ∃ xs : List Post, Sl W s xs := by
  obtain ⟨fs, hu, hfs⟩ : ∃ fs, Tryd.prog.underlying 24 = some (.struct fs) ∧ (fs.toList.map fun f => (f.type, f.offset)) = [(22, 0)] := ⟨_, Tryd.underlying24, by kernel_rfl⟩
  obtain ⟨cs, rfl, hcs⟩ := okWide_struct hu hval
  obtain ⟨fuel, h⟩ := h
  obtain ⟨hl, hf⟩ := open_struct hu hfs h hbd
  rw [show Tryd.prog.cellsOf 24 = 1 by kernel_rfl] at hcs
  obtain ⟨l⟩ := cs
  match l, hcs with
  | [a], _ =>
    obtain ⟨y0, n0, h0, hb0⟩ := hf 0 22 0 rfl
    rw [show Tryd.prog.cellsOf 22 = 1 by kernel_rfl] at h0
    haveI := opens42
    obtain ⟨v, e, xs, hxs⟩ := open_sl (α := Post) Tryd.underlying22 (by kernel_rfl) (by decide) (of_decide_eq_true (by kernel_rfl)) h0 hb0
    simp [Value.cells] at e
    subst e
    exact ⟨_, rfl, xs, hxs⟩
end Go.Proofs.YtjpjpgeeeigbkaaDoor
