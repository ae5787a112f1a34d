/-
  Moves that came in, opened.
-/
import Derived.Test.YtjpjpgeeeigbkaaDoorPp
import Derived.Test.YtjpjpgeeeigbkaaDoorMg
set_option linter.all false
namespace Go.Proofs.YtjpjpgeeeigbkaaDoor
open Go.Shelf Go.ChangeShapes Go.WideShapes Go.ChangeAt Go.RowKit Go.Lib Go.En
set_option maxRecDepth 100000 in
theorem opens60 : Opens Tryd.prog 60 Mv := ⟨fun {H enc w sp held fuel cs x} h hbd => by
  obtain ⟨fs, hu, hfs⟩ : ∃ fs, Tryd.prog.underlying 60 = some (.struct fs) ∧ (fs.toList.map fun f => (f.type, f.offset)) = [(4, 0), (3, 1), (9, 2), (3, 3)] := ⟨_, Tryd.underlying60, by kernel_rfl⟩
  obtain ⟨hl, hf⟩ := open_struct hu hfs h hbd
  rw [show Tryd.prog.cellsOf 60 = 4 by kernel_rfl] at hl
  match cs, hl with
  | [a, b, c, d], _ =>
    obtain ⟨y0, n0, h0, _⟩ := hf 0 4 0 rfl
    obtain ⟨y1, n1, h1, _⟩ := hf 1 3 1 rfl
    obtain ⟨y2, n2, h2, _⟩ := hf 2 9 2 rfl
    obtain ⟨y3, n3, h3, _⟩ := hf 3 3 3 rfl
    rw [show Tryd.prog.cellsOf 4 = 1 by kernel_rfl] at h0
    rw [show Tryd.prog.cellsOf 3 = 1 by kernel_rfl] at h1 h3
    rw [show Tryd.prog.cellsOf 9 = 1 by kernel_rfl] at h2
    obtain ⟨p, e0, _⟩ := DataW.trod_bool Tryd.underlying4 h0
    obtain ⟨z, e1, _⟩ := DataW.trod_int Tryd.underlying3 h1
    obtain ⟨s, e2, _⟩ := DataW.trod_string Tryd.underlying9 h2
    obtain ⟨k, e3, _⟩ := DataW.trod_int Tryd.underlying3 h3
    simp at e0 e1 e2 e3
    subst e0 e1 e2 e3
    exact ⟨⟨p, z, s.data.toList, k⟩, by rw [str_of]; rfl⟩⟩
set_option maxRecDepth 100000 in
/-- moves that came in -/
theorem open_mvs {H : Type} {enc : TypeId × Value → H} {W : World} {base : Nat} {v : Value} {d : DataW H} {ps : List MemPlace} {sp : Nat → Bool} {held : Bool} (hval : Value.okWide Tryd.prog W .any base 58 v) (h : DataW.Trod enc Tryd.prog W 0 sp held 58 v d ps) (hbd : Bd Tryd.prog 58 d) :
    ∃ xs : List Mv, Sl W v xs := by
  haveI := opens60
  obtain ⟨a, n, c, rfl⟩ := okWide_slice Tryd.underlying58 hval
  obtain ⟨v', e, xs, hxs⟩ := open_slT (α := Mv) Tryd.underlying58 (by kernel_rfl) (by decide) (of_decide_eq_true (by kernel_rfl)) h hbd
  simp [Value.cells] at e
  subst e
  exact ⟨xs, hxs⟩
end Go.Proofs.YtjpjpgeeeigbkaaDoor
