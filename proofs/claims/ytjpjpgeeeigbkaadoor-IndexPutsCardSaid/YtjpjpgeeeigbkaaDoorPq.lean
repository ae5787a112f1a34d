/-
  A posting that came in, opened.
-/
import Derived.Test.YtjpjpgeeeigbkaaDoorPp
set_option linter.all false
namespace Go.Proofs.YtjpjpgeeeigbkaaDoor
open Go.Shelf Go.ChangeShapes Go.WideShapes Go.ChangeAt Go.RowKit Go.Lib Go.En
set_option maxRecDepth 100000 in
theorem open_post {H : Type} {enc : TypeId × Value → H} {W : World} {base : Nat} {v : Value} {d : DataW H} {ps : List MemPlace} {sp : Nat → Bool} {held : Bool} (hval : Value.okWide Tryd.prog W .any base 42 v) (h : DataW.Trod enc Tryd.prog W 0 sp held 42 v d ps) (hbd : Bd Tryd.prog 42 d) :
    ∃ (r : Int) (t : List UInt8) (pv : Value), v = .agg #[int r, str t, pv] ∧ pv.oneCell' = true := by
  obtain ⟨fs, hu⟩ : ∃ fs, Tryd.prog.underlying 42 = some (.struct fs) := ⟨_, Tryd.underlying42⟩
  obtain ⟨cs, rfl, hcs⟩ := okWide_struct hu hval
  obtain ⟨fuel, h⟩ := h
  obtain ⟨p, iv, e, hi⟩ := opens42.op h hbd
  obtain ⟨l⟩ := cs
  simp only [Value.cells] at e
  subst e
  refine ⟨p.role, p.text, iv, rfl, ?_⟩
  obtain ⟨_, _, rfl, _⟩ := hi
  rfl
end Go.Proofs.YtjpjpgeeeigbkaaDoor
