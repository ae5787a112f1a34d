/-
  Arguments of a row: structs opened.
-/
import Derived.Test.YtjpjpgeeeigbkaaDoorG
set_option linter.all false
namespace Go.En
open Go.RowKit
theorem bd_each {H : Type} {P : Program} {ts : List TypeId} {ds : List (DataW H)} (h : (DataW.weightsEach P ts ds).all (· ≤ reachBytes) = true) {j : Nat} {t : TypeId} {d : DataW H} (ht : ts[j]? = some t) (hd : ds[j]? = some d) : Bd P t d :=
  List.all_eq_true.2 fun n hn => List.all_eq_true.1 h n (DataW.weights_mem_each ht hd n hn)
theorem open_struct {H : Type} {enc : TypeId × Value → H} {P : Program} {w : World} {sp : Nat → Bool} {held : Bool} {fuel : Nat} {t : TypeId} {fs : Array Field} {tos : List (TypeId × Nat)} {cs : List Value} {x : DataW H × List MemPlace}
    (hu : P.underlying t = some (.struct fs)) (hfs : (fs.toList.map fun f => (f.type, f.offset)) = tos) (h : DataW.trod enc P w 0 sp held fuel t cs = some x) (hbd : Bd P t x.1) :
    cs.length = P.cellsOf t ∧ ∀ (i : Nat) (ty off : Nat), tos[i]? = some (ty, off) → ∃ y n, DataW.trod enc P w 0 sp held n ty ((cs.drop off).take (P.cellsOf ty)) = some y ∧ Bd P ty y.1 := by
  obtain ⟨xs, n, _, rfl, hl, hlen, hf⟩ := DataW.trod_struct hu h
  refine ⟨hl, fun i ty off hi => ?_⟩
  subst hfs
  rw [List.getElem?_map, Array.getElem?_toList] at hi
  cases hfi : fs[i]? with
  | none => rw [hfi] at hi; cases hi
  | some f =>
    rw [hfi] at hi
    simp only [Option.map_some, Option.some.injEq, Prod.mk.injEq] at hi
    obtain ⟨rfl, rfl⟩ := hi
    have hlt := (Array.getElem?_eq_some_iff.1 hfi).1
    obtain ⟨y, hy⟩ : ∃ y, xs[i]? = some y := ⟨_, List.getElem?_eq_getElem (by omega)⟩
    refine ⟨y, n, by rw [hf i f hfi, hy], ?_⟩
    simp only [Bd, DataW.weights, hu] at hbd
    exact bd_each hbd (j := i) (by rw [List.getElem?_map, Array.getElem?_toList, hfi]; rfl) (by rw [List.getElem?_map, hy]; rfl)
theorem str_of (s : ByteArray) : Value.string s = str s.data.toList := by cases s; simp [str]
end Go.En
