/-
  Walks of the layers runes and pattern.
-/
import Derived.RangeFuncNested
import Derived.RangeFuncBound
import Derived.RangeFuncCalls
import Derived.RangeFuncLeaves
import Derived.Shelf.Abstract
import Derived.Shelf.RegionOpen
import Derived.WalkKit
import Derived.OwnWalkIn
import Derived.TacticsInMore
import Derived.LoopNIn
import Derived.LoopIn
import Derived.Maps.AppendAt
import Derived.Lib.OthersKept
import Derived.Test.YtnifmbbpfdghmaaGreatDoorY2
set_option linter.all false
namespace Go.Proofs.YtnifmbbpfdghmaaGreatDoor
open Go.RowKit Go.Shelf Go.Lib
attribute [local go_sem] Oper.semAt_some

def enc2 (x : Int × Int) : Array Value := #[.int .i64 x.1, .int .i64 x.2]
theorem iterAt_grown (w : World) (k : Nat) (s : ByteArray) (p : Nat) : w.grownBy (w.iterAt k s p) (some k) :=
  ⟨rfl, rfl, rfl, by rw [Lib.iterAt_size]; exact Nat.le_refl _, fun b _ hne => Lib.iterAt_other w k b s p (fun e => hne (by rw [e]))⟩

set_option maxRecDepth 100000 in
set_option maxHeartbeats 1000000 in
theorem scalars1_in (n : Nat) (hn : 1 ≤ n) (lv Bn : Nat) (l : List UInt8) (zs : List Nat) (hp : points l = some zs) (J Jx : List (Int × Int) → World → Prop) (W : World) (hJ : AbidesFrom W.heap.size J)
    (hY : ∀ pre x W1, J pre W1 → pre.length < zs.length → YieldAt Fence.wide (n - 1) Tryz.prog lv (enc2 x) W1 fun e W' =>
      (e = .returned (.bool true) ∧ J (pre ++ [x]) W' ∧ KeepsWalks W1 W') ∨ (e = .returned (.bool false) ∧ Jx (pre ++ [x]) W'))
    (hBn : W.cell? ⟨Bn, 0, none⟩ = some (.string ⟨l.toArray⟩)) (h0 : J [] W) :
    CallsIn Fence.wide n Tryz.prog 177 #[.func (.yield lv) #[] #[], .pointer (some ⟨Bn, 0, none⟩)] W fun e W' => (∃ v, e = .returned v) ∧
      ((∃ ys, ys.map (·.2) = zs.map Int.ofNat ∧ J ys W') ∨ (∃ pre, True ∧ Jx pre W')) := by
  refine callsIn_of_wp Tryz.func177 rfl trivial ?_ rfl
  simp only [Tryz.ntmps177, List.size_toArray, List.length_cons, List.length_nil, Nat.reduceAdd, Nat.reduceSub, Array.replicate_succ, Array.replicate_zero, List.push_toArray, List.append_toArray, List.nil_append, List.cons_append]
  gi_wp2
  have hsz : (ByteArray.mk l.toArray).size = l.length := by simp [ByteArray.size]
  gi_loopw [] (fun wr => ∃ (pos : Nat) (pre : List (Int × Int)) (rest : List Nat), wr.heap[W.heap.size]? = some (.stringIter ⟨l.toArray⟩ pos) ∧ pos ≤ l.length ∧ points (l.drop pos) = some rest ∧ pre.map (·.2) ++ rest.map Int.ofNat = zs.map Int.ofNat ∧ J pre wr)
    (fun wr => l.length - wr.iterPos W.heap.size)
  case atStart =>
    exact ⟨0, [], zs, World.iter_heap W _ 0, Nat.zero_le _, hp, rfl, hJ [] W _ none h0 (World.grownBy_alloc W _ none) (fun r e => by cases e)⟩
  case round =>
    obtain ⟨pos, pre, rest, hit, hpos, hpt, hx, hJs⟩ := hrel
    by_cases hlt : pos < l.length
    · have hne : l.drop pos ≠ [] := by intro h; have := congrArg List.length h; simp at this; omega
      obtain ⟨z, r, m, rfl, hdec, hn1, hn2, hpr, hz⟩ := dec_step hne hpt
      have hdd := Lib.decodeL_drop ⟨l.toArray⟩ pos
      simp only [List.toList_toArray] at hdd
      rw [hdec] at hdd
      have hd1 : (Utf8.decode ⟨l.toArray⟩ pos).1 = z := by rw [← hdd]
      have hd2 : (Utf8.decode ⟨l.toArray⟩ pos).2 = m := by rw [← hdd]
      have hnx : ∀ ty, (Instr.next (.pointer (some ⟨W.heap.size, 0, none⟩)) true ty).run Tryz.prog wr = _ := fun ty => Lib.run_next_any_at wr W.heap.size ⟨l.toArray⟩ pos ty hit (by rw [hsz]; exact hlt)
      rw [hd1, hd2] at hnx
      have hit2 := Lib.iterAt_heap wr W.heap.size ⟨l.toArray⟩ pos (pos + m) hit
      have hJ2 : J pre (wr.iterAt W.heap.size ⟨l.toArray⟩ (pos + m)) := hJ pre wr _ (some W.heap.size) hJs (iterAt_grown _ _ _ _) (fun r e => by cases e; exact ⟨Nat.le_refl _, _, hit, rfl⟩)
      have hlen := congrArg List.length hx
      simp only [List.length_append, List.length_map, List.length_cons] at hlen
      obtain ⟨fn, tmps, assign, body, hy, hR⟩ := hY pre ((pos : Int), (z : Int)) _ hJ2 (by omega)
      dsimp only [enc2] at hy
      have hz2 := (scal_iff.1 hz).1
      gi_wp2
      rw [List.length_drop] at hn2
      rw [List.drop_drop] at hpr
      refine hR.mono ?_
      rintro e W3 (⟨rfl, hJ3, hk3⟩ | ⟨rfl, hJx3⟩)
      · have hit3 : W3.heap[W.heap.size]? = some (.stringIter ⟨l.toArray⟩ (pos + m)) := hk3.same _ _ hit2 rfl
        gi_wp2
        go_roundw
        case rel => exact ⟨pos + m, pre ++ [((pos : Int), (z : Int))], r, hit3, by omega, hpr, by rw [← hx]; simp, hJ3⟩
        case measure => simp only [World.iterPos, hit3, hit]; omega
      · gi_wp2
        refine bodyPost_ret (results_none rfl _ _ _) rfl ?_
        exact ⟨⟨_, rfl⟩, .inr ⟨pre ++ [((pos : Int), (z : Int))], trivial, hJx3⟩⟩
    · have : pos = l.length := by omega
      subst this
      rw [List.drop_length, points_nil] at hpt
      cases hpt
      have hnx : ∀ ty, (Instr.next (.pointer (some ⟨W.heap.size, 0, none⟩)) true ty).run Tryz.prog wr = _ := fun ty => Lib.run_next_end_at wr W.heap.size ⟨l.toArray⟩ l.length ty hit (by rw [hsz]; omega)
      gi_wp2
      go_end0
      exact ⟨⟨_, rfl⟩, .inl ⟨pre, by simpa using hx, hJs⟩⟩

theorem scalars_stops (n : Nat) (hn : 1 ≤ n) (Bn : Nat) (l : List UInt8) (zs : List Nat) (hp : points l = some zs) (w : World) (hBn : Bn < w.heap.size) (hc : w.cell? ⟨Bn, 0, none⟩ = some (.string ⟨l.toArray⟩)) :
    SeqStopsK Fence.wide n Tryz.prog 177 #[.pointer (some ⟨Bn, 0, none⟩)] enc2 KeepsWalks (fun ys => ys.map (·.2) = zs.map Int.ofNat) (fun _ => True) zs.length w := fun lv J Jx W hW hJ _ hY h0 =>
  scalars1_in n hn lv Bn l zs hp J Jx W hJ hY ((hW.cell (p := ⟨Bn, 0, none⟩) hBn).trans hc) h0

theorem scalars_in (l : List UInt8) (w : World) :
    Calls Tryz.prog 153 #[.string ⟨l.toArray⟩] w fun e w' => e = .returned (.func (.func 177) #[] #[.pointer (some ⟨w.heap.size, 0, none⟩)]) ∧ w' = w.alloc (.cells #[.string ⟨l.toArray⟩] 9) := by
  refine callsIn_wide (n := 1) |>.1 ?_
  refine callsIn_of_wp Tryz.func153 rfl trivial ?_ rfl
  simp only [Tryz.ntmps153, List.size_toArray, List.length_cons, List.length_nil, Nat.reduceAdd, Nat.reduceSub, Array.replicate_succ, Array.replicate_zero, List.push_toArray, List.append_toArray, List.nil_append, List.cons_append]
  gi_wp2
  go_ret
  exact ⟨rfl, rfl⟩
end Go.Proofs.YtnifmbbpfdghmaaGreatDoor
