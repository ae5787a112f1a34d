/-
  Walks of align: the insertion sort of notes.
-/
import Derived.Test.YtaajcbhingpfeaaWh
import Derived.Test.YtaajcbhingpfeaaY1
set_option linter.all false
namespace Go.Proofs.Ytaajcbhingpfeaa
open Go.RowKit Go.En
theorem Kb.trans {g : Option Nat} {a b c : World} (h : Kb g a b) (k : Kb g b c) : Kb g a c :=
  ⟨(World.grownBy.os k).trans (World.grownBy.os h), (World.grownBy.tape k).trans (World.grownBy.tape h), (World.grownBy.output k).trans (World.grownBy.output h), Nat.le_trans (Kb.size h) (Kb.size k), fun i hi hne => (World.grownBy.block k i (Nat.lt_of_lt_of_le hi (Kb.size h)) hne).trans (World.grownBy.block h i hi hne)⟩
theorem Kb.refl (g : Option Nat) (w : World) : Kb g w w := (Ext.refl w).kb g
/-- notes in a row, and what lies behind them -/
def cellsN (ys : List Note) (tail : List Value) : List Value := (ys.map noteC).flatten ++ tail
theorem notes_lens (ys : List Note) : ∀ c ∈ ys.map noteC, c.length = 7 := by
  intro c hc
  obtain ⟨y, _, rfl⟩ := List.mem_map.1 hc
  rfl
theorem notes_flat (ys : List Note) : (ys.map noteC).flatten.length = ys.length * 7 := by rw [flat_len2 (notes_lens ys), List.length_map]
theorem row_note {w : World} {b : Nat} {e : TypeId} {ys : List Note} {tail : List Value} (h : Row w b e (cellsN ys tail)) {i : Nat} {y : Note} (hy : ys[i]? = some y) : At w b (i * 7) (noteC y) := by
  have h1 : At w b 0 (ys.map noteC).flatten := fun j v hv => h.at j v (by
    unfold cellsN
    rw [List.getElem?_append_left (List.getElem?_eq_some_iff.1 hv).1]; exact hv)
  have := At.elem (f := noteC) (k := 7) (fun _ _ => rfl) h1 hy
  rwa [Nat.zero_add] at this
theorem cells_set {ys : List Note} {tail : List Value} {i : Nat} {y : Note} (hi : i < ys.length) : (cellsN ys tail).take (i * 7) ++ noteC y ++ (cellsN ys tail).drop (i * 7 + 7) = cellsN (ys.set i y) tail := by
  have hl := notes_flat ys
  unfold cellsN
  rw [List.take_append_of_le_length (by omega), List.drop_append_of_le_length (by omega), show i * 7 + 7 = (i + 1) * 7 by omega, ← flat_take2 i (notes_lens ys), ← flat_drop2 (i + 1) (notes_lens ys), ← List.map_take, ← List.map_drop, List.set_eq_take_append_cons_drop, if_pos hi]
  simp
theorem insSort_take {α : Type} {lt : α → α → Bool} {xs : List α} {i : Nat} {x : α} (h : xs[i]? = some x) : insSort lt (xs.take (i + 1)) = insR lt (insSort lt (xs.take i)) x := by
  obtain ⟨hi, rfl⟩ := List.getElem?_eq_some_iff.1 h
  unfold insSort
  rw [List.take_succ_eq_append_getElem hi, List.foldl_append]
  rfl
theorem set_mid {α : Type} {p t : List α} {a b : α} {j : Nat} (h : p.length = j) : (p ++ a :: t).set j b = p ++ b :: t := by
  subst h
  rw [List.set_append_right _ _ (Nat.le_refl _), Nat.sub_self, List.set_cons_zero]
theorem ret_0 {P : Program} {n : Nat} {L : List (Nat × Value)} {w : World} {fn : Func} {S : Value → World → Prop} (hr : fn.results = #[]) (hs : S (.tuple #[]) w) : K n (bodyPost P fn (Rt S)) .ret L w := fun a ha => by
  exact ⟨ha.nod, .tuple #[], results_none hr _ _ _, _, rfl, hs⟩
attribute [local irreducible] E EL K Val Enters Rt Calls bodyPost Code.wp RQ
set_option maxRecDepth 8000 in
set_option maxHeartbeats 4000000 in
theorem ins_row (xs : List Note) (tail : List Value) (b cap : Nat) (w : World) (h0 : 0 < xs.length) (hlen : xs.length ≤ 1000) (hr : Row w b 48 (cellsN xs tail)) : Calls Try.prog 86 #[.slice (some ⟨b, 0, none⟩) xs.length cap, int 0, int xs.length, .func (.func 58) #[] #[] ] w (Rt fun _ w' => Row w' b 48 (cellsN (insSort ordB xs) tail) ∧ Kb (some b) w w') := by
  refine calls_E (n := 53) (args := [.slice (some ⟨b, 0, none⟩) xs.length cap, int 0, int xs.length, .func (.func 58) #[] #[] ]) Try.func86 rfl Try.ntmps86 (by simp) ?_
  (repeat' (first | (refine at_EL ?_; first | refine eN ?_ | refine eV rfl rfl (zA rfl rfl) ?_ | refine eV rfl rfl (zB rfl rfl) ?_ | (refine at_bin ?_; first | refine eV rfl rfl (zU rfl rfl rfl (by omega) (by omega)) ?_)) | (refine at_K ?_; first | refine K_then ?_) | (refine at_E ?_; first | refine E_seq ?_ | refine E_region ?_ | refine E_block ?_)))
  refine E_loop (ι := Nat) (fun i => [(0, .slice (some ⟨b, 0, none⟩) xs.length cap), (1, int 0), (2, int xs.length), (3, .func (.func 58) #[] #[]), (8, int i)])
    (fun i wr => 1 ≤ i ∧ i ≤ xs.length ∧ Row wr b 48 (cellsN (insSort ordB (xs.take i) ++ xs.drop i) tail) ∧ Kb (some b) w wr) (fun i => xs.length - i) 1
    ⟨rfl, rfl, rfl, rfl, rfl, trivial⟩ ⟨Nat.le_refl _, h0, by
      obtain ⟨x, r, rfl⟩ : ∃ x r, xs = x :: r := by cases xs with | nil => simp at h0 | cons x r => exact ⟨x, r, rfl⟩
      exact hr, Kb.refl _ _⟩ ?_
  rintro i wr ⟨hi1, hi, rr, hk⟩
  by_cases hlt : i < xs.length
  · obtain ⟨x, hx⟩ : ∃ x, xs[i]? = some x := ⟨_, List.getElem?_eq_getElem hlt⟩
    have hd : xs.drop i = x :: xs.drop (i + 1) := by
      obtain ⟨h1, rfl⟩ := List.getElem?_eq_some_iff.1 hx
      exact List.drop_eq_getElem_cons h1
    have hSl : (insSort ordB (xs.take i)).length = i := by rw [(insSort_perm _).length_eq, List.length_take]; omega
    obtain ⟨S, hS⟩ : ∃ S, S = insSort ordB (xs.take i) := ⟨_, rfl⟩
    have hnext := insSort_take (lt := ordB) hx
    rw [← hS] at rr hSl hnext
    rw [hd] at rr
    (repeat' (first | (refine at_EL ?_; first | refine eN ?_ | refine eV rfl rfl (zA rfl rfl) ?_ | refine eV rfl rfl (zB rfl rfl) ?_ | (refine at_bin ?_; first | refine eD rfl rfl (zL rfl rfl rfl) (fun hh => ?_) (fun hh => ?_))) | (refine at_K ?_; first | refine K_then ?_ | refine K_then_exit ?_ | refine K_in_exit ?_) | (refine at_E ?_; first | refine E_seq ?_ | refine E_region ?_ | refine E_cond_t rfl ?_ | refine E_cond_f rfl ?_ | refine E_block ?_ | refine E_skip ?_ | refine E_exit ?_)))
    all_goals (first | (exfalso; omega) | skip)
    refine E_loop (ι := Nat × List Note × List Note) (fun s => [(0, .slice (some ⟨b, 0, none⟩) xs.length cap), (1, int 0), (2, int xs.length), (3, .func (.func 58) #[] #[]), (8, int i), (9, int s.1)])
      (fun s wr => S = s.2.1 ++ s.2.2 ∧ s.2.1.length = s.1 ∧ (∀ z ∈ s.2.2, ordB x z = true) ∧ Row wr b 48 (cellsN (s.2.1 ++ x :: s.2.2 ++ xs.drop (i + 1)) tail) ∧ Kb (some b) w wr) (fun s => s.1) (i, S, [])
      ⟨rfl, rfl, rfl, rfl, rfl, rfl, trivial⟩ ⟨by simp, hSl, by simp, by simpa using rr, hk⟩ ?_
    rintro ⟨j, p, s⟩ wq ⟨hps, hpl, hall, rq, hkq⟩
    dsimp only at hps hpl hall rq hkq ⊢
    have hjl : j + s.length = i := by rw [← hSl, hps, List.length_append, hpl]
    by_cases hj : 0 < j
    · obtain ⟨q, z, rfl⟩ : ∃ q z, p = q ++ [z] := ⟨p.dropLast, p.getLast (by intro e; rw [e] at hpl; simp at hpl; omega), (List.dropLast_concat_getLast _).symm⟩
      have hql : q.length = j - 1 := by simp at hpl; omega
      have a1 : (q ++ [z] ++ x :: s ++ xs.drop (i + 1))[j]? = some x := by
        rw [List.append_assoc, List.getElem?_append_right (by omega), hpl]; simp
      have a0 : (q ++ [z] ++ x :: s ++ xs.drop (i + 1))[j - 1]? = some z := by
        rw [List.append_assoc, List.append_assoc, List.getElem?_append_right (by omega), hql]; simp
      have atx := row_note rq a1
      have atz := row_note rq a0
      have hjm : ((j : Int) - 1) = ((j - 1 : Nat) : Int) := by omega
      by_cases ho : ordI x z < 0
      · (repeat' ((fail_if_success (refine E_seq (x := (Code.block 3 _)) ?_)); first | refine yV rfl rfl (fun _ _ _ => val_indexAddr (m := j) rfl rfl rfl rfl (by omega)) ?_ | refine yV rfl rfl (fun _ _ _ => val_indexAddr (m := j - 1) rfl rfl rfl (by omega) (by omega)) ?_ | refine yV rfl rfl (fun wq _ xq => val_loadA rfl rfl rfl (cs := noteC x) (by simpa using atx.ext xq) rfl) ?_ | refine yV rfl rfl (fun wq _ xq => val_loadA rfl rfl rfl (cs := noteC z) (by simpa using atz.ext xq) rfl) ?_ | refine RQ_call rfl rfl (fun _ _ _ => entersC rfl rfl rfl en58) (fun wq _ => order_any _ _ wq) ?_ | (refine at_EL ?_; first | refine eN ?_ | refine eV rfl rfl (zA rfl rfl) ?_ | refine eV rfl rfl (zB rfl rfl) ?_ | (refine at_bin ?_; first | refine eV rfl rfl (zU rfl rfl rfl (by omega) (by omega)) ?_)) | (refine at_K ?_; first | refine K_then ?_ | refine K_in ?_ | refine K_then_exit ?_ | refine K_in_exit ?_) | (refine at_E ?_; first | refine E_seq ?_ | refine E_region ?_ | refine E_cond_t rfl ?_ | refine E_cond_f rfl ?_ | refine E_skip ?_ | refine E_exit ?_ | refine E_dq mixedOk (by kernel_rfl) rfl ?_) | (refine at_RQ ?_; first | refine yN rfl (fun wq xq => ?_) | refine yO rfl rfl ?_ | refine yV rfl rfl (fun _ _ _ => zA rfl rfl) ?_ | (refine at_binR ?_; first | refine yD rfl rfl (fun _ _ _ => zL rfl rfl rfl) (fun hh => ?_) (fun hh => ?_) | refine yD rfl rfl (fun _ _ _ => zO rfl rfl rfl) (fun hh => ?_) (fun hh => ?_) | refine yV rfl rfl (fun _ _ _ => zV rfl rfl rfl (by omega) (by omega)) ?_) | refine yV rfl rfl (fun _ _ _ => zC rfl rfl rfl) ?_ | refine yV rfl rfl (fun _ _ _ => zD rfl rfl rfl) ?_)))
        all_goals (first | (exfalso; omega) | skip)
        replace atx := atx.ext xq
        replace atz := atz.ext xq
        replace rq := rq.ext xq
        replace hkq := Kb.trans hkq (xq.kb _)
        clear xq
        have hlen2 : (q ++ [z] ++ x :: s ++ xs.drop (i + 1)).length = xs.length := by simp only [List.length_append, List.length_cons, List.length_nil, List.length_drop] at hpl ⊢; omega
        have hlen3 : (q ++ [z] ++ z :: s ++ xs.drop (i + 1)).length = xs.length := by simp only [List.length_append, List.length_cons, List.length_nil, List.length_drop] at hlen2 ⊢; omega
        have xd := ext_drew wq
        have rd := rq.ext xd
        have e1 : (cellsN (q ++ [z] ++ x :: s ++ xs.drop (i + 1)) tail).take (0 + j * 7) ++ noteC z ++ (cellsN (q ++ [z] ++ x :: s ++ xs.drop (i + 1)) tail).drop (0 + j * 7 + 7) = cellsN (q ++ [z] ++ z :: s ++ xs.drop (i + 1)) tail := by
          have e1 := cells_set (ys := q ++ [z] ++ x :: s ++ xs.drop (i + 1)) (tail := tail) (y := z) (i := j) (by omega)
          rw [Nat.zero_add, e1, List.append_assoc, List.cons_append, set_mid hpl, List.append_assoc _ (z :: s), List.cons_append]
        have e2 : (cellsN (q ++ [z] ++ z :: s ++ xs.drop (i + 1)) tail).take (0 + (j - 1) * 7) ++ noteC x ++ (cellsN (q ++ [z] ++ z :: s ++ xs.drop (i + 1)) tail).drop (0 + (j - 1) * 7 + 7) = cellsN (q ++ x :: (z :: s) ++ xs.drop (i + 1)) tail := by
          have e1 := cells_set (ys := q ++ [z] ++ z :: s ++ xs.drop (i + 1)) (tail := tail) (y := x) (i := j - 1) (by omega)
          have e3 : q ++ [z] ++ z :: s ++ xs.drop (i + 1) = q ++ z :: (z :: s ++ xs.drop (i + 1)) := by simp
          rw [Nat.zero_add, e1, e3, set_mid hql]; simp
        obtain ⟨r1, k1⟩ := set_row (cellsN (q ++ [z] ++ z :: s ++ xs.drop (i + 1)) tail) rd
        obtain ⟨r2, k2⟩ := set_row (cellsN (q ++ x :: (z :: s) ++ xs.drop (i + 1)) tail) r1
        obtain ⟨w1, hw1⟩ : ∃ w1, w1 = wq.drew.setRow b (cellsN (q ++ [z] ++ z :: s ++ xs.drop (i + 1)) tail).toArray := ⟨_, rfl⟩
        rw [← hw1] at r1 k1 r2 k2
        obtain ⟨w2, hw2⟩ : ∃ w2, w2 = w1.setRow b (cellsN (q ++ x :: (z :: s) ++ xs.drop (i + 1)) tail).toArray := ⟨_, rfl⟩
        rw [← hw2] at r2 k2
        have hc1 : 0 + j * 7 + 7 ≤ (cellsN (q ++ [z] ++ x :: s ++ xs.drop (i + 1)) tail).length := by unfold cellsN; rw [List.length_append, notes_flat, hlen2]; omega
        have hc2 : 0 + (j - 1) * 7 + 7 ≤ (cellsN (q ++ [z] ++ z :: s ++ xs.drop (i + 1)) tail).length := by unfold cellsN; rw [List.length_append, notes_flat, hlen3]; omega
        refine E_seq ?_
        refine E_block ?_
        refine E.sub (M := [(0, .slice (some ⟨b, 0, none⟩) xs.length cap), (1, int 0), (2, int xs.length), (3, .func (.func 58) #[] #[]), (8, int i), (9, int j)]) ⟨rfl, rfl, rfl, rfl, rfl, rfl, trivial⟩ ?_
        refine E_steps (fun p => match p with | 0 => wq.drew | 1 => w1 | _ => w2)
          [some (37, .slice (some ⟨b, 0, none⟩) xs.length cap), some (38, int j), some (39, .slice (some ⟨b, 0, none⟩) xs.length cap), some (40, int j), some (41, int ((j : Int) - 1)), some (42, .slice (some ⟨b, 0, none⟩) xs.length cap), some (43, int j), some (44, int ((j : Int) - 1)),
            some (45, .pointer (some ⟨b, 0 + (j - 1) * 7, none⟩)), some (46, .agg (noteC z).toArray), some (47, .slice (some ⟨b, 0, none⟩) xs.length cap), some (48, int j), some (49, .pointer (some ⟨b, 0 + j * 7, none⟩)), some (50, .agg (noteC x).toArray), some (51, .pointer (some ⟨b, 0 + j * 7, none⟩)), none,
            some (52, .pointer (some ⟨b, 0 + (j - 1) * 7, none⟩)), none]
          [(0, 2, true), (0, 2, true), (0, 2, true), (0, 2, true), (0, 2, true), (0, 2, true), (0, 2, true), (0, 2, true), (0, 2, true), (0, 0, true), (0, 2, true), (0, 2, true), (0, 2, true), (0, 0, true), (0, 2, true), (0, 0, false), (0, 2, true), (1, 0, false)]
          [15, 17] mixedOk (by kernel_rfl) (by decide) rfl rfl rfl rfl
          ⟨fun _ _ _ => zA rfl rfl, fun _ _ _ => zA rfl rfl, fun _ _ _ => zA rfl rfl, fun _ _ _ => zA rfl rfl, fun _ _ _ => zV rfl rfl rfl (by omega) (by omega), fun _ _ _ => zA rfl rfl, fun _ _ _ => zA rfl rfl, fun _ _ _ => zV rfl rfl rfl (by omega) (by omega),
            fun _ _ _ => val_indexAddr (m := j - 1) rfl rfl rfl (by omega) (by omega), fun p _ hp => by
              obtain rfl : p = 0 := by omega
              exact val_loadA rfl rfl rfl (cs := noteC z) (by simpa using atz.ext xd) rfl,
            fun _ _ _ => zA rfl rfl, fun _ _ _ => zA rfl rfl, fun _ _ _ => val_indexAddr (m := j) rfl rfl rfl rfl (by omega), fun p _ hp => by
              obtain rfl : p = 0 := by omega
              exact val_loadA rfl rfl rfl (cs := noteC x) (by simpa using atx.ext xd) rfl,
            fun _ _ _ => val_indexAddr (m := j) rfl rfl rfl rfl (by omega), fun ρ ha => by
              show _ = Result.ok _ w1
              rw [hw1]
              exact step_store' (new := noteC z) rfl rfl rfl rfl rfl rfl rd hc1 e1 ρ ha,
            fun _ _ _ => val_indexAddr (m := j - 1) rfl rfl rfl (by omega) (by omega), fun ρ ha => by
              show _ = Result.ok _ w2
              rw [hw2]
              exact step_store' (new := noteC x) rfl rfl rfl rfl rfl rfl r1 hc2 e2 ρ ha, trivial⟩ ?_
        refine at_K (w := w2) ?_
        (repeat' (first | (refine at_EL ?_; first | refine eN ?_ | refine eV rfl rfl (zA rfl rfl) ?_ | refine eV rfl rfl (zB rfl rfl) ?_ | (refine at_bin ?_; first | refine eV rfl rfl (zV rfl rfl rfl (by omega) (by omega)) ?_)) | (refine at_K ?_; first | refine K_then ?_ | refine K_in ?_) | (refine at_E ?_; first | refine E_region ?_)))
        refine K_rnd (j - 1, q, z :: s) ⟨rfl, rfl, rfl, rfl, rfl, by dsimp only; rw [← hjm]; rfl, trivial⟩ ⟨by dsimp only; rw [hps]; simp, hql, fun y hy => ?_, r2, hkq.trans ((xd.kb _).trans (k1.trans k2))⟩ (by dsimp only; omega)
        rcases List.mem_cons.1 hy with rfl | hy
        · have := ordI_neg x y
          rw [← this]; exact decide_eq_true ho
        · exact hall y hy
      · (repeat' ((fail_if_success (refine E_seq (x := (Code.block 3 _)) ?_)); first | refine yV rfl rfl (fun _ _ _ => val_indexAddr (m := j) rfl rfl rfl rfl (by omega)) ?_ | refine yV rfl rfl (fun _ _ _ => val_indexAddr (m := j - 1) rfl rfl rfl (by omega) (by omega)) ?_ | refine yV rfl rfl (fun wq _ xq => val_loadA rfl rfl rfl (cs := noteC x) (by simpa using atx.ext xq) rfl) ?_ | refine yV rfl rfl (fun wq _ xq => val_loadA rfl rfl rfl (cs := noteC z) (by simpa using atz.ext xq) rfl) ?_ | refine RQ_call rfl rfl (fun _ _ _ => entersC rfl rfl rfl en58) (fun wq _ => order_any _ _ wq) ?_ | (refine at_EL ?_; first | refine eN ?_ | refine eV rfl rfl (zA rfl rfl) ?_ | refine eV rfl rfl (zB rfl rfl) ?_ | (refine at_bin ?_; first | refine eV rfl rfl (zU rfl rfl rfl (by omega) (by omega)) ?_)) | (refine at_K ?_; first | refine K_then ?_ | refine K_in ?_ | refine K_then_exit ?_ | refine K_in_exit ?_) | (refine at_E ?_; first | refine E_seq ?_ | refine E_region ?_ | refine E_cond_t rfl ?_ | refine E_cond_f rfl ?_ | refine E_skip ?_ | refine E_exit ?_ | refine E_dq mixedOk (by kernel_rfl) rfl ?_) | (refine at_RQ ?_; first | refine yN rfl (fun wq xq => ?_) | refine yO rfl rfl ?_ | refine yV rfl rfl (fun _ _ _ => zA rfl rfl) ?_ | (refine at_binR ?_; first | refine yD rfl rfl (fun _ _ _ => zL rfl rfl rfl) (fun hh => ?_) (fun hh => ?_) | refine yD rfl rfl (fun _ _ _ => zO rfl rfl rfl) (fun hh => ?_) (fun hh => ?_) | refine yV rfl rfl (fun _ _ _ => zV rfl rfl rfl (by omega) (by omega)) ?_) | refine yV rfl rfl (fun _ _ _ => zC rfl rfl rfl) ?_ | refine yV rfl rfl (fun _ _ _ => zD rfl rfl rfl) ?_)))
        all_goals (first | (exfalso; omega) | skip)
        have he : insSort ordB (xs.take (i + 1)) = q ++ [z] ++ x :: s := by
          rw [hnext]
          refine insR_at hps hall (fun q' z' e => ?_)
          obtain ⟨_, e2⟩ := List.append_inj' e rfl
          cases e2
          rw [← ordI_neg]; exact decide_eq_false ho
        exact K_rnd (i + 1) ⟨rfl, rfl, rfl, rfl, rfl, trivial⟩ ⟨by omega, by omega, by rw [he]; exact rq.ext xq, hkq.trans (xq.kb _)⟩ (by omega)
    · (repeat' ((fail_if_success (refine E_seq (x := (Code.block 3 _)) ?_)); first | (refine at_EL ?_; first | refine eN ?_ | refine eV rfl rfl (zA rfl rfl) ?_ | refine eV rfl rfl (zB rfl rfl) ?_ | (refine at_bin ?_; first | refine eV rfl rfl (zU rfl rfl rfl (by omega) (by omega)) ?_)) | (refine at_K ?_; first | refine K_then ?_ | refine K_in ?_ | refine K_then_exit ?_ | refine K_in_exit ?_) | (refine at_E ?_; first | refine E_seq ?_ | refine E_region ?_ | refine E_cond_f rfl ?_ | refine E_exit ?_ | refine E_dq mixedOk (by kernel_rfl) rfl ?_) | (refine at_RQ ?_; first | refine yN rfl (fun wq xq => ?_) | refine yO rfl rfl ?_ | refine yV rfl rfl (fun _ _ _ => zA rfl rfl) ?_ | (refine at_binR ?_; first | refine yD rfl rfl (fun _ _ _ => zO rfl rfl rfl) (fun hh => ?_) (fun hh => ?_)) | refine yV rfl rfl (fun _ _ _ => zD rfl rfl rfl) ?_)))
      all_goals (first | (exfalso; omega) | skip)
      obtain rfl : p = [] := List.length_eq_zero_iff.1 (by omega)
      have he : insSort ordB (xs.take (i + 1)) = [] ++ x :: s := by
        rw [hnext]
        exact insR_at hps hall (fun q' z' e => by simp at e)
      exact K_rnd (i + 1) ⟨rfl, rfl, rfl, rfl, rfl, trivial⟩ ⟨by omega, by omega, by rw [he]; exact rq.ext xq, hkq.trans (xq.kb _)⟩ (by omega)
  · (repeat' (first | (refine at_EL ?_; first | refine eN ?_ | refine eV rfl rfl (zA rfl rfl) ?_ | refine eV rfl rfl (zB rfl rfl) ?_ | (refine at_bin ?_; first | refine eD rfl rfl (zL rfl rfl rfl) (fun hh => ?_) (fun hh => ?_))) | (refine at_K ?_; first | refine K_then ?_ | refine K_then_exit ?_ | refine K_in_exit ?_) | (refine at_E ?_; first | refine E_seq ?_ | refine E_region ?_ | refine E_cond_t rfl ?_ | refine E_cond_f rfl ?_ | refine E_block ?_ | refine E_skip ?_ | refine E_exit ?_)))
    all_goals (first | (exfalso; omega) | skip)
    obtain rfl : i = xs.length := by omega
    rw [List.take_length, List.drop_length, List.append_nil] at rr
    exact ret_n (ret_0 rfl ⟨rr, hk⟩)
end Go.Proofs.Ytaajcbhingpfeaa
