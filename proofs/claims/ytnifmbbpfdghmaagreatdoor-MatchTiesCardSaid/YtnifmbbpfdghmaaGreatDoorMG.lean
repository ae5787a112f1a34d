/-
  Laws of what queries find, as the laws of match want them.
-/
import Derived.Test.YtnifmbbpfdghmaaGreatDoorNn
set_option linter.all false
namespace Go.Proofs.YtnifmbbpfdghmaaGreatDoor
open Go.RowKit Go.En
theorem star_row (zs : List Nat) : ∀ k : Nat, buildN (-1) (row0 zs) zs k = List.replicate k true
  | 0 => rfl
  | k + 1 => by
    rw [buildN, star_row zs k, List.replicate_succ']
    congr 2
    unfold nextAt
    rw [if_pos rfl, List.length_replicate]
    cases k with
    | zero => rfl
    | succ k =>
      have : (List.replicate (k + 1) true).getD (k + 1 - 1) false = true := by
        rw [List.getD_eq_getElem?_getD, List.getElem?_replicate, if_pos (by omega)]; rfl
      rw [this]
      simp
theorem star_match {s : List UInt8} {zs : List Nat} (h : points s = some zs) : matchF starT s = true := by
  have ht : tokens starT = .ok [-1] := by kernel_rfl
  unfold matchF
  rw [ht, h]
  show matchT [-1] zs = true
  unfold matchT
  rw [List.foldl_cons, List.foldl_nil]
  unfold stepRow
  rw [star_row, List.getD_eq_getElem?_getD, List.getElem?_replicate, if_pos (by omega)]; rfl
theorem star_ids {d : Dc} (h : LightD d) (role : Int) : evF matchF d (textQ role starT) = idsOf d (ofRoleP d role) := by
  unfold textQ
  rw [ev_0]
  refine idsOf_congr fun n hn => ?_
  rw [text_of h hn, cur_of h hn]
  obtain ⟨i, hi⟩ := List.getElem?_of_mem hn
  obtain ⟨_, zs, hz, _⟩ := (h.notes i n hi).text
  rw [star_match hz, Bool.and_true]
theorem first_op {d : Dc} (h : LightD d) (a b c : Qy) {op : Int} (ho : op = 4 ∨ op = 5 ∨ op = 6) {x : Int} (hx : x ∈ evF matchF d (twoQ op a b)) :
    x ∈ evF matchF d a ∧ x ∈ evF matchF d (twoQ op (twoQ 2 c a) (twoQ 2 b c)) := by
  unfold twoQ at hx ⊢
  rw [evF_mk] at hx ⊢
  have hu : ∀ (p q : Qy) (y : Int), y ∈ evF matchF d p ∨ y ∈ evF matchF d q → y ∈ evF matchF d (.mk 2 0 [] [p, q]) := fun p q y hy => by
    rw [ev_2 h]
    unfold unionS
    rw [(sorted_rise _).2, List.mem_append]
    exact hy
  exact op_first ho (fun y hy => hu c a y (.inr hy)) (fun y hy => hu b c y (.inl hy)) hx
theorem and_self {d : Dc} (a : Qy) : evF matchF d (twoQ 1 a a) = evF matchF d a := by
  unfold twoQ
  rw [evF_mk]
  obtain ⟨p, hp⟩ := evF_ids matchF d a
  show opF matchF d 1 0 [] [evF matchF d a, evF matchF d a] = _
  rw [hp]
  exact op_and_self
theorem or_self {d : Dc} (a : Qy) : evF matchF d (twoQ 2 a a) = evF matchF d a := by
  unfold twoQ
  rw [evF_mk]
  obtain ⟨p, hp⟩ := evF_ids matchF d a
  show opF matchF d 2 0 [] [evF matchF d a, evF matchF d a] = _
  rw [hp]
  exact op_or_self
theorem not_all {d : Dc} (h : LightD d) (role : Int) (a : Qy) : evF matchF d (notQ role a) = minusS (evF matchF d (textQ role starT)) (evF matchF d a) := by
  unfold notQ
  rw [star_ids h, ev_role3 h]
theorem not_not {d : Dc} (h : LightD d) (role : Int) (a : Qy) : evF matchF d (notQ role (notQ role a)) = bothF (evF matchF d (textQ role starT)) (evF matchF d a) := by
  unfold notQ
  rw [star_ids h, both_ids h (idsIn_of d _), evF_mk]
  show idsOf d (fun x => ofRoleP d role x && !decide (x ∈ evF matchF d (.mk 3 role [] [a]))) = _
  rw [evF_mk]
  show idsOf d (fun x => ofRoleP d role x && !decide (x ∈ idsOf d (fun x => ofRoleP d role x && !decide (x ∈ evF matchF d a)))) = _
  refine idsOf_congr fun n hn => ?_
  have hm : ∀ p : Int → Bool, decide (n.id ∈ idsOf d p) = p n.id := fun p => by
    cases hp : p n.id with
    | true => exact decide_eq_true (idsOf_mem.2 ⟨⟨n, hn, rfl⟩, hp⟩)
    | false => exact decide_eq_false fun hm => by rw [(idsOf_mem.1 hm).2] at hp; cases hp
  rw [hm, hm]
  cases ofRoleP d role n.id <;> simp
theorem not_or {d : Dc} (role : Int) (a b : Qy) : evF matchF d (notQ role (twoQ 2 a b)) = evF matchF d (twoQ 1 (notQ role a) (notQ role b)) := by
  unfold notQ twoQ
  rw [evF_mk, evF_mk]
  show opF matchF d 3 role [] [evF matchF d (.mk 2 0 [] [a, b])] = opF matchF d 1 0 [] [evF matchF d (.mk 3 role [] [a]), evF matchF d (.mk 3 role [] [b])]
  rw [evF_mk, evF_mk, evF_mk]
  exact op_not_or
end Go.Proofs.YtnifmbbpfdghmaaGreatDoor
