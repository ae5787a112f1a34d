/-
  Walks of the layers runes and pattern.
-/
import Derived.Test.YtjpjpgeeeigbkaaDoorPo
set_option linter.all false
namespace Go.Proofs.YtjpjpgeeeigbkaaDoor
open Go.RowKit Go.En


theorem encode_scal {z : Nat} (hz : scal z = true) : Utf8.encode (z : Int) = ⟨(encB z).toArray⟩ := by
  have h := (scal_iff.1 hz)
  have hv : Utf8.valid (z : Int) = true := by
    unfold Utf8.valid; simp; omega
  unfold Utf8.encode encB encN
  rw [hv]
  simp only [if_true, Int.toNat_natCast]
  (repeat' split) <;> first | (exfalso; omega) | rfl
theorem val_rune_str {P : Program} {L : List (Nat × Value)} {w : World} {o : Oper} {s d : TypeId} {x : Operand} {k : IntKind} {z : Nat} [UT P s (.int k)] [UT P d .string] (ho : o.op = .convert s d x) (hx : ev L x = some (.int k (z : Int))) (hz : scal z = true) :
    Val P L w o (str (encB z)) := fun ρ ha => by
  have h0 := ha.ev (by rw [ho]; simp [Op.operands]) hx
  have h3 := run_ut (t := s) (P := P) w
  have h4 := run_ut (t := d) (P := P) w
  simp [execOp, ho, h0, convert, go_sem, h3, h4, Conv.intToString, encode_scal hz]
theorem runes_from {l : List UInt8} : ∀ (k pos : Nat) (acc : Array Value) (rest : List Nat), l.length ≤ pos + k → points (l.drop pos) = some rest → Conv.runesFrom ⟨l.toArray⟩ k pos acc = acc ++ (rest.map fun (z : Nat) => Value.int .i32 (z : Int)).toArray
  | 0, pos, acc, rest, hk, hp => by
    rw [List.drop_eq_nil_of_le (by omega), points_nil] at hp
    cases hp
    simp [Conv.runesFrom]
  | k + 1, pos, acc, rest, hk, hp => by
    have hsz : (ByteArray.mk l.toArray).size = l.length := by simp [ByteArray.size]
    unfold Conv.runesFrom
    rw [hsz]
    by_cases hlt : pos < l.length
    · rw [if_pos hlt]
      have hne : l.drop pos ≠ [] := by intro h; have := congrArg List.length h; simp at this; omega
      obtain ⟨z, r, m, rfl, hdec, hn1, hn2, hpr, hz⟩ := dec_step hne hp
      have hdd := Lib.decodeL_drop ⟨l.toArray⟩ pos
      simp only [List.toList_toArray] at hdd
      rw [hdec] at hdd
      rw [← hdd]
      dsimp only
      rw [List.drop_drop] at hpr
      rw [runes_from k (pos + m) _ r (by omega) hpr]
      simp
    · rw [if_neg hlt]
      rw [List.drop_eq_nil_of_le (by omega), points_nil] at hp
      cases hp
      simp
theorem EL_runes {P : Program} {n : Nat} {Q : Post} {L : List (Nat × Value)} {w : World} {ops : List Oper} {o : Oper} {rest : List Oper} {c s d e : TypeId} {x : Operand} {l : List UInt8} {zs : List Nat} [us : UT P s .string] [ud : UT P d (.slice e)] [ue : UT P e (.int .i32)]
    (hp : points l = some zs) (hl : zs.length ≤ 1048576) (hg : gst ops L o = some true) (hd : odst n o.dst = some c) (ho : o.op = .convert s d x) (hx : ev L x = some (str l))
    (k : ∀ b cap w', Ext w w' → b = w.heap.size → zs.length ≤ cap → At w' b 0 (zs.map fun (z : Nat) => Value.int .i32 (z : Int)) → EL P n ops Q rest ((c, .slice (some ⟨b, 0, none⟩) zs.length cap) :: L) w') : EL P n ops Q (o :: rest) L w := by
  have hsz : (ByteArray.mk l.toArray).size = l.length := by simp [ByteArray.size]
  have hr : Conv.runesFrom ⟨l.toArray⟩ (ByteArray.mk l.toArray).size 0 #[] = (zs.map fun (z : Nat) => Value.int .i32 (z : Int)).toArray := by
    rw [runes_from _ 0 #[] zs (by omega) hp]; simp
  have h := run_runes_of_string (P := P) w s d e ⟨l.toArray⟩ us.u ud.u ue.u (by rw [hr]; simp; omega)
  rw [hr] at h
  simp only [List.size_toArray, List.length_map] at h
  refine EL_valw hg hd (fun ρ ha => ?_) (k w.heap.size _ (w.drew.alloc (.cells ((zs.map fun (z : Nat) => Value.int .i32 (z : Int)).toArray ++ Array.replicate (grownCap w zs.length 0 e - zs.length) (.int .i32 0)) e)) ((ext_drew w).trans (ext_alloc _ _)) rfl (grownCap_ge w zs.length 0 e) ?_)
  · have h0 := ha.ev (by rw [ho]; simp [Op.operands]) hx
    simp only [execOp, ho, h0, h, Sem.run_bind, Result.andThen_ok]
    rfl
  · intro j v hv
    have hj := (List.getElem?_eq_some_iff.1 hv).1
    rw [Nat.zero_add]
    have := heap_alloc_new w.drew (.cells ((zs.map fun (z : Nat) => Value.int .i32 (z : Int)).toArray ++ Array.replicate (grownCap w zs.length 0 e - zs.length) (.int .i32 0)) e)
    simp only [World.cell?]
    rw [show w.drew.heap.size = w.heap.size from rfl] at this
    rw [this]
    dsimp only
    rw [Array.getElem?_append_left (by simpa using hj)]
    simpa using hv
/-- a struct copied into a variable of its own -/
theorem EL_storeA {P : Program} {n : Nat} {Q : Post} {L : List (Nat × Value)} {w : World} {ops : List Oper} {o : Oper} {rest : List Oper} {t : TypeId} {x y : Operand} {z : Value} {size bytes : Nat} {b : Nat} {e : TypeId} {cs cs0 : List Value} [TI P t z size bytes] {w0 : World}
    (hr : Row w b e cs0) (x0 : Ext w0 w) (hb : w0.heap.size ≤ b) (hg : gst ops L o = some true) (hd : o.dst = none) (ho : o.op = .store t x y)
    (hx : ev L x = some (.pointer (some ⟨b, 0, none⟩))) (hy : ev L y = some (.agg cs.toArray)) (hs : Nat.beq cs.length size = true) (hs0 : Nat.beq cs0.length size = true) (h1 : cs.all Value.oneCell' = true)
    (k : ∀ w', Row w' b e cs → Ext w0 w' → EL P n ops Q rest L w') : EL P n ops Q (o :: rest) L w := by
  have e1 := Nat.eq_of_beq_eq_true hs
  have e0 := Nat.eq_of_beq_eq_true hs0
  refine EL_store hg hd ho hx hy (by simpa [Value.cells] using e1) (by simpa [Value.cells] using h1) hr (by omega) fun w' h2 h3 _ => k w' ?_ (h3.ext x0 fun b' hb' => by cases hb'; exact hb)
  rw [show cs0.take 0 = [] by simp, show cs0.drop (0 + size) = [] by apply List.drop_eq_nil_of_le; omega] at h2
  simpa [Value.cells] using h2
end Go.Proofs.YtjpjpgeeeigbkaaDoor
