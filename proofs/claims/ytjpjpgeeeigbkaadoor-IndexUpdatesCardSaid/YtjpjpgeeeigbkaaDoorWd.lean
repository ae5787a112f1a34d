/-
  Walk: the program's Take.
-/
import Derived.Test.YtjpjpgeeeigbkaaDoorWc
set_option linter.all false
namespace Go.Proofs.YtjpjpgeeeigbkaaDoor
open Go.RowKit Go.En

theorem take_no {xs : List Post} {r : Int} {t : List UInt8} {id : Int} (h : placeB xs r t = false) : takeF xs r t id = xs := by
  unfold takeF
  split
  · rfl
  · rename_i p hp; exact if_neg (place_no h p hp)
theorem take_ok {xs : List Post} {r : Int} {t : List UInt8} {id : Int} {p : Post} (hp : xs[placeN xs r t]? = some p) (h : p.role = r ∧ p.text = t) :
    takeF xs r t id = xs.take (placeN xs r t) ++ ((if (p.ids.filter fun n => decide (n ≠ id)) = [] then [] else [⟨r, t, p.ids.filter fun n => decide (n ≠ id)⟩]) ++ xs.drop (placeN xs r t + 1)) := by
  unfold takeF; rw [hp]; exact if_pos h
theorem filter_take {α : Type} {f : α → Bool} {l : List α} {k : Nat} {z : α} (h : l[k]? = some z) : (l.take (k + 1)).filter f = (l.take k).filter f ++ (if f z then [z] else []) := by
  obtain ⟨hk, rfl⟩ := List.getElem?_eq_some_iff.1 h
  rw [List.take_succ_eq_append_getElem hk, List.filter_append]
  congr 1
  by_cases hz : f l[k] <;> simp [hz]
theorem filter_len {α : Type} (f : α → Bool) (l : List α) (k : Nat) : ((l.take k).filter f).length ≤ k := Nat.le_trans (List.length_filter_le _ _) (List.length_take_le _ _)
attribute [local irreducible] E EL K Val Enters Rt Calls bodyPost Code.wp RQ
set_option maxHeartbeats 1000000 in
theorem take_any {G : Nat → Prop} (xs : List Post) (v : Value) (r : Int) (t : List UInt8) (id : Int) (w : World) (hv : SlG G w v xs) (hlen : xs.length ≤ 1099511627776) (hids : ∀ p ∈ xs, p.ids.length ≤ 1099511627776) :
    Calls Tryd.prog 32 #[.agg #[v], int r, str t, int id] w (Rt fun u w' => Ext w w' ∧ IxG (Fr G w) w' u (takeF xs r t id)) := by
  refine calls_E (n := 68) (args := [.agg #[v], int r, str t, int id]) Tryd.func32 rfl Tryd.ntmps32 (by simp) ?_
  have hv0 := hv
  obtain ⟨a, cap, rfl, hc, hm, hp⟩ := hv.sl
  have c42 := fun w (hv : SlG G w (.slice a xs.length cap) xs) => place_any xs (.slice a xs.length cap) r t w hv.any
  have hpl := placeN_le xs r t
  obtain ⟨n, hn⟩ : ∃ n, n = placeN xs r t := ⟨_, rfl⟩
  rw [← hn] at c42 hpl
  cases hB : placeB xs r t with
  | false =>
    rw [hB] at c42
    (repeat' (first | refine EL_box rfl rfl rfl rfl (fun bB wB xB hbB rB => ?_) | refine EL_alloc rfl rfl rfl (fun bA wA xA hbA rA => ?_) | refine eV rfl rfl (val_loadA rfl rfl rfl (rB.ext xA).at rfl) ?_ | (refine EL_call rfl rfl (entersF rfl rfl en42) (c42 _ (hv0.ext (xB.trans xA))) (fun vC wC hC => ?_); obtain ⟨rfl, xC⟩ := hC) | refine eV rfl rfl (val_loadA rfl rfl rfl (rB.ext (xA.trans xC)).at rfl) ?_ | (refine at_EL ?_; first | refine eN ?_ | refine eV rfl rfl (zA rfl rfl) ?_ | refine eV rfl rfl (zB rfl rfl) ?_ | refine eV rfl rfl (zE rfl rfl) ?_ | refine eV rfl rfl (zF rfl rfl rfl) ?_) | (refine at_K ?_; first | refine K_then ?_) | (refine at_E ?_; first | refine E_seq ?_ | refine E_region ?_ | refine E_cond_t rfl ?_)))
    refine EL_storeP (cs := [.slice a xs.length cap]) (rA.ext xC) (xB.trans (xA.trans xC)) (by have := xB.size; omega) rfl rfl rfl rfl rfl rfl rfl rfl (Nat.le_refl _) (fun w2 r2 x2 k2 => ?_)
    (repeat' (first | (refine at_EL ?_; first | refine eN ?_) | (refine at_K ?_; first | refine K_then ?_ | refine K_then_ret ?_) | (refine at_E ?_; first | refine E_ret ?_)))
    refine ret_c rfl rfl rfl r2.at rfl ⟨x2, _, rfl, ?_⟩
    rw [take_no hB]
    exact (hv0.ext x2).wk fun b h => .inl h
  | true =>
    rw [hB] at c42
    obtain ⟨p, hpp, hk⟩ := place_ok hB
    have htk := take_ok (id := id) hpp hk
    rw [← hn] at hpp htk
    have hlt := (List.getElem?_eq_some_iff.1 hpp).1
    have hidl := hids p (List.mem_of_getElem? hpp)
    obtain ⟨b, off, rfl⟩ := hp (by omega)
    obtain ⟨css1, hA1, hcs1⟩ := (hv0.take hpl).css
    obtain ⟨css3, hA3, hcs3⟩ := (hv0.drop hlt).css
    have hf1 : css1.flatten.length = n * 3 := by rw [AtsG.flat hA1, List.length_take, Nat.min_eq_left hpl]; rfl
    have hf3 : css3.flatten.length = (xs.length - (n + 1)) * 3 := by rw [AtsG.flat hA3, List.length_drop]; rfl
    have hif : (if cap = n + 1 then some (⟨b, off, none⟩ : Addr) else (some (⟨b, off, none⟩ : Addr)).map (·.add ((n + 1) * 3))) = some ⟨b, if cap = n + 1 then off else off + (n + 1) * 3, none⟩ := by
      split
      · rfl
      · rw [Option.map_some, addr_add]
    obtain ⟨iv, hat, hiv⟩ := post_elem hv0 hpp
    have hiv0 := hiv
    obtain ⟨a2, cap2, rfl, hc2, hm2, hp2⟩ := hiv.sl
    (repeat' (first | refine EL_box rfl rfl rfl rfl (fun bB wB xB hbB rB => ?_) | refine EL_alloc rfl rfl rfl (fun bA wA xA hbA rA => ?_) | refine eV rfl rfl (val_loadA rfl rfl rfl (rB.ext xA).at rfl) ?_ | (refine EL_call rfl rfl (entersF rfl rfl en42) (c42 _ (hv0.ext (xB.trans xA))) (fun vC wC hC => ?_); obtain ⟨rfl, xC⟩ := hC; have x0 := xB.trans (xA.trans xC); replace rB := rB.ext (xA.trans xC)) | refine eV rfl rfl (val_load rfl rfl rfl (rB.cellAt rfl)) ?_ | refine eV rfl rfl (val_indexAddr (m := n) rfl rfl rfl rfl hlt) ?_ | refine eV rfl rfl (val_load rfl rfl rfl ((hat.ext x0).cellAt rfl)) ?_ | (refine at_EL ?_; first | refine eN ?_ | refine eV rfl rfl (zA rfl rfl) ?_ | refine eV rfl rfl (zB rfl rfl) ?_ | (refine at_call ?_; first | refine eV rfl rfl (zK rfl rfl) ?_) | refine eV rfl rfl (zE rfl rfl) ?_ | refine eV rfl rfl (zF rfl rfl rfl) ?_ | refine eV rfl rfl (zH rfl rfl) ?_) | (refine at_K ?_; first | refine K_then ?_) | (refine at_E ?_; first | refine E_seq ?_ | refine E_region ?_ | refine E_cond_f rfl ?_ | refine E_block ?_ | refine E_skip ?_)))
    refine E_loop (ι := Nat × Value) (fun x => [(1, int r), (2, str t), (3, int id), (4, .pointer (some ⟨bB, 0, none⟩)), (8, .pointer (some ⟨bA, 0, none⟩)), (9, int n), (11, x.2), (30, .slice a2 p.ids.length cap2), (31, int p.ids.length), (32, int x.1)])
      (fun x wr => x.1 ≤ p.ids.length ∧ Ext wC wr ∧ wr.ownsRow wC.heap.size 3 1 x.2 ((p.ids.take x.1).filter fun n => decide (n ≠ id)).length (((p.ids.take x.1).filter fun n => decide (n ≠ id)).map int)) (fun x => p.ids.length - x.1) (0, .slice none 0 0)
      ⟨rfl, rfl, rfl, rfl, rfl, rfl, rfl, rfl, rfl, rfl, trivial⟩ ⟨Nat.zero_le _, Ext.refl _, World.ownsRow_nil _ _ _ _⟩ ?_
    rintro ⟨k, vI⟩ wr ⟨hk1, hx, hown⟩
    dsimp only at hk1 hx hown ⊢
    have hfl := filter_len (fun n => decide (n ≠ id)) p.ids k
    by_cases hlt2 : k < p.ids.length
    · obtain ⟨b2, off2, rfl⟩ := hp2 (by omega)
      obtain ⟨z, hz⟩ : ∃ z, p.ids[k]? = some z := ⟨_, List.getElem?_eq_getElem hlt2⟩
      have hcell := int_elem (hiv0.ext (x0.trans hx)) hz
      have hft := filter_take (f := fun n => decide (n ≠ id)) hz
      by_cases hze : z = id
      · rw [if_neg (by simp [hze]), List.append_nil] at hft
        (repeat' (first | refine eV rfl rfl (val_indexAddr (m := k) rfl rfl rfl rfl hlt2) ?_ | refine eV rfl rfl (val_load rfl rfl rfl hcell) ?_ | (refine at_EL ?_; first | refine eN ?_ | refine eV rfl rfl (zA rfl rfl) ?_ | refine eV rfl rfl (zB rfl rfl) ?_ | (refine at_bin ?_; first | refine eD rfl rfl (zL rfl rfl rfl) (fun hh => ?_) (fun hh => ?_) | refine eD rfl rfl (zQ rfl rfl rfl) (fun hh => ?_) (fun hh => ?_) | refine eV rfl rfl (zU rfl rfl rfl (by omega) (by omega)) ?_) | refine eV rfl rfl (zH rfl rfl) ?_ | refine eL rfl rfl rfl rfl rfl rfl rfl rfl (fun bS wS xS hbS rS => ?_)) | (refine at_K ?_; first | refine K_then ?_ | refine K_in ?_ | refine K_then_exit ?_ | refine K_in_exit ?_) | (refine at_E ?_; first | refine E_seq ?_ | refine E_region ?_ | refine E_cond_t rfl ?_ | refine E_cond_f rfl ?_ | refine E_block ?_ | refine E_skip ?_ | refine E_exit ?_)))
        all_goals (first | (exfalso; omega) | skip)
        refine K_rnd (k + 1, vI) ⟨rfl, rfl, rfl, rfl, rfl, rfl, rfl, rfl, rfl, rfl, trivial⟩ ⟨by dsimp only; omega, hx, ?_⟩ (by dsimp only; omega)
        dsimp only
        rw [hft]
        exact hown
      · rw [if_pos (by simp [hze])] at hft
        (repeat' (first | refine eV rfl rfl (val_indexAddr (m := k) rfl rfl rfl rfl hlt2) ?_ | refine eV rfl rfl (val_load rfl rfl rfl hcell) ?_ | (refine EL_app (own_ext hown xS) (hx.trans xS) rS.at rfl rfl rfl rfl rfl rfl rfl rfl rfl (by omega) (by omega) (fun vJ wJ oJ xJ _ => ?_)) | (refine at_EL ?_; first | refine eN ?_ | refine eV rfl rfl (zA rfl rfl) ?_ | refine eV rfl rfl (zB rfl rfl) ?_ | (refine at_bin ?_; first | refine eD rfl rfl (zL rfl rfl rfl) (fun hh => ?_) (fun hh => ?_) | refine eD rfl rfl (zQ rfl rfl rfl) (fun hh => ?_) (fun hh => ?_) | refine eV rfl rfl (zU rfl rfl rfl (by omega) (by omega)) ?_) | refine eV rfl rfl (zH rfl rfl) ?_ | refine eL rfl rfl rfl rfl rfl rfl rfl rfl (fun bS wS xS hbS rS => ?_)) | (refine at_K ?_; first | refine K_then ?_ | refine K_in ?_ | refine K_then_exit ?_ | refine K_in_exit ?_) | (refine at_E ?_; first | refine E_seq ?_ | refine E_region ?_ | refine E_cond_t rfl ?_ | refine E_cond_f rfl ?_ | refine E_block ?_ | refine E_skip ?_ | refine E_exit ?_)))
        all_goals (first | (exfalso; omega) | skip)
        refine K_rnd (k + 1, vJ) ⟨rfl, rfl, rfl, rfl, rfl, rfl, rfl, rfl, rfl, rfl, trivial⟩ ⟨by dsimp only; omega, xJ, ?_⟩ (by dsimp only; omega)
        dsimp only
        rw [hft]
        simpa [Value.cells] using oJ
    · obtain rfl : k = p.ids.length := by omega
      rw [List.take_length] at hown hfl
      obtain ⟨ids, hidd⟩ : ∃ ids, ids = p.ids.filter fun n => decide (n ≠ id) := ⟨_, rfl⟩
      rw [← hidd] at hown htk hfl
      have hVs : SlG (Fr (GO G w) wC) wr vI ids := own_SlG (css := ids.map fun z => [int z]) (by rw [ints_flat]; exact hown) (ints_ats _ _) (fun b hb => .inr hb) rfl (by omega)
      have hVs0 := hVs
      obtain ⟨aI, capI, rfl, hcI, hmI, hpI⟩ := hVs.sl
      have x3 := hx
      have rA3 := rA.ext (xC.trans hx)
      (repeat' (first | refine eV rfl rfl (val_load rfl rfl rfl ((rB.ext hx).cellAt rfl)) ?_ | refine eV rfl rfl (val_slice_h (b := n) rfl rfl rfl rfl (by omega)) ?_ | (refine at_EL ?_; first | refine eN ?_ | refine eV rfl rfl (zA rfl rfl) ?_ | refine eV rfl rfl (zB rfl rfl) ?_ | (refine at_bin ?_; first | refine eD rfl rfl (zL rfl rfl rfl) (fun hh => ?_) (fun hh => ?_)) | refine eV rfl rfl (zH rfl rfl) ?_) | (refine at_K ?_; first | refine K_then ?_ | refine K_then_exit ?_ | refine K_in_exit ?_) | (refine at_E ?_; first | refine E_seq ?_ | refine E_region ?_ | refine E_cond_t rfl ?_ | refine E_cond_f rfl ?_ | refine E_block ?_ | refine E_skip ?_ | refine E_exit ?_)))
      all_goals (first | (exfalso; omega) | skip)
      refine EL_appB (w0 := wr) (news := css1.flatten) (World.ownsRow_nil _ _ _ _) (Ext.refl _) (fun h0 => ?_) rfl rfl rfl rfl rfl hf1 (AtsG.ones hA1) rfl rfl (by omega) (by omega) (fun vP wP oP xP _ _ => ?_)
      · obtain ⟨b', so, e1, _, e2⟩ := hcs1 (by omega)
        cases e1
        exact e2.ext (x0.trans hx)
      by_cases hnil : ids = []
      · have hl0 : ids.length = 0 := by rw [hnil]; rfl
        rw [if_pos hnil, List.nil_append] at htk
        (repeat' (first | (refine eV rfl rfl (val_slice_l (b := n + 1) rfl rfl rfl (by omega) (by omega)) ?_; rw [hif]) | refine eV rfl rfl (val_load rfl rfl rfl ((rB.ext (x3.trans xP)).cellAt rfl)) ?_ | (refine at_EL ?_; first | refine eN ?_ | refine eV rfl rfl (zA rfl rfl) ?_ | refine eV rfl rfl (zB rfl rfl) ?_ | (refine at_bin ?_; first | refine eD rfl rfl (zO rfl rfl rfl) (fun hh => ?_) (fun hh => ?_) | refine eV rfl rfl (zU rfl rfl rfl (by omega) (by omega)) ?_) | (refine at_call ?_; first | refine eV rfl rfl (zK rfl rfl) ?_) | refine eV rfl rfl (zH rfl rfl) ?_) | (refine at_K ?_; first | refine K_then ?_) | (refine at_E ?_; first | refine E_seq ?_ | refine E_region ?_ | refine E_cond_t rfl ?_ | refine E_cond_f rfl ?_ | refine E_skip ?_)))
        all_goals (first | (exfalso; omega) | skip)
        refine EL_appB (news := css3.flatten) oP xP (fun h0 => ?_) rfl rfl rfl rfl rfl hf3 (AtsG.ones hA3) rfl rfl (by omega) (by omega) (fun vQ wQ oQ xQ _ _ => ?_)
        · obtain ⟨b', so, e1, _, e2⟩ := hcs3 (by omega)
          cases hif.symm.trans e1
          exact e2.ext (x0.trans (x3.trans xP))
        have hQ : SlG (Fr (GO G w) wC) wQ vQ (xs.take n ++ xs.drop (n + 1)) := own_SlG (css := css1 ++ css3) (by simpa [show Rep.sz Post = 3 from rfl] using oQ)
          (AllAt.append (AtsG.wk (AtsG.ext (oldA hA1) (x0.trans (x3.trans xQ))) fun b h => .inl h) (AtsG.wk (AtsG.ext (oldA hA3) (x0.trans (x3.trans xQ))) fun b h => .inl h)) (fun b hb => .inr (by have := hx.size; omega)) (by first | omega | (simp only [List.length_append, List.length_take, List.length_drop, List.length_cons, List.length_nil, List.length_set]; omega)) (by first | omega | (simp only [List.length_append, List.length_take, List.length_drop, List.length_cons, List.length_nil, List.length_set]; omega))
        have hQ0 := hQ
        obtain ⟨aQ, capQ, rfl, _⟩ := hQ.sl
        (repeat' (first | refine eV rfl rfl (val_build (vs := [(0, .slice aQ _ capQ)]) [.slice aQ _ capQ] rfl rfl rfl) ?_))
        refine EL_storeP (cs := [_]) (rA3.ext xQ) (x0.trans (x3.trans xQ)) (by have := xB.size; omega) rfl rfl rfl rfl rfl rfl rfl rfl (Nat.le_refl _) (fun w9 r9 x9 k9 => ?_)
        (repeat' (first | (refine at_EL ?_; first | refine eN ?_) | (refine at_K ?_; first | refine K_then ?_) | (refine at_E ?_; first | refine E_ret ?_)))
        refine ret_c rfl rfl rfl r9.at rfl ⟨x9, _, rfl, ?_⟩
        rw [htk]
        exact (hQ0.move (k9.mv fun b hb he => by
          have := rA.lt; have := xB.size; have := xC.size
          cases he
          rcases hb with ⟨_, hb⟩ | hb <;> omega)).wk (fr_of x0.size)
      · have hl0 : 0 < ids.length := List.length_pos_iff.2 hnil
        rw [if_neg hnil, List.singleton_append] at htk
        (repeat' (first | refine eV rfl rfl (val_build (vs := [(0, int r), (1, str t), (2, .slice aI ids.length capI)]) [int r, str t, .slice aI ids.length capI] rfl rfl rfl) ?_ | (refine EL_appB (news := [int r, str t, .slice aI ids.length capI]) (own_ext oP xS) (xP.trans xS) (fun _ => rS.at) rfl rfl rfl rfl rfl rfl rfl rfl rfl (by omega) (by omega) (fun vR wR oR xR _ _ => ?_); clear oP) | (refine eV rfl rfl (val_slice_l (b := n + 1) rfl rfl rfl (by omega) (by omega)) ?_; rw [hif]) | refine eV rfl rfl (val_load rfl rfl rfl ((rB.ext (x3.trans xR)).cellAt rfl)) ?_ | (refine at_EL ?_; first | refine eN ?_ | refine eV rfl rfl (zA rfl rfl) ?_ | refine eV rfl rfl (zB rfl rfl) ?_ | (refine at_bin ?_; first | refine eD rfl rfl (zO rfl rfl rfl) (fun hh => ?_) (fun hh => ?_) | refine eV rfl rfl (zU rfl rfl rfl (by omega) (by omega)) ?_) | (refine at_call ?_; first | refine eV rfl rfl (zK rfl rfl) ?_) | refine eV rfl rfl (zH rfl rfl) ?_ | refine eL rfl rfl rfl rfl rfl rfl rfl rfl (fun bS wS xS hbS rS => ?_)) | (refine at_K ?_; first | refine K_then ?_) | (refine at_E ?_; first | refine E_seq ?_ | refine E_region ?_ | refine E_cond_t rfl ?_ | refine E_cond_f rfl ?_ | refine E_skip ?_)))
        all_goals (first | (exfalso; omega) | skip)
        refine EL_appB (news := css3.flatten) oR xR (fun h0 => ?_) rfl rfl rfl rfl rfl hf3 (AtsG.ones hA3) rfl rfl (by omega) (by omega) (fun vQ wQ oQ xQ _ _ => ?_)
        · obtain ⟨b', so, e1, _, e2⟩ := hcs3 (by omega)
          cases hif.symm.trans e1
          exact e2.ext (x0.trans (x3.trans xR))
        have hQ : SlG (Fr (GO G w) wC) wQ vQ (xs.take n ++ ⟨r, t, ids⟩ :: xs.drop (n + 1)) := own_SlG (css := css1 ++ [int r, str t, .slice aI ids.length capI] :: css3) (by simpa [show Rep.sz Post = 3 from rfl] using oQ)
          (AllAt.append (AtsG.wk (AtsG.ext (oldA hA1) (x0.trans (x3.trans xQ))) fun b h => .inl h) ⟨⟨_, rfl, hVs0.ext xQ⟩, AtsG.wk (AtsG.ext (oldA hA3) (x0.trans (x3.trans xQ))) fun b h => .inl h⟩) (fun b hb => .inr (by have := hx.size; omega)) (by first | omega | (simp only [List.length_append, List.length_take, List.length_drop, List.length_cons, List.length_nil, List.length_set]; omega)) (by first | omega | (simp only [List.length_append, List.length_take, List.length_drop, List.length_cons, List.length_nil, List.length_set]; omega))
        have hQ0 := hQ
        obtain ⟨aQ, capQ, rfl, _⟩ := hQ.sl
        (repeat' (first | refine eV rfl rfl (val_build (vs := [(0, .slice aQ _ capQ)]) [.slice aQ _ capQ] rfl rfl rfl) ?_))
        refine EL_storeP (cs := [_]) (rA3.ext xQ) (x0.trans (x3.trans xQ)) (by have := xB.size; omega) rfl rfl rfl rfl rfl rfl rfl rfl (Nat.le_refl _) (fun w9 r9 x9 k9 => ?_)
        (repeat' (first | (refine at_EL ?_; first | refine eN ?_) | (refine at_K ?_; first | refine K_then ?_) | (refine at_E ?_; first | refine E_ret ?_)))
        refine ret_c rfl rfl rfl r9.at rfl ⟨x9, _, rfl, ?_⟩
        rw [htk]
        exact (hQ0.move (k9.mv fun b hb he => by
          have := rA.lt; have := xB.size; have := xC.size
          cases he
          rcases hb with ⟨_, hb⟩ | hb <;> omega)).wk (fr_of x0.size)
end Go.Proofs.YtjpjpgeeeigbkaaDoor
