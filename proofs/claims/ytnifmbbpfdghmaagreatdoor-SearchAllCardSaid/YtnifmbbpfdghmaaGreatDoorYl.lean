/-
  Walks of the layers runes and pattern. Walks of the layers runes and pattern.
-/
import Derived.Test.YtnifmbbpfdghmaaGreatDoorPi
import Derived.Test.YtnifmbbpfdghmaaGreatDoorY2
set_option linter.all false
namespace Go.Proofs.YtnifmbbpfdghmaaGreatDoor
open Go.RowKit Go.En
attribute [local irreducible] E EL K Val Enters Rt Calls bodyPost Code.wp RQ
set_option maxRecDepth 8000 in
theorem parts {p : List UInt8} {ts : List Int} (h : tokens p = .ok ts) : ∃ zs ys, points p = some zs ∧ itGo ([], false) zs = some (ys, false) ∧ ts = ys.map tokOf ∧ (∀ y ∈ ys, y.1 = 0 ∨ y.1 = 1 ∨ y.1 = 2) ∧ (∀ y ∈ ys, y.1 = 0 → scal y.2 = true) := by
  have hok:=(tokens_ok h).2.1
  unfold tokens at h
  split at h
  · cases h
  · split at h
    · cases h
    · split at h
      · cases h
      · rename_i zs hz
        split at h
        · cases h
        · rename_i us hu
          cases h
          have hc:zs.any ctl=false:=by
            cases hcc:zs.any ctl with
            | false=>rfl
            | true=>rw [tokGo_ctl _ zs (Nat.le_refl _) hcc] at hu;cases hu
          have hg:=itGo_tok _ zs [] (Nat.le_refl _) hc
          rw [hu] at hg
          revert hg
          cases hi:itGo ([],false) zs with
          | none=>exact fun h=>h.elim
          | some q=>
            obtain⟨xs,b⟩:=q
            cases b with
            | true=>exact fun h=>h.elim
            | false=>
              rintro⟨ys,hxs,rfl,hk⟩
              rw [List.nil_append] at hxs
              subst hxs
              refine⟨zs,_,hz,hi,rfl,hk,fun y hy h0=>?_⟩
              have:=hok (tokOf y) (List.mem_map.2 ⟨y,hy,rfl⟩)
              unfold TokOk tokOf at this
              rw [if_pos h0] at this
              rcases this with h|h|h
              · omega
              · omega
              · simpa using h.2
set_option maxRecDepth 8000 in
theorem pItems_any {p:List UInt8} {zs:List Nat} {ys:List (Int × Nat)} (hl:p.length≤64) (hp:points p=some zs) (hi:itGo ([],false) zs=some (ys,false)) (w:World) :
    Calls Tryz.prog 120 #[str p] w (Rt fun u w'=>Ext w w'∧∃ v,u=.tuple #[v,.bool true]∧ItsOwn w w' v ys):=by
  have h:=items_any p (by omega) zs hp w
  rw [hi] at h
  exact h
set_option maxRecDepth 8000 in
theorem checkF_ok {p:List UInt8} {ts:List Int} (h:tokens p=.ok ts):checkF p=0:=by unfold checkF;rw [h]
set_option maxRecDepth 8000 in
theorem checkF_err {p:List UInt8} {e:Int} (h:tokens p=.error e):checkF p≠0:=by unfold checkF;rw [h];exact err_ne h
set_option maxRecDepth 8000 in
theorem it_len (z:Int × Nat):(itCells z).length=2:=rfl
set_option maxRecDepth 8000 in
theorem it_kind {w:World} {b:Nat} {e:TypeId} {y:Int × Nat} (h:Row w b e (itCells y)):w.cell? ⟨b,0,none⟩=some (int y.1):=h.cell 0
set_option maxRecDepth 8000 in
theorem it_scal {w:World} {b:Nat} {e:TypeId} {y:Int × Nat} (h:Row w b e (itCells y)):w.cell? ⟨b,1,none⟩=some (.int .i32 (y.2:Int)):=h.cell 1
end Go.Proofs.YtnifmbbpfdghmaaGreatDoor
namespace Go.Proofs.YtnifmbbpfdghmaaGreatDoor
open Go.RowKit Go.En
attribute [local irreducible] E EL K Val Enters Rt Calls bodyPost Code.wp RQ
set_option maxRecDepth 8000 in
theorem tok_many {y:Int × Nat} (h:y.1=2):tokOf y = -1:=by unfold tokOf;rw [h];simp
set_option maxRecDepth 8000 in
theorem tok_one {y:Int × Nat} (h:y.1=1):tokOf y = -2:=by unfold tokOf;rw [h];simp
set_option maxRecDepth 8000 in
theorem tok_plain {y:Int × Nat} (h:y.1=0):tokOf y=(y.2:Int):=by unfold tokOf;rw [h];simp
set_option maxRecDepth 8000 in
set_option maxHeartbeats 8000000 in
theorem pMatch_any (p s : List UInt8) (hs : s.length ≤ 1048576) (w : World) (hT : Tabs w) : Calls Tryz.prog 83 #[str p, str s] w (Rt fun u w' => u = .bool (matchF p s) ∧ Ext w w') := by
  refine calls_E (n:=119) (args:=[str p,str s]) Tryz.func83 rfl Tryz.ntmps83 (by simp) ?_
  unfold matchF
  cases htk:tokens p with
  | error e=>
    have hne:=checkF_err htk
    (repeat' (first|(refine EL_call Z Z (entersF Z Z en118) (pCheck_any p _ hT) (fun vC wC hC=>?_);obtain⟨rfl,xC⟩:=hC)|(refine at_EL ?_;first|refine EL_nil ?_|refine EL_val Z Z (val_move Z Z) ?_|refine EL_val Z Z (val_assign Z Z) ?_|(refine at_bin ?_;first|refine EL_dec Z Z (val_neq Z Z Z) (fun hh=>?_) (fun hh=>?_)))|(refine at_K ?_;first|refine K_then ?_|refine K_then_ret ?_)|(refine at_E ?_;first|refine E_seq ?_|refine E_region ?_|refine E_cond_t Z ?_|refine E_cond_f Z ?_|refine E_skip ?_|refine E_ret ?_)))
    all_goals (first|(exfalso;omega)|(exact absurd (Classical.not_not.1 ‹_›) hne)|skip)
    exact ret_1 Z Z ⟨rfl,xC⟩
  | ok ts =>
    have hz0:=checkF_ok htk
    obtain⟨hl2,hok,hl3⟩:=tokens_ok htk
    obtain⟨zs',ys,hpp,hii,hts,hky,hsc⟩:=parts htk
    have htl:ts.length=ys.length:=by rw [hts];simp
    cases hpt:points s with
    | none=>
      (repeat' (first|(refine EL_call Z Z (entersF Z Z en118) (pCheck_any p _ hT) (fun vC wC hC=>?_);obtain⟨rfl,xC⟩:=hC;rw [hz0])|(refine EL_call Z Z (entersF Z Z en119) (pPoints_any s hs _ (hT.ext xC)) (fun vC wD hC=>?_);rw [hpt] at hC;obtain⟨xD,rfl⟩:=hC)|(refine at_EL ?_;first|refine EL_nil ?_|refine EL_val Z Z (val_move Z Z) ?_|refine EL_val Z Z (val_assign Z Z) ?_|(refine at_bin ?_;first|refine EL_dec Z Z (val_neq Z Z Z) (fun hh=>?_) (fun hh=>?_))|refine EL_val Z Z (val_not Z Z) ?_|refine EL_val Z Z (val_extract Z Z Z) ?_)|(refine at_K ?_;first|refine K_then ?_|refine K_then_ret ?_)|(refine at_E ?_;first|refine E_seq ?_|refine E_region ?_|refine E_cond_t Z ?_|refine E_cond_f Z ?_|refine E_skip ?_|refine E_ret ?_)))
      all_goals (first|(exfalso;omega)|(exact absurd rfl ‹_›)|skip)
      exact ret_1 Z Z ⟨rfl,xC.trans xD⟩
    | some zs=>
      obtain⟨hzl,_,_⟩:=points_len _ s zs (Nat.le_refl _) hpt
      (repeat' (first|(refine EL_call Z Z (entersF Z Z en118) (pCheck_any p _ hT) (fun vC wC hC=>?_);obtain⟨rfl,xC⟩:=hC;rw [hz0])|(refine EL_call Z Z (entersF Z Z en119) (pPoints_any s hs _ (hT.ext xC)) (fun vC wD hC=>?_);rw [hpt] at hC;obtain⟨xD,vP,rfl,oP⟩:=hC)|refine EL_runes hpt (by omega) Z Z Z Z (fun bR capR wR xR hbR hcR atR=>?_)|refine EL_make1 (m:=zs.length+1) Z Z Z Z Z (by omega) (by omega) Z (by omega) (by omega) (fun bM wM hbM rM xM=>?_)|(refine at_EL ?_;first|refine EL_nil ?_|refine EL_val Z Z (val_move Z Z) ?_|refine EL_val Z Z (val_assign Z Z) ?_|(refine at_bin ?_;first|refine EL_dec Z Z (val_neq Z Z Z) (fun hh=>?_) (fun hh=>?_)|(refine EL_val Z Z (val_add Z Z Z ?_ ?_) ?_;(first|omega|(simp only [IntKind.min,IntKind.max,IntKind.signed,IntKind.bits,Bool.false_eq_true,if_false,if_true];omega));(first|omega|(simp only [IntKind.min,IntKind.max,IntKind.signed,IntKind.bits,Bool.false_eq_true,if_false,if_true];omega))))|(refine at_call ?_;first|refine EL_val Z Z (val_len_sl Z Z) ?_)|refine EL_val Z Z (val_not Z Z) ?_|refine EL_val Z Z (val_extract Z Z Z) ?_)|(refine at_K ?_;first|refine K_then ?_|refine K_then_ret ?_)|(refine at_E ?_;first|refine E_seq ?_|refine E_region ?_|refine E_cond_t Z ?_|refine E_cond_f Z ?_|refine E_skip ?_|refine E_ret ?_)))
      all_goals (first|(exfalso;omega)|(exact absurd rfl ‹_›)|skip)
      refine EL_val Z Z (val_indexAddr (m:=0) Z Z Z Z (by omega)) ?_
      refine EL_store1 rM xM (Nat.le_of_eq hbM.symm) Z Z Z Z Z Z Z (by simp) (fun wN rN xN _=>?_)
      have rN':Row wN bM 4 ((row0 zs).map .bool):=by
        have:(List.replicate (zs.length+1) (Value.bool false)).set (0+0*1) (.bool true)=(row0 zs).map .bool:=by simp [row0,List.replicate_succ]
        rw [← this];exact rN
      clear rN rM xM hbM
      (repeat' (first|(refine EL_call Z Z (entersF Z Z en120) (pItems_any hl3 hpp hii _) (fun vC wI hC=>?_);obtain⟨xI,vI,rfl,oI⟩:=hC;obtain⟨a,cap,rfl,hc,hat⟩:=own_sl oI)|(refine at_EL ?_;first|refine EL_nil ?_|refine EL_val Z Z (val_move Z Z) ?_|refine EL_val Z Z (val_assign Z Z) ?_|(refine at_call ?_;first|refine EL_val Z Z (val_len_sl Z Z) ?_)|refine EL_val Z Z (val_extract Z Z Z) ?_)|(refine at_K ?_;first|refine K_then ?_)|(refine at_E ?_;first|refine E_seq ?_|refine E_region ?_|refine E_block ?_)))
      refine E_loop (ι:=Nat × Nat) (fun x=>[(7,.slice (some ⟨bR,0,none⟩) zs.length capR),(8,.slice (some ⟨x.2,0,none⟩) (zs.length+1) (zs.length+1)),(38,.slice a ys.length cap),(39,int ys.length),(40,int x.1)])
        (fun x wr=>x.1≤ys.length∧Ext wI wr∧Row wr x.2 4 (((ts.take x.1).foldl (stepRow zs) (row0 zs)).map .bool)) (fun x=>ys.length-x.1) (0,bM) ⟨rfl,rfl,rfl,rfl,rfl,trivial⟩ ⟨Nat.zero_le _,Ext.refl _,rN'.ext xI⟩ ?_
      rintro⟨i,bC⟩ wr ⟨hi,hx,hrow⟩
      dsimp only at hi hx hrow ⊢
      have hrl:=rows_len zs (ts.take i)
      by_cases hlt:i<ys.length
      · obtain ⟨b1, off1, rfl, hq1⟩ := hat (by omega)
        obtain⟨y,hy⟩:∃ y,ys[i]?=some y:=⟨_,List.getElem?_eq_getElem hlt⟩
        have hqy:=(hq1.elem (fun z _=>it_len z) hy).ext hx
        have hti:ts[i]?=some (tokOf y):=by rw [hts,List.getElem?_map,hy];rfl
        have hk3:=hky y (List.mem_of_getElem? hy)
        obtain⟨t,ht⟩:∃ t,t=tokOf y:=⟨_,rfl⟩
        rw [← ht] at hti
        have hfold:(ts.take (i+1)).foldl (stepRow zs) (row0 zs)=stepRow zs ((ts.take i).foldl (stepRow zs) (row0 zs)) t:=by
          obtain⟨h1,rfl⟩:=List.getElem?_eq_some_iff.1 hti
          rw [List.take_succ_eq_append_getElem h1,List.foldl_append];rfl
        obtain⟨row,hrw⟩:∃ row,row=(ts.take i).foldl (stepRow zs) (row0 zs):=⟨_,rfl⟩
        rw [← hrw] at hrl hrow hfold
        (repeat' (first|refine EL_val Z Z (val_indexAddr (m:=i) Z Z Z Z hlt) ?_|refine EL_val Z Z (val_loadA (cs:=itCells y) Z Z Z hqy rfl) ?_|refine EL_alloc Z Z Z (fun bA wA xA hbA rA=>?_)|refine EL_storeA rA xA (Nat.le_of_eq hbA.symm) Z Z Z Z Z Z Z Z (fun wB rB xB=>?_)|refine EL_make1 (m:=zs.length+1) Z Z Z Z Z (by omega) (by omega) Z (by omega) (by omega) (fun bM wM hbM rM xM=>?_)|(refine at_EL ?_;first|refine EL_nil ?_|refine EL_val Z Z (val_move Z Z) ?_|refine EL_val Z Z (val_assign Z Z) ?_|(refine at_bin ?_;first|refine EL_dec Z Z (val_lss Z Z Z) (fun hh=>?_) (fun hh=>?_)|(refine EL_val Z Z (val_add Z Z Z ?_ ?_) ?_;(first|omega|(simp only [IntKind.min,IntKind.max,IntKind.signed,IntKind.bits,Bool.false_eq_true,if_false,if_true];omega));(first|omega|(simp only [IntKind.min,IntKind.max,IntKind.signed,IntKind.bits,Bool.false_eq_true,if_false,if_true];omega))))|(refine at_call ?_;first|refine EL_val Z Z (val_len_sl Z Z) ?_))|(refine at_K ?_;first|refine K_then ?_|refine K_then_exit ?_|refine K_in_exit ?_)|(refine at_E ?_;first|refine E_seq ?_|refine E_region ?_|refine E_cond_t Z ?_|refine E_cond_f Z ?_|refine E_block ?_|refine E_skip ?_|refine E_exit ?_)))
        all_goals (first|(exfalso;omega)|skip)
        refine E_loop (ι:=Nat) (fun k=>[(7,.slice (some ⟨bR,0,none⟩) zs.length capR),(8,.slice (some ⟨bC,0,none⟩) (zs.length+1) (zs.length+1)),(12,.pointer (some ⟨bA,0,none⟩)),(13,.slice (some ⟨bM,0,none⟩) (zs.length+1) (zs.length+1)),(38,.slice (some ⟨b1,off1,none⟩) ys.length cap),(39,int ys.length),(40,int i),(49,int ((zs.length+1:Nat):Int)),(50,int k)])
          (fun k w2=>k≤zs.length+1∧Ext wB w2∧Row w2 bM 4 ((partRow t row zs k).map .bool)) (fun k=>zs.length+1-k) 0 ⟨rfl,rfl,rfl,rfl,rfl,rfl,rfl,rfl,rfl,trivial⟩ ⟨Nat.zero_le _,xM,by simpa [partRow,buildN] using rM⟩ ?_
        rintro k w2 ⟨hk,hx2,hn2⟩
        have rB2:=rB.ext hx2
        by_cases hk2:k<zs.length+1
        · have hpl:=partRow_len t row zs k hk
          have hps:=partRow_set t row zs k hk2
          have hbl:=buildN_len t row zs k
          obtain⟨c1,hc1⟩:∃ c1,row[k]?=some c1:=⟨_,List.getElem?_eq_getElem (by omega)⟩
          have hcell1:=row_ith (hrow.ext (xB.trans hx2)) hc1
          rcases hk3 with h0|h0|h0
          · have htp:=ht.trans (tok_plain h0)
            have hna:=next_other (t:=t) (row:=row) (zs:=zs) (k:=k) (by omega)
            by_cases hk0:k=0
            · rw [show decide (0<k)=false by simp [hk0],Bool.false_and,Bool.false_and] at hna
              rw [hna] at hps
              (repeat' (first|refine EL_val Z Z (val_load Z Z Z (it_kind rB2)) ?_|refine RQ_val Z Z (fun _ _ _=>val_indexAddr (m:=k) Z Z Z Z (by omega)) ?_|refine EL_store1 (hn2.ext xq) (hx2.trans xq) (Nat.le_of_eq hbM.symm) Z Z Z Z Z Z Z (by simp;omega) (fun wN rN xN _=>?_)|(refine at_EL ?_;first|refine EL_nil ?_|refine EL_no Z Z ?_|refine EL_val Z Z (val_move Z Z) ?_|refine EL_val Z Z (val_assign Z Z) ?_|(refine at_bin ?_;first|refine EL_dec Z Z (val_lss Z Z Z) (fun hh=>?_) (fun hh=>?_)|refine EL_dec Z Z (val_eql Z Z Z) (fun hh=>?_) (fun hh=>?_)|refine EL_dec Z Z (val_gtr Z Z Z) (fun hh=>?_) (fun hh=>?_)|(refine EL_val Z Z (val_add Z Z Z ?_ ?_) ?_;(first|omega|(simp only [IntKind.min,IntKind.max,IntKind.signed,IntKind.bits,Bool.false_eq_true,if_false,if_true];omega));(first|omega|(simp only [IntKind.min,IntKind.max,IntKind.signed,IntKind.bits,Bool.false_eq_true,if_false,if_true];omega)))|(refine EL_val Z Z (val_sub Z Z Z ?_ ?_) ?_;(first|omega|(simp only [IntKind.min,IntKind.max,IntKind.signed,IntKind.bits,Bool.false_eq_true,if_false,if_true];omega));(first|omega|(simp only [IntKind.min,IntKind.max,IntKind.signed,IntKind.bits,Bool.false_eq_true,if_false,if_true];omega))))|refine EL_val Z Z (val_pick_f Z Z Z) ?_|refine EL_val Z Z (val_fieldAddr Z Z) ?_)|(refine at_K ?_;first|refine K_then ?_|refine K_in ?_|refine K_then_exit ?_|refine K_in_exit ?_)|(refine at_E ?_;first|refine E_seq ?_|refine E_region ?_|refine E_cond_t Z ?_|refine E_cond_f Z ?_|refine E_block ?_|refine E_skip ?_|refine E_exit ?_|refine E_dq mixedOk (by kernel_rfl) Z ?_)|(refine at_RQ ?_;first|refine RQ_fin Z (fun wq xq=>?_)|refine RQ_no Z Z ?_|refine RQ_val Z Z (fun _ _ _=>val_move Z Z) ?_|(refine at_binR ?_;first|refine RQ_dec Z Z (fun _ _ _=>val_gtr Z Z Z) (fun hh=>?_) (fun hh=>?_)|(refine RQ_val Z Z (fun _ _ _=>val_sub Z Z Z ?_ ?_) ?_;(first|omega|(simp only [IntKind.min,IntKind.max,IntKind.signed,IntKind.bits,Bool.false_eq_true,if_false,if_true];omega));(first|omega|(simp only [IntKind.min,IntKind.max,IntKind.signed,IntKind.bits,Bool.false_eq_true,if_false,if_true];omega))))|refine RQ_val Z Z (fun _ _ _=>val_pick_f Z Z Z) ?_)))
              all_goals (first|(exfalso;omega)|skip)
              all_goals
                refine K_rnd (k+1) ⟨rfl,rfl,rfl,rfl,rfl,rfl,rfl,rfl,rfl,trivial⟩ ⟨by omega,xN,?_⟩ (by omega)
                rw [← hps,List.map_set]
                simpa using rN
            · have hk1:k-1<zs.length:=by omega
              obtain⟨z,hzz⟩:∃ z,zs[k-1]?=some z:=⟨_,List.getElem?_eq_getElem hk1⟩
              have hcellz:w2.cell? ⟨bR,0+(k-1)*1,none⟩=some (.int .i32 (z:Int)):=((((((atR.ext xN).ext xI).ext hx).ext xB).ext hx2)).ith hzz
              obtain⟨c0,hc0⟩:∃ c,row[k-1]?=some c:=⟨_,List.getElem?_eq_getElem (by omega)⟩
              have hcell0:=row_ith (hrow.ext (xB.trans hx2)) hc0
              rw [show decide (0<k)=true by simp;omega,Bool.true_and,show row.getD (k-1) false=c0 by simp [List.getD_eq_getElem?_getD,hc0],show zs.getD (k-1) 0=z by simp [List.getD_eq_getElem?_getD,hzz],show decide (t = -2)=false by simp;omega,Bool.false_or] at hna
              rw [hna] at hps
              clear hna
              have hcmp:((z:Int)=(y.2:Int))↔(t=(z:Int)):=by rw [htp];exact eq_comm
              cases c0 with
              | false=>
                rw [Bool.false_and] at hps
                (repeat' (first|refine EL_val Z Z (val_load Z Z Z (it_kind rB2)) ?_|refine RQ_val Z Z (fun _ _ _=>val_indexAddr (m:=k) Z Z Z Z (by omega)) ?_|refine RQ_val Z Z (fun _ _ _=>val_indexAddr (m:=k-1) Z Z Z (by omega) (by omega)) ?_|refine RQ_val Z Z (fun wq _ xq=>val_load Z Z Z (xq.cell hcell0)) ?_|refine EL_store1 (hn2.ext xq) (hx2.trans xq) (Nat.le_of_eq hbM.symm) Z Z Z Z Z Z Z (by simp;omega) (fun wN rN xN _=>?_)|(refine at_EL ?_;first|refine EL_nil ?_|refine EL_no Z Z ?_|refine EL_val Z Z (val_move Z Z) ?_|refine EL_val Z Z (val_assign Z Z) ?_|(refine at_bin ?_;first|refine EL_dec Z Z (val_lss Z Z Z) (fun hh=>?_) (fun hh=>?_)|refine EL_dec Z Z (val_eql Z Z Z) (fun hh=>?_) (fun hh=>?_)|refine EL_dec Z Z (val_gtr Z Z Z) (fun hh=>?_) (fun hh=>?_)|(refine EL_val Z Z (val_add Z Z Z ?_ ?_) ?_;(first|omega|(simp only [IntKind.min,IntKind.max,IntKind.signed,IntKind.bits,Bool.false_eq_true,if_false,if_true];omega));(first|omega|(simp only [IntKind.min,IntKind.max,IntKind.signed,IntKind.bits,Bool.false_eq_true,if_false,if_true];omega)))|(refine EL_val Z Z (val_sub Z Z Z ?_ ?_) ?_;(first|omega|(simp only [IntKind.min,IntKind.max,IntKind.signed,IntKind.bits,Bool.false_eq_true,if_false,if_true];omega));(first|omega|(simp only [IntKind.min,IntKind.max,IntKind.signed,IntKind.bits,Bool.false_eq_true,if_false,if_true];omega))))|refine EL_val Z Z (val_pick_f Z Z Z) ?_|refine EL_val Z Z (val_fieldAddr Z Z) ?_)|(refine at_K ?_;first|refine K_then ?_|refine K_in ?_|refine K_then_exit ?_|refine K_in_exit ?_)|(refine at_E ?_;first|refine E_seq ?_|refine E_region ?_|refine E_cond_t Z ?_|refine E_cond_f Z ?_|refine E_block ?_|refine E_skip ?_|refine E_exit ?_|refine E_dq mixedOk (by kernel_rfl) Z ?_)|(refine at_RQ ?_;first|refine RQ_fin Z (fun wq xq=>?_)|refine RQ_no Z Z ?_|refine RQ_val Z Z (fun _ _ _=>val_move Z Z) ?_|(refine at_binR ?_;first|refine RQ_dec Z Z (fun _ _ _=>val_gtr Z Z Z) (fun hh=>?_) (fun hh=>?_)|(refine RQ_val Z Z (fun _ _ _=>val_sub Z Z Z ?_ ?_) ?_;(first|omega|(simp only [IntKind.min,IntKind.max,IntKind.signed,IntKind.bits,Bool.false_eq_true,if_false,if_true];omega));(first|omega|(simp only [IntKind.min,IntKind.max,IntKind.signed,IntKind.bits,Bool.false_eq_true,if_false,if_true];omega))))|refine RQ_val Z Z (fun _ _ _=>val_pick_t Z Z Z) ?_|refine RQ_val Z Z (fun _ _ _=>val_pick_f Z Z Z) ?_)))
                all_goals (first|(exfalso;omega)|skip)
                all_goals
                  refine K_rnd (k+1) ⟨rfl,rfl,rfl,rfl,rfl,rfl,rfl,rfl,rfl,trivial⟩ ⟨by omega,xN,?_⟩ (by omega)
                  rw [← hps,List.map_set]
                  simpa using rN
              | true=>
                rw [Bool.true_and] at hps
                by_cases heq:t=(z:Int)
                · rw [decide_eq_true heq] at hps
                  have heq':=hcmp.2 heq
                  (repeat' (first|refine EL_val Z Z (val_load Z Z Z (it_kind rB2)) ?_|refine RQ_val Z Z (fun _ _ _=>val_indexAddr (m:=k) Z Z Z Z (by omega)) ?_|refine RQ_val Z Z (fun _ _ _=>val_indexAddr (m:=k-1) Z Z Z (by omega) (by omega)) ?_|refine RQ_val Z Z (fun wq _ xq=>val_load Z Z Z (xq.cell hcell0)) ?_|refine RQ_val Z Z (fun wq _ xq=>val_load Z Z Z (xq.cell hcellz)) ?_|refine RQ_val Z Z (fun wq _ xq=>val_load Z Z Z (it_scal (rB2.ext xq))) ?_|refine EL_store1 (hn2.ext xq) (hx2.trans xq) (Nat.le_of_eq hbM.symm) Z Z Z Z Z Z Z (by simp;omega) (fun wN rN xN _=>?_)|(refine at_EL ?_;first|refine EL_nil ?_|refine EL_no Z Z ?_|refine EL_val Z Z (val_move Z Z) ?_|refine EL_val Z Z (val_assign Z Z) ?_|(refine at_bin ?_;first|refine EL_dec Z Z (val_lss Z Z Z) (fun hh=>?_) (fun hh=>?_)|refine EL_dec Z Z (val_eql Z Z Z) (fun hh=>?_) (fun hh=>?_)|refine EL_dec Z Z (val_gtr Z Z Z) (fun hh=>?_) (fun hh=>?_)|(refine EL_val Z Z (val_add Z Z Z ?_ ?_) ?_;(first|omega|(simp only [IntKind.min,IntKind.max,IntKind.signed,IntKind.bits,Bool.false_eq_true,if_false,if_true];omega));(first|omega|(simp only [IntKind.min,IntKind.max,IntKind.signed,IntKind.bits,Bool.false_eq_true,if_false,if_true];omega)))|(refine EL_val Z Z (val_sub Z Z Z ?_ ?_) ?_;(first|omega|(simp only [IntKind.min,IntKind.max,IntKind.signed,IntKind.bits,Bool.false_eq_true,if_false,if_true];omega));(first|omega|(simp only [IntKind.min,IntKind.max,IntKind.signed,IntKind.bits,Bool.false_eq_true,if_false,if_true];omega))))|refine EL_val Z Z (val_pick_f Z Z Z) ?_|refine EL_val Z Z (val_fieldAddr Z Z) ?_)|(refine at_K ?_;first|refine K_then ?_|refine K_in ?_|refine K_then_exit ?_|refine K_in_exit ?_)|(refine at_E ?_;first|refine E_seq ?_|refine E_region ?_|refine E_cond_t Z ?_|refine E_cond_f Z ?_|refine E_block ?_|refine E_skip ?_|refine E_exit ?_|refine E_dq mixedOk (by kernel_rfl) Z ?_)|(refine at_RQ ?_;first|refine RQ_fin Z (fun wq xq=>?_)|refine RQ_no Z Z ?_|refine RQ_val Z Z (fun _ _ _=>val_move Z Z) ?_|(refine at_binR ?_;first|refine RQ_dec Z Z (fun _ _ _=>val_eql Z Z Z) (fun hh=>?_) (fun hh=>?_)|refine RQ_dec Z Z (fun _ _ _=>val_gtr Z Z Z) (fun hh=>?_) (fun hh=>?_)|(refine RQ_val Z Z (fun _ _ _=>val_sub Z Z Z ?_ ?_) ?_;(first|omega|(simp only [IntKind.min,IntKind.max,IntKind.signed,IntKind.bits,Bool.false_eq_true,if_false,if_true];omega));(first|omega|(simp only [IntKind.min,IntKind.max,IntKind.signed,IntKind.bits,Bool.false_eq_true,if_false,if_true];omega))))|refine RQ_val Z Z (fun _ _ _=>val_pick_t Z Z Z) ?_|refine RQ_val Z Z (fun _ _ _=>val_pick_f Z Z Z) ?_|refine RQ_val Z Z (fun _ _ _=>val_fieldAddr Z Z) ?_)))
                  all_goals (first|(exfalso;omega)|skip)
                  all_goals
                    refine K_rnd (k+1) ⟨rfl,rfl,rfl,rfl,rfl,rfl,rfl,rfl,rfl,trivial⟩ ⟨by omega,xN,?_⟩ (by omega)
                    rw [← hps,List.map_set]
                    simpa using rN
                · rw [decide_eq_false heq] at hps
                  have heq':=fun h=>heq (hcmp.1 h)
                  (repeat' (first|refine EL_val Z Z (val_load Z Z Z (it_kind rB2)) ?_|refine RQ_val Z Z (fun _ _ _=>val_indexAddr (m:=k) Z Z Z Z (by omega)) ?_|refine RQ_val Z Z (fun _ _ _=>val_indexAddr (m:=k-1) Z Z Z (by omega) (by omega)) ?_|refine RQ_val Z Z (fun wq _ xq=>val_load Z Z Z (xq.cell hcell0)) ?_|refine RQ_val Z Z (fun wq _ xq=>val_load Z Z Z (xq.cell hcellz)) ?_|refine RQ_val Z Z (fun wq _ xq=>val_load Z Z Z (it_scal (rB2.ext xq))) ?_|refine EL_store1 (hn2.ext xq) (hx2.trans xq) (Nat.le_of_eq hbM.symm) Z Z Z Z Z Z Z (by simp;omega) (fun wN rN xN _=>?_)|(refine at_EL ?_;first|refine EL_nil ?_|refine EL_no Z Z ?_|refine EL_val Z Z (val_move Z Z) ?_|refine EL_val Z Z (val_assign Z Z) ?_|(refine at_bin ?_;first|refine EL_dec Z Z (val_lss Z Z Z) (fun hh=>?_) (fun hh=>?_)|refine EL_dec Z Z (val_eql Z Z Z) (fun hh=>?_) (fun hh=>?_)|refine EL_dec Z Z (val_gtr Z Z Z) (fun hh=>?_) (fun hh=>?_)|(refine EL_val Z Z (val_add Z Z Z ?_ ?_) ?_;(first|omega|(simp only [IntKind.min,IntKind.max,IntKind.signed,IntKind.bits,Bool.false_eq_true,if_false,if_true];omega));(first|omega|(simp only [IntKind.min,IntKind.max,IntKind.signed,IntKind.bits,Bool.false_eq_true,if_false,if_true];omega)))|(refine EL_val Z Z (val_sub Z Z Z ?_ ?_) ?_;(first|omega|(simp only [IntKind.min,IntKind.max,IntKind.signed,IntKind.bits,Bool.false_eq_true,if_false,if_true];omega));(first|omega|(simp only [IntKind.min,IntKind.max,IntKind.signed,IntKind.bits,Bool.false_eq_true,if_false,if_true];omega))))|refine EL_val Z Z (val_pick_f Z Z Z) ?_|refine EL_val Z Z (val_fieldAddr Z Z) ?_)|(refine at_K ?_;first|refine K_then ?_|refine K_in ?_|refine K_then_exit ?_|refine K_in_exit ?_)|(refine at_E ?_;first|refine E_seq ?_|refine E_region ?_|refine E_cond_t Z ?_|refine E_cond_f Z ?_|refine E_block ?_|refine E_skip ?_|refine E_exit ?_|refine E_dq mixedOk (by kernel_rfl) Z ?_)|(refine at_RQ ?_;first|refine RQ_fin Z (fun wq xq=>?_)|refine RQ_no Z Z ?_|refine RQ_val Z Z (fun _ _ _=>val_move Z Z) ?_|(refine at_binR ?_;first|refine RQ_dec Z Z (fun _ _ _=>val_eql Z Z Z) (fun hh=>?_) (fun hh=>?_)|refine RQ_dec Z Z (fun _ _ _=>val_gtr Z Z Z) (fun hh=>?_) (fun hh=>?_)|(refine RQ_val Z Z (fun _ _ _=>val_sub Z Z Z ?_ ?_) ?_;(first|omega|(simp only [IntKind.min,IntKind.max,IntKind.signed,IntKind.bits,Bool.false_eq_true,if_false,if_true];omega));(first|omega|(simp only [IntKind.min,IntKind.max,IntKind.signed,IntKind.bits,Bool.false_eq_true,if_false,if_true];omega))))|refine RQ_val Z Z (fun _ _ _=>val_pick_t Z Z Z) ?_|refine RQ_val Z Z (fun _ _ _=>val_pick_f Z Z Z) ?_|refine RQ_val Z Z (fun _ _ _=>val_fieldAddr Z Z) ?_)))
                  all_goals (first|(exfalso;omega)|skip)
                  all_goals
                    refine K_rnd (k+1) ⟨rfl,rfl,rfl,rfl,rfl,rfl,rfl,rfl,rfl,trivial⟩ ⟨by omega,xN,?_⟩ (by omega)
                    rw [← hps,List.map_set]
                    simpa using rN
          · have htp:=ht.trans (tok_one h0)
            have hna:=next_other (t:=t) (row:=row) (zs:=zs) (k:=k) (by omega)
            rw [show decide (t = -2)=true by simp [htp],Bool.true_or,Bool.and_true] at hna
            by_cases hk0:k=0
            · rw [show decide (0<k)=false by simp [hk0],Bool.false_and] at hna
              rw [hna] at hps
              (repeat' (first|refine EL_val Z Z (val_load Z Z Z (it_kind rB2)) ?_|refine EL_val Z Z (val_indexAddr (m:=k) Z Z Z Z (by omega)) ?_|refine EL_store1 hn2 hx2 (Nat.le_of_eq hbM.symm) Z Z Z Z Z Z Z (by simp;omega) (fun wN rN xN _=>?_)|(refine at_EL ?_;first|refine EL_nil ?_|refine EL_no Z Z ?_|refine EL_val Z Z (val_move Z Z) ?_|refine EL_val Z Z (val_assign Z Z) ?_|(refine at_bin ?_;first|refine EL_dec Z Z (val_lss Z Z Z) (fun hh=>?_) (fun hh=>?_)|refine EL_dec Z Z (val_eql Z Z Z) (fun hh=>?_) (fun hh=>?_)|refine EL_dec Z Z (val_gtr Z Z Z) (fun hh=>?_) (fun hh=>?_)|(refine EL_val Z Z (val_add Z Z Z ?_ ?_) ?_;(first|omega|(simp only [IntKind.min,IntKind.max,IntKind.signed,IntKind.bits,Bool.false_eq_true,if_false,if_true];omega));(first|omega|(simp only [IntKind.min,IntKind.max,IntKind.signed,IntKind.bits,Bool.false_eq_true,if_false,if_true];omega)))|(refine EL_val Z Z (val_sub Z Z Z ?_ ?_) ?_;(first|omega|(simp only [IntKind.min,IntKind.max,IntKind.signed,IntKind.bits,Bool.false_eq_true,if_false,if_true];omega));(first|omega|(simp only [IntKind.min,IntKind.max,IntKind.signed,IntKind.bits,Bool.false_eq_true,if_false,if_true];omega))))|refine EL_val Z Z (val_pick_f Z Z Z) ?_|refine EL_val Z Z (val_fieldAddr Z Z) ?_)|(refine at_K ?_;first|refine K_then ?_|refine K_in ?_|refine K_then_exit ?_|refine K_in_exit ?_)|(refine at_E ?_;first|refine E_seq ?_|refine E_region ?_|refine E_cond_t Z ?_|refine E_cond_f Z ?_|refine E_block ?_|refine E_skip ?_|refine E_exit ?_|refine E_dq mixedOk (by kernel_rfl) Z ?_)|(refine at_RQ ?_;first|refine RQ_no Z Z ?_|refine RQ_val Z Z (fun _ _ _=>val_move Z Z) ?_|(refine at_binR ?_;first|refine RQ_dec Z Z (fun _ _ _=>val_gtr Z Z Z) (fun hh=>?_) (fun hh=>?_)|(refine RQ_val Z Z (fun _ _ _=>val_sub Z Z Z ?_ ?_) ?_;(first|omega|(simp only [IntKind.min,IntKind.max,IntKind.signed,IntKind.bits,Bool.false_eq_true,if_false,if_true];omega));(first|omega|(simp only [IntKind.min,IntKind.max,IntKind.signed,IntKind.bits,Bool.false_eq_true,if_false,if_true];omega))))|refine RQ_val Z Z (fun _ _ _=>val_pick_f Z Z Z) ?_)))
              all_goals (first|(exfalso;omega)|skip)
              all_goals
                refine K_rnd (k+1) ⟨rfl,rfl,rfl,rfl,rfl,rfl,rfl,rfl,rfl,trivial⟩ ⟨by omega,xN,?_⟩ (by omega)
                rw [← hps,List.map_set]
                simpa using rN
            · obtain⟨c0,hc0⟩:∃ c,row[k-1]?=some c:=⟨_,List.getElem?_eq_getElem (by omega)⟩
              have hcell0:=row_ith (hrow.ext (xB.trans hx2)) hc0
              rw [show decide (0<k)=true by simp;omega,Bool.true_and,show row.getD (k-1) false=c0 by simp [List.getD_eq_getElem?_getD,hc0]] at hna
              rw [hna] at hps
              clear hna
              (repeat' (first|refine EL_val Z Z (val_load Z Z Z (it_kind rB2)) ?_|refine EL_val Z Z (val_indexAddr (m:=k-1) Z Z Z (by omega) (by omega)) ?_|refine EL_val Z Z (val_indexAddr (m:=k) Z Z Z Z (by omega)) ?_|refine EL_val Z Z (val_load Z Z Z hcell0) ?_|refine EL_store1 hn2 hx2 (Nat.le_of_eq hbM.symm) Z Z Z Z Z Z Z (by simp;omega) (fun wN rN xN _=>?_)|(refine at_EL ?_;first|refine EL_nil ?_|refine EL_no Z Z ?_|refine EL_val Z Z (val_move Z Z) ?_|refine EL_val Z Z (val_assign Z Z) ?_|(refine at_bin ?_;first|refine EL_dec Z Z (val_lss Z Z Z) (fun hh=>?_) (fun hh=>?_)|refine EL_dec Z Z (val_eql Z Z Z) (fun hh=>?_) (fun hh=>?_)|refine EL_dec Z Z (val_gtr Z Z Z) (fun hh=>?_) (fun hh=>?_)|(refine EL_val Z Z (val_add Z Z Z ?_ ?_) ?_;(first|omega|(simp only [IntKind.min,IntKind.max,IntKind.signed,IntKind.bits,Bool.false_eq_true,if_false,if_true];omega));(first|omega|(simp only [IntKind.min,IntKind.max,IntKind.signed,IntKind.bits,Bool.false_eq_true,if_false,if_true];omega)))|(refine EL_val Z Z (val_sub Z Z Z ?_ ?_) ?_;(first|omega|(simp only [IntKind.min,IntKind.max,IntKind.signed,IntKind.bits,Bool.false_eq_true,if_false,if_true];omega));(first|omega|(simp only [IntKind.min,IntKind.max,IntKind.signed,IntKind.bits,Bool.false_eq_true,if_false,if_true];omega))))|refine EL_val Z Z (val_pick_t Z Z Z) ?_|refine EL_val Z Z (val_pick_f Z Z Z) ?_|refine EL_val Z Z (val_fieldAddr Z Z) ?_|(refine EL_gcase Z Z Z (fun hg=>?_) (fun hg=>?_) <;> subst hg))|(refine at_K ?_;first|refine K_then ?_|refine K_in ?_|refine K_then_exit ?_|refine K_in_exit ?_)|(refine at_E ?_;first|refine E_seq ?_|refine E_region ?_|refine E_cond_t Z ?_|refine E_cond_f Z ?_|refine E_block ?_|refine E_skip ?_|refine E_exit ?_|refine E_dq mixedOk (by kernel_rfl) Z ?_)|(refine at_RQ ?_;first|refine RQ_no Z Z ?_|refine RQ_val Z Z (fun _ _ _=>val_move Z Z) ?_|(refine at_binR ?_;first|refine RQ_dec Z Z (fun _ _ _=>val_gtr Z Z Z) (fun hh=>?_) (fun hh=>?_)|(refine RQ_val Z Z (fun _ _ _=>val_sub Z Z Z ?_ ?_) ?_;(first|omega|(simp only [IntKind.min,IntKind.max,IntKind.signed,IntKind.bits,Bool.false_eq_true,if_false,if_true];omega));(first|omega|(simp only [IntKind.min,IntKind.max,IntKind.signed,IntKind.bits,Bool.false_eq_true,if_false,if_true];omega))))|refine RQ_val Z Z (fun _ _ _=>val_pick_f Z Z Z) ?_)))
              all_goals (first|(exfalso;omega)|skip)
              all_goals
                refine K_rnd (k+1) ⟨rfl,rfl,rfl,rfl,rfl,rfl,rfl,rfl,rfl,trivial⟩ ⟨by omega,xN,?_⟩ (by omega)
                rw [← hps,List.map_set]
                simpa using rN
          · have htp:=ht.trans (tok_many h0)
            have hna:nextAt t row zs (buildN t row zs k)=(c1||(decide (0<k)&&(buildN t row zs k).getD (k-1) false)):=by rw [htp];exact next_many hc1
            by_cases hk0:k=0
            · rw [show decide (0<k)=false by simp [hk0],Bool.false_and,Bool.or_false] at hna
              rw [hna] at hps
              cases c1
              all_goals
                (repeat' (first|refine EL_val Z Z (val_load Z Z Z (it_kind rB2)) ?_|refine EL_val Z Z (val_indexAddr (m:=k) Z Z Z Z (by omega)) ?_|refine EL_val Z Z (val_load Z Z Z hcell1) ?_|refine EL_store1 hn2 hx2 (Nat.le_of_eq hbM.symm) Z Z Z Z Z Z Z (by simp;omega) (fun wN rN xN _=>?_)|(refine at_EL ?_;first|refine EL_nil ?_|refine EL_no Z Z ?_|refine EL_val Z Z (val_move Z Z) ?_|refine EL_val Z Z (val_assign Z Z) ?_|(refine at_bin ?_;first|refine EL_dec Z Z (val_lss Z Z Z) (fun hh=>?_) (fun hh=>?_)|refine EL_dec Z Z (val_eql Z Z Z) (fun hh=>?_) (fun hh=>?_)|refine EL_dec Z Z (val_gtr Z Z Z) (fun hh=>?_) (fun hh=>?_)|(refine EL_val Z Z (val_add Z Z Z ?_ ?_) ?_;(first|omega|(simp only [IntKind.min,IntKind.max,IntKind.signed,IntKind.bits,Bool.false_eq_true,if_false,if_true];omega));(first|omega|(simp only [IntKind.min,IntKind.max,IntKind.signed,IntKind.bits,Bool.false_eq_true,if_false,if_true];omega)))|(refine EL_val Z Z (val_sub Z Z Z ?_ ?_) ?_;(first|omega|(simp only [IntKind.min,IntKind.max,IntKind.signed,IntKind.bits,Bool.false_eq_true,if_false,if_true];omega));(first|omega|(simp only [IntKind.min,IntKind.max,IntKind.signed,IntKind.bits,Bool.false_eq_true,if_false,if_true];omega))))|refine EL_val Z Z (val_pick_t Z Z Z) ?_|refine EL_val Z Z (val_pick_f Z Z Z) ?_|refine EL_val Z Z (val_fieldAddr Z Z) ?_)|(refine at_K ?_;first|refine K_then ?_|refine K_in ?_|refine K_then_exit ?_|refine K_in_exit ?_)|(refine at_E ?_;first|refine E_seq ?_|refine E_region ?_|refine E_cond_t Z ?_|refine E_cond_f Z ?_|refine E_block ?_|refine E_skip ?_|refine E_exit ?_|refine E_dq mixedOk (by kernel_rfl) Z ?_)|(refine at_RQ ?_;first|refine RQ_no Z Z ?_|refine RQ_val Z Z (fun _ _ _=>val_move Z Z) ?_|(refine at_binR ?_;first|refine RQ_dec Z Z (fun _ _ _=>val_gtr Z Z Z) (fun hh=>?_) (fun hh=>?_)|(refine RQ_val Z Z (fun _ _ _=>val_sub Z Z Z ?_ ?_) ?_;(first|omega|(simp only [IntKind.min,IntKind.max,IntKind.signed,IntKind.bits,Bool.false_eq_true,if_false,if_true];omega));(first|omega|(simp only [IntKind.min,IntKind.max,IntKind.signed,IntKind.bits,Bool.false_eq_true,if_false,if_true];omega))))|refine RQ_val Z Z (fun _ _ _=>val_pick_f Z Z Z) ?_)))
                all_goals (first|(exfalso;omega)|skip)
                all_goals
                  refine K_rnd (k+1) ⟨rfl,rfl,rfl,rfl,rfl,rfl,rfl,rfl,rfl,trivial⟩ ⟨by omega,xN,?_⟩ (by omega)
                  rw [← hps,List.map_set]
                  simpa using rN
            · have hcellp:=row_ith hn2 (partRow_prev t row zs k (by omega))
              rw [show decide (0<k)=true by simp;omega,Bool.true_and] at hna
              obtain⟨cp,hcp⟩:∃ cp,cp=(buildN t row zs k).getD (k-1) false:=⟨_,rfl⟩
              rw [← hcp] at hcellp hna
              rw [hna] at hps
              clear hcp hna
              cases c1
              all_goals
                (repeat' (first|refine EL_val Z Z (val_load Z Z Z (it_kind rB2)) ?_|refine EL_val Z Z (val_indexAddr (m:=k-1) Z Z Z (by omega) (by omega)) ?_|refine EL_val Z Z (val_indexAddr (m:=k) Z Z Z Z (by omega)) ?_|refine EL_val Z Z (val_load Z Z Z hcell1) ?_|refine EL_val Z Z (val_load Z Z Z hcellp) ?_|refine EL_store1 hn2 hx2 (Nat.le_of_eq hbM.symm) Z Z Z Z Z Z Z (by simp;omega) (fun wN rN xN _=>?_)|(refine at_EL ?_;first|refine EL_nil ?_|refine EL_no Z Z ?_|refine EL_val Z Z (val_move Z Z) ?_|refine EL_val Z Z (val_assign Z Z) ?_|(refine at_bin ?_;first|refine EL_dec Z Z (val_lss Z Z Z) (fun hh=>?_) (fun hh=>?_)|refine EL_dec Z Z (val_eql Z Z Z) (fun hh=>?_) (fun hh=>?_)|refine EL_dec Z Z (val_gtr Z Z Z) (fun hh=>?_) (fun hh=>?_)|(refine EL_val Z Z (val_add Z Z Z ?_ ?_) ?_;(first|omega|(simp only [IntKind.min,IntKind.max,IntKind.signed,IntKind.bits,Bool.false_eq_true,if_false,if_true];omega));(first|omega|(simp only [IntKind.min,IntKind.max,IntKind.signed,IntKind.bits,Bool.false_eq_true,if_false,if_true];omega)))|(refine EL_val Z Z (val_sub Z Z Z ?_ ?_) ?_;(first|omega|(simp only [IntKind.min,IntKind.max,IntKind.signed,IntKind.bits,Bool.false_eq_true,if_false,if_true];omega));(first|omega|(simp only [IntKind.min,IntKind.max,IntKind.signed,IntKind.bits,Bool.false_eq_true,if_false,if_true];omega))))|refine EL_val Z Z (val_pick_t Z Z Z) ?_|refine EL_val Z Z (val_pick_f Z Z Z) ?_|refine EL_val Z Z (val_fieldAddr Z Z) ?_)|(refine at_K ?_;first|refine K_then ?_|refine K_in ?_|refine K_then_exit ?_|refine K_in_exit ?_)|(refine at_E ?_;first|refine E_seq ?_|refine E_region ?_|refine E_cond_t Z ?_|refine E_cond_f Z ?_|refine E_block ?_|refine E_skip ?_|refine E_exit ?_|refine E_dq mixedOk (by kernel_rfl) Z ?_)|(refine at_RQ ?_;first|refine RQ_no Z Z ?_|refine RQ_val Z Z (fun _ _ _=>val_move Z Z) ?_|(refine at_binR ?_;first|refine RQ_dec Z Z (fun _ _ _=>val_gtr Z Z Z) (fun hh=>?_) (fun hh=>?_)|(refine RQ_val Z Z (fun _ _ _=>val_sub Z Z Z ?_ ?_) ?_;(first|omega|(simp only [IntKind.min,IntKind.max,IntKind.signed,IntKind.bits,Bool.false_eq_true,if_false,if_true];omega));(first|omega|(simp only [IntKind.min,IntKind.max,IntKind.signed,IntKind.bits,Bool.false_eq_true,if_false,if_true];omega))))|refine RQ_val Z Z (fun _ _ _=>val_pick_f Z Z Z) ?_)))
                all_goals (first|(exfalso;omega)|skip)
                all_goals
                  refine K_rnd (k+1) ⟨rfl,rfl,rfl,rfl,rfl,rfl,rfl,rfl,rfl,trivial⟩ ⟨by omega,xN,?_⟩ (by omega)
                  rw [← hps,List.map_set]
                  simpa using rN
        · have hkk:k=zs.length+1:=by omega
          subst hkk
          (repeat' (first|(refine at_EL ?_;first|refine EL_nil ?_|refine EL_val Z Z (val_move Z Z) ?_|refine EL_val Z Z (val_assign Z Z) ?_|(refine at_bin ?_;first|refine EL_dec Z Z (val_lss Z Z Z) (fun hh=>?_) (fun hh=>?_)|(refine EL_val Z Z (val_add Z Z Z ?_ ?_) ?_;(first|omega|(simp only [IntKind.min,IntKind.max,IntKind.signed,IntKind.bits,Bool.false_eq_true,if_false,if_true];omega));(first|omega|(simp only [IntKind.min,IntKind.max,IntKind.signed,IntKind.bits,Bool.false_eq_true,if_false,if_true];omega))))|refine EL_val Z Z (val_fieldAddr Z Z) ?_)|(refine at_K ?_;first|refine K_then ?_|refine K_in ?_|refine K_then_exit ?_|refine K_in_exit ?_)|(refine at_E ?_;first|refine E_seq ?_|refine E_region ?_|refine E_cond_t Z ?_|refine E_cond_f Z ?_|refine E_block ?_|refine E_skip ?_|refine E_exit ?_)))
          all_goals (first|(exfalso;omega)|skip)
          refine K_rnd (i+1,bM) ⟨rfl,rfl,rfl,rfl,rfl,trivial⟩ ⟨by dsimp only;omega,(hx.trans xB).trans hx2,?_⟩ (by dsimp only;omega)
          dsimp only
          rw [hfold]
          simpa [partRow,stepRow] using hn2
      · have:i=ys.length:=by omega
        subst this
        rw [← htl,List.take_length] at hrow hrl
        have hlast:=getD_some (l:=ts.foldl (stepRow zs) (row0 zs)) (i:=zs.length) (d:=false) (by omega)
        (repeat' (first|refine EL_val Z Z (val_indexAddr (m:=zs.length) Z Z Z Z (by omega)) ?_|refine EL_val Z Z (val_load Z Z Z (row_ith hrow hlast)) ?_|(refine at_EL ?_;first|refine EL_nil ?_|refine EL_val Z Z (val_move Z Z) ?_|refine EL_val Z Z (val_assign Z Z) ?_|(refine at_bin ?_;first|refine EL_dec Z Z (val_lss Z Z Z) (fun hh=>?_) (fun hh=>?_))|(refine at_call ?_;first|refine EL_val Z Z (val_len_sl Z Z) ?_))|(refine at_K ?_;first|refine K_then ?_|refine K_then_exit ?_|refine K_in_exit ?_)|(refine at_E ?_;first|refine E_seq ?_|refine E_region ?_|refine E_cond_t Z ?_|refine E_cond_f Z ?_|refine E_block ?_|refine E_skip ?_|refine E_ret ?_|refine E_exit ?_)))
        all_goals (first|(exfalso;omega)|skip)
        exact ret_1 Z Z ⟨rfl,((((xC.trans xD).trans xR).trans xN).trans xI).trans hx⟩
end Go.Proofs.YtnifmbbpfdghmaaGreatDoor
