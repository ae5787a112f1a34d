/-
  Walks of the layers runes and pattern.
-/
import Derived.Test.YtnifmbbpfdghmaaGreatDoorQc
import Derived.Test.YtnifmbbpfdghmaaGreatDoorY2
set_option linter.all false
namespace Go.Proofs.YtnifmbbpfdghmaaGreatDoor
open Go.RowKit Go.En
attribute [local irreducible] E EL K Val Enters Rt Calls bodyPost Code.wp RQ
set_option maxRecDepth 8000 in
set_option maxHeartbeats 4000000 in
theorem rMatch_any (p s : List UInt8) (hs : s.length ≤ 16777216) (w : World) : Calls Tryz.prog 55 #[str p, str s] w (Rt fun u w' => u = .bool (matchF p s) ∧ Ext w w') := by
  have ht:=tokens_any p w
  refine calls_E (n:=109) (args:=[str p,str s]) Tryz.func55 rfl Tryz.ntmps55 (by simp) ?_
  unfold matchF
  cases htk:tokens p with
  | error e=>
    have hne:=err_ne htk
    rw [htk] at ht
    cases hpt:points s with
    | none=>
      (repeat' (first|(refine EL_call Z Z (entersF Z Z en100) ht (fun vC wC hC=>?_);obtain⟨xC,rfl⟩:=hC)|(refine EL_call Z Z (entersF Z Z en101) (rPoints_any s hs _) (fun vC wD hC=>?_);rw [hpt] at hC;obtain⟨xD,rfl⟩:=hC)|(refine at_EL ?_;first|refine eN ?_|refine eO Z Z ?_|refine eV Z Z (zA Z Z) ?_|refine eV Z Z (zB Z Z) ?_|(refine at_bin ?_;first|refine eD Z Z (zQ Z Z Z) (fun hh=>?_) (fun hh=>?_))|refine eV Z Z (zC Z Z Z) ?_|refine eV Z Z (zD Z Z Z) ?_|refine eV Z Z (zE Z Z) ?_|refine eV Z Z (zF Z Z Z) ?_)|(refine at_K ?_;first|refine K_then ?_|refine K_then_ret ?_)|(refine at_E ?_;first|refine E_seq ?_|refine E_region ?_|refine E_cond_t Z ?_|refine E_ret ?_)))
      all_goals (first|(exfalso;omega)|(exact absurd (Classical.not_not.1 ‹_›) hne)|skip)
      exact ret_1 Z Z ⟨rfl,xC.trans xD⟩
    | some zs=>
      (repeat' (first|(refine EL_call Z Z (entersF Z Z en100) ht (fun vC wC hC=>?_);obtain⟨xC,rfl⟩:=hC)|(refine EL_call Z Z (entersF Z Z en101) (rPoints_any s hs _) (fun vC wD hC=>?_);rw [hpt] at hC;obtain⟨xD,vP,rfl,oP⟩:=hC)|(refine at_EL ?_;first|refine eN ?_|refine eO Z Z ?_|refine eV Z Z (zA Z Z) ?_|refine eV Z Z (zB Z Z) ?_|(refine at_bin ?_;first|refine eD Z Z (zQ Z Z Z) (fun hh=>?_) (fun hh=>?_))|refine eV Z Z (zC Z Z Z) ?_|refine eV Z Z (zD Z Z Z) ?_|refine eV Z Z (zE Z Z) ?_|refine eV Z Z (zF Z Z Z) ?_)|(refine at_K ?_;first|refine K_then ?_|refine K_then_ret ?_)|(refine at_E ?_;first|refine E_seq ?_|refine E_region ?_|refine E_cond_t Z ?_|refine E_cond_f Z ?_|refine E_skip ?_|refine E_ret ?_)))
      all_goals (first|(exfalso;omega)|(exact absurd (Classical.not_not.1 ‹_›) hne)|skip)
      exact ret_1 Z Z ⟨rfl,xC.trans xD⟩
  | ok ts =>
    obtain⟨hl,hok,_⟩:=tokens_ok htk
    rw [htk] at ht
    cases hpt:points s with
    | none=>
      (repeat' (first|(refine EL_call Z Z (entersF Z Z en100) ht (fun vC wC hC=>?_);obtain⟨xC,vT,rfl,oT⟩:=hC)|(refine EL_call Z Z (entersF Z Z en101) (rPoints_any s hs _) (fun vC wD hC=>?_);rw [hpt] at hC;obtain⟨xD,rfl⟩:=hC)|(refine at_EL ?_;first|refine eN ?_|refine eO Z Z ?_|refine eV Z Z (zA Z Z) ?_|refine eV Z Z (zB Z Z) ?_|(refine at_bin ?_;first|refine eD Z Z (zQ Z Z Z) (fun hh=>?_) (fun hh=>?_))|refine eV Z Z (zC Z Z Z) ?_|refine eV Z Z (zD Z Z Z) ?_|refine eV Z Z (zE Z Z) ?_|refine eV Z Z (zF Z Z Z) ?_)|(refine at_K ?_;first|refine K_then ?_|refine K_then_ret ?_)|(refine at_E ?_;first|refine E_seq ?_|refine E_region ?_|refine E_cond_t Z ?_|refine E_ret ?_)))
      all_goals (first|(exfalso;omega)|(exact absurd rfl ‹_›)|skip)
      exact ret_1 Z Z ⟨rfl,xC.trans xD⟩
    | some zs=>
      obtain⟨hzl,_,_⟩:=points_len _ s zs (Nat.le_refl _) hpt
      (repeat' (first|(refine EL_call Z Z (entersF Z Z en100) ht (fun vC wC hC=>?_);obtain⟨xC,vT,rfl,oT⟩:=hC)|(refine EL_call Z Z (entersF Z Z en101) (rPoints_any s hs _) (fun vC wD hC=>?_);rw [hpt] at hC;obtain⟨xD,vP,rfl,oP⟩:=hC;obtain⟨a2,cap2,rfl,hc2,hat2⟩:=own_sl oP)|refine EL_make1 (m:=zs.length+1) Z Z Z Z Z (by omega) (by omega) Z (by omega) (by omega) (fun bM wM hbM rM xM=>?_)|(refine at_EL ?_;first|refine eN ?_|refine eO Z Z ?_|refine eV Z Z (zA Z Z) ?_|refine eV Z Z (zB Z Z) ?_|(refine at_bin ?_;first|refine eD Z Z (zQ Z Z Z) (fun hh=>?_) (fun hh=>?_)|(refine eV Z Z (val_add Z Z Z ?_ ?_) ?_;(first|omega|(simp only [kmin,kmax];omega));(first|omega|(simp only [kmin,kmax];omega))))|(refine at_call ?_;first|refine eV Z Z (zK Z Z) ?_)|refine eV Z Z (zC Z Z Z) ?_|refine eV Z Z (zD Z Z Z) ?_|refine eV Z Z (zE Z Z) ?_|refine eV Z Z (zF Z Z Z) ?_)|(refine at_K ?_;first|refine K_then ?_|refine K_then_ret ?_)|(refine at_E ?_;first|refine E_seq ?_|refine E_region ?_|refine E_cond_t Z ?_|refine E_cond_f Z ?_|refine E_skip ?_|refine E_ret ?_)))
      all_goals (first|(exfalso;omega)|(exact absurd rfl ‹_›)|skip)
      refine EL_val Z Z (val_indexAddr (m:=0) Z Z Z Z (by omega)) ?_
      refine EL_store1 rM xM (Nat.le_of_eq hbM.symm) Z Z Z Z Z Z Z (by simp) (fun wN rN xN _=>?_)
      have rN':Row wN bM 4 ((row0 zs).map .bool):=by
        have:(List.replicate (zs.length+1) (Value.bool false)).set (0+0*1) (.bool true)=(row0 zs).map .bool:=by simp [row0,List.replicate_succ]
        rw [← this];exact rN
      clear rN rM xM hbM
      obtain⟨a1,cap1,rfl,hc1,hat1⟩:=own_sl oT
      (repeat' (first|(refine at_EL ?_;first|refine eN ?_|refine eV Z Z (zB Z Z) ?_)|(refine at_K ?_;first|refine K_then ?_)|(refine at_E ?_;first|refine E_seq ?_|refine E_region ?_|refine E_block ?_)))
      refine E_loop (ι:=Nat × Nat) (fun x=>[(5,.slice a1 ts.length cap1),(7,.slice a2 zs.length cap2),(9,.slice (some ⟨x.2,0,none⟩) (zs.length+1) (zs.length+1)),(10,int x.1)])
        (fun x wr=>x.1≤ts.length∧Ext wD wr∧Row wr x.2 4 (((ts.take x.1).foldl (stepRow zs) (row0 zs)).map .bool)) (fun x=>ts.length-x.1) (0,bM) ⟨rfl,rfl,rfl,rfl,trivial⟩ ⟨Nat.zero_le _,xN,rN'⟩ ?_
      rintro⟨i,bC⟩ wr ⟨hi,hx,hrow⟩
      dsimp only at hi hx hrow ⊢
      have hrl:=rows_len zs (ts.take i)
      by_cases hlt:i<ts.length
      · obtain ⟨b1, off1, rfl, hq1⟩ := hat1 (by omega)
        obtain⟨t,hz⟩:∃ t,ts[i]?=some t:=⟨_,List.getElem?_eq_getElem hlt⟩
        have hfold:(ts.take (i+1)).foldl (stepRow zs) (row0 zs)=stepRow zs ((ts.take i).foldl (stepRow zs) (row0 zs)) t:=by
          obtain⟨h1,rfl⟩:=List.getElem?_eq_some_iff.1 hz
          rw [List.take_succ_eq_append_getElem h1,List.foldl_append];rfl
        obtain⟨row,hrw⟩:∃ row,row=(ts.take i).foldl (stepRow zs) (row0 zs):=⟨_,rfl⟩
        rw [← hrw] at hrl hrow hfold
        have hqt:=xD.cell (hq1.ith hz)
        (repeat' (first|refine EL_make1 (m:=zs.length+1) Z Z Z Z Z (by omega) (by omega) Z (by omega) (by omega) (fun bM wM hbM rM xM=>?_)|(refine at_EL ?_;first|refine eN ?_|refine eV Z Z (zA Z Z) ?_|refine eV Z Z (zB Z Z) ?_|(refine at_bin ?_;first|refine eD Z Z (zL Z Z Z) (fun hh=>?_) (fun hh=>?_)|(refine eV Z Z (val_add Z Z Z ?_ ?_) ?_;(first|omega|(simp only [kmin,kmax];omega));(first|omega|(simp only [kmin,kmax];omega))))|(refine at_call ?_;first|refine eV Z Z (zK Z Z) ?_))|(refine at_K ?_;first|refine K_then ?_|refine K_then_exit ?_|refine K_in_exit ?_)|(refine at_E ?_;first|refine E_seq ?_|refine E_region ?_|refine E_cond_t Z ?_|refine E_cond_f Z ?_|refine E_block ?_|refine E_skip ?_|refine E_exit ?_)))
        all_goals (first|(exfalso;omega)|skip)
        refine E_loop (ι:=Nat) (fun k=>[(5,.slice (some ⟨b1,off1,none⟩) ts.length cap1),(7,.slice a2 zs.length cap2),(9,.slice (some ⟨bC,0,none⟩) (zs.length+1) (zs.length+1)),(10,int i),(11,.slice (some ⟨bM,0,none⟩) (zs.length+1) (zs.length+1)),(12,int k)])
          (fun k w2=>k≤zs.length+1∧Ext wr w2∧Row w2 bM 4 ((partRow t row zs k).map .bool)) (fun k=>zs.length+1-k) 0 ⟨rfl,rfl,rfl,rfl,rfl,rfl,trivial⟩ ⟨Nat.zero_le _,xM,by simpa [partRow,buildN] using rM⟩ ?_
        rintro k w2 ⟨hk,hx2,hn2⟩
        by_cases hk2:k≤zs.length
        · have hqt2:=hx2.cell (hx.cell hqt)
          have hpl:=partRow_len t row zs k hk
          have hps:=partRow_set t row zs k (by omega)
          have hbl:=buildN_len t row zs k
          obtain⟨c1,hc1⟩:∃ c1,row[k]?=some c1:=⟨_,List.getElem?_eq_getElem (by omega)⟩
          have hcell1:=row_ith (hrow.ext hx2) hc1
          by_cases ht1:t = -1
          · subst ht1
            have hna:=next_many (zs:=zs) hc1
            by_cases hk0:k=0
            · rw [show decide (0<k)=false by simp [hk0],Bool.false_and,Bool.or_false] at hna
              rw [hna] at hps
              clear hna
              (repeat' (first|refine EL_val Z Z (val_indexAddr (m:=i) Z Z Z Z hlt) ?_|refine EL_val Z Z (val_load Z Z Z hqt2) ?_|refine EL_val Z Z (val_indexAddr (m:=k) Z Z Z Z (by omega)) ?_|refine EL_val Z Z (val_load Z Z Z hcell1) ?_|refine EL_store1 hn2 hx2 (Nat.le_of_eq hbM.symm) Z Z Z Z Z Z Z (by simp;omega) (fun wN rN xN _=>?_)|(refine at_EL ?_;first|refine eN ?_|refine eO Z Z ?_|refine eV Z Z (zA Z Z) ?_|refine eV Z Z (zB Z Z) ?_|(refine at_bin ?_;first|refine eD Z Z (zM Z Z Z) (fun hh=>?_) (fun hh=>?_)|refine eD Z Z (zN Z Z Z) (fun hh=>?_) (fun hh=>?_)|refine eD Z Z (zO Z Z Z) (fun hh=>?_) (fun hh=>?_)|(refine eV Z Z (val_add Z Z Z ?_ ?_) ?_;(first|omega|(simp only [kmin,kmax];omega));(first|omega|(simp only [kmin,kmax];omega)))|(refine eV Z Z (val_sub Z Z Z ?_ ?_) ?_;(first|omega|(simp only [kmin,kmax];omega));(first|omega|(simp only [kmin,kmax];omega))))|(refine at_call ?_;first|refine eV Z Z (zK Z Z) ?_)|refine eV Z Z (zC Z Z Z) ?_|refine eV Z Z (zD Z Z Z) ?_|(refine eG Z Z Z (fun hg=>?_) (fun hg=>?_) <;> subst hg))|(refine at_K ?_;first|refine K_then ?_|refine K_in ?_|refine K_then_exit ?_|refine K_in_exit ?_)|(refine at_E ?_;first|refine E_seq ?_|refine E_region ?_|refine E_cond_t Z ?_|refine E_cond_f Z ?_|refine E_block ?_|refine E_skip ?_|refine E_exit ?_)))
              all_goals (first|(exfalso;omega)|skip)
              all_goals
                refine K_rnd (k+1) ⟨rfl,rfl,rfl,rfl,rfl,rfl,trivial⟩ ⟨by omega,xN,?_⟩ (by omega)
                rw [← hps,List.map_set]
                simpa using rN
            · have hcellp:=row_ith hn2 (partRow_prev (-1) row zs k (by omega))
              rw [show decide (0<k)=true by simp;omega,Bool.true_and] at hna
              obtain⟨cp,hcp⟩:∃ cp,cp=(buildN (-1) row zs k).getD (k-1) false:=⟨_,rfl⟩
              rw [← hcp] at hcellp hna
              rw [hna] at hps
              clear hcp hna
              (repeat' (first|refine EL_val Z Z (val_indexAddr (m:=i) Z Z Z Z hlt) ?_|refine EL_val Z Z (val_load Z Z Z hqt2) ?_|refine EL_val Z Z (val_indexAddr (m:=k) Z Z Z Z (by omega)) ?_|refine EL_val Z Z (val_load Z Z Z hcell1) ?_|refine EL_val Z Z (val_indexAddr (m:=k-1) Z Z Z (by omega) (by omega)) ?_|refine EL_val Z Z (val_load Z Z Z hcellp) ?_|refine EL_store1 hn2 hx2 (Nat.le_of_eq hbM.symm) Z Z Z Z Z Z Z (by simp;omega) (fun wN rN xN _=>?_)|(refine at_EL ?_;first|refine eN ?_|refine eO Z Z ?_|refine eV Z Z (zA Z Z) ?_|refine eV Z Z (zB Z Z) ?_|(refine at_bin ?_;first|refine eD Z Z (zM Z Z Z) (fun hh=>?_) (fun hh=>?_)|refine eD Z Z (zN Z Z Z) (fun hh=>?_) (fun hh=>?_)|refine eD Z Z (zO Z Z Z) (fun hh=>?_) (fun hh=>?_)|(refine eV Z Z (val_add Z Z Z ?_ ?_) ?_;(first|omega|(simp only [kmin,kmax];omega));(first|omega|(simp only [kmin,kmax];omega)))|(refine eV Z Z (val_sub Z Z Z ?_ ?_) ?_;(first|omega|(simp only [kmin,kmax];omega));(first|omega|(simp only [kmin,kmax];omega))))|(refine at_call ?_;first|refine eV Z Z (zK Z Z) ?_)|refine eV Z Z (zC Z Z Z) ?_|refine eV Z Z (zD Z Z Z) ?_|(refine eG Z Z Z (fun hg=>?_) (fun hg=>?_) <;> subst hg))|(refine at_K ?_;first|refine K_then ?_|refine K_in ?_|refine K_then_exit ?_|refine K_in_exit ?_)|(refine at_E ?_;first|refine E_seq ?_|refine E_region ?_|refine E_cond_t Z ?_|refine E_cond_f Z ?_|refine E_block ?_|refine E_skip ?_|refine E_exit ?_)))
              all_goals (first|(exfalso;omega)|skip)
              all_goals
                refine K_rnd (k+1) ⟨rfl,rfl,rfl,rfl,rfl,rfl,trivial⟩ ⟨by omega,xN,?_⟩ (by omega)
                rw [← hps,List.map_set]
                simpa using rN
          · have hna:=next_other (t:=t) (row:=row) (zs:=zs) (k:=k) ht1
            by_cases hk0:k=0
            · rw [show decide (0<k)=false by simp [hk0],Bool.false_and,Bool.false_and] at hna
              have hpf:=partRow_false (by omega) hna
              (repeat' (first|refine EL_val Z Z (val_indexAddr (m:=i) Z Z Z Z hlt) ?_|refine EL_val Z Z (val_load Z Z Z hqt2) ?_|refine EL_val Z Z (val_indexAddr (m:=k) Z Z Z Z (by omega)) ?_|refine EL_val Z Z (val_load Z Z Z hcell1) ?_|refine EL_store1 hn2 hx2 (Nat.le_of_eq hbM.symm) Z Z Z Z Z Z Z (by simp;omega) (fun wN rN xN _=>?_)|(refine at_EL ?_;first|refine eN ?_|refine eO Z Z ?_|refine eV Z Z (zA Z Z) ?_|refine eV Z Z (zB Z Z) ?_|(refine at_bin ?_;first|refine eD Z Z (zM Z Z Z) (fun hh=>?_) (fun hh=>?_)|refine eD Z Z (zN Z Z Z) (fun hh=>?_) (fun hh=>?_)|refine eD Z Z (zO Z Z Z) (fun hh=>?_) (fun hh=>?_)|(refine eV Z Z (val_add Z Z Z ?_ ?_) ?_;(first|omega|(simp only [kmin,kmax];omega));(first|omega|(simp only [kmin,kmax];omega)))|(refine eV Z Z (val_sub Z Z Z ?_ ?_) ?_;(first|omega|(simp only [kmin,kmax];omega));(first|omega|(simp only [kmin,kmax];omega))))|(refine at_call ?_;first|refine eV Z Z (zK Z Z) ?_)|refine eV Z Z (zC Z Z Z) ?_|refine eV Z Z (zD Z Z Z) ?_|(refine eG Z Z Z (fun hg=>?_) (fun hg=>?_) <;> subst hg))|(refine at_K ?_;first|refine K_then ?_|refine K_in ?_|refine K_then_exit ?_|refine K_in_exit ?_)|(refine at_E ?_;first|refine E_seq ?_|refine E_region ?_|refine E_cond_t Z ?_|refine E_cond_f Z ?_|refine E_block ?_|refine E_skip ?_|refine E_exit ?_)))
              all_goals (first|(exfalso;omega)|skip)
              all_goals exact K_rnd (k+1) ⟨rfl,rfl,rfl,rfl,rfl,rfl,trivial⟩ ⟨by omega,hx2,by rw [hpf];exact hn2⟩ (by omega)
            · have hk1:k-1<zs.length:=by omega
              obtain⟨b2,off2,rfl,hq2⟩:=hat2 (by omega)
              obtain⟨z,hzz⟩:∃ z,zs[k-1]?=some z:=⟨_,List.getElem?_eq_getElem hk1⟩
              have hcellz:=hx2.cell (hx.cell (hq2.ith hzz))
              obtain⟨c0,hc0⟩:∃ c,row[k-1]?=some c:=⟨_,List.getElem?_eq_getElem (by omega)⟩
              have hcell0:=row_ith (hrow.ext hx2) hc0
              rw [show decide (0<k)=true by simp;omega,Bool.true_and,show row.getD (k-1) false=c0 by simp [List.getD_eq_getElem?_getD,hc0],show zs.getD (k-1) 0=z by simp [List.getD_eq_getElem?_getD,hzz]] at hna
              cases c0 with
              | false=>
                have hpf:=partRow_false (by omega) hna
                (repeat' (first|refine EL_val Z Z (val_indexAddr (m:=i) Z Z Z Z hlt) ?_|refine EL_val Z Z (val_load Z Z Z hqt2) ?_|refine EL_val Z Z (val_indexAddr (m:=k) Z Z Z Z (by omega)) ?_|refine EL_val Z Z (val_load Z Z Z hcell1) ?_|refine EL_val Z Z (val_indexAddr (m:=k-1) Z Z Z (by omega) (by omega)) ?_|refine EL_val Z Z (val_load Z Z Z hcell0) ?_|(refine at_EL ?_;first|refine eN ?_|refine eO Z Z ?_|refine eV Z Z (zA Z Z) ?_|refine eV Z Z (zB Z Z) ?_|(refine at_bin ?_;first|refine eD Z Z (zM Z Z Z) (fun hh=>?_) (fun hh=>?_)|refine eD Z Z (zN Z Z Z) (fun hh=>?_) (fun hh=>?_)|refine eD Z Z (zO Z Z Z) (fun hh=>?_) (fun hh=>?_)|(refine eV Z Z (val_add Z Z Z ?_ ?_) ?_;(first|omega|(simp only [kmin,kmax];omega));(first|omega|(simp only [kmin,kmax];omega)))|(refine eV Z Z (val_sub Z Z Z ?_ ?_) ?_;(first|omega|(simp only [kmin,kmax];omega));(first|omega|(simp only [kmin,kmax];omega))))|(refine at_call ?_;first|refine eV Z Z (zK Z Z) ?_)|refine eV Z Z (zC Z Z Z) ?_|refine eV Z Z (zD Z Z Z) ?_|(refine eG Z Z Z (fun hg=>?_) (fun hg=>?_) <;> subst hg))|(refine at_K ?_;first|refine K_then ?_|refine K_in ?_|refine K_then_exit ?_|refine K_in_exit ?_)|(refine at_E ?_;first|refine E_seq ?_|refine E_region ?_|refine E_cond_t Z ?_|refine E_cond_f Z ?_|refine E_block ?_|refine E_skip ?_|refine E_exit ?_)))
                all_goals (first|(exfalso;omega)|skip)
                all_goals exact K_rnd (k+1) ⟨rfl,rfl,rfl,rfl,rfl,rfl,trivial⟩ ⟨by omega,hx2,by rw [hpf];exact hn2⟩ (by omega)
              | true=>
                rw [Bool.true_and] at hna
                rw [hna] at hps
                clear hna
                (repeat' (first|refine EL_val Z Z (val_indexAddr (m:=i) Z Z Z Z hlt) ?_|refine EL_val Z Z (val_load Z Z Z hqt2) ?_|refine EL_val Z Z (val_indexAddr (m:=k) Z Z Z Z (by omega)) ?_|refine EL_val Z Z (val_load Z Z Z hcell1) ?_|refine EL_val Z Z (val_indexAddr (m:=k-1) Z Z Z (by omega) (by omega)) ?_|refine EL_val Z Z (val_load Z Z Z hcell0) ?_|refine RQ_val Z Z (fun _ _ _=>val_indexAddr (m:=i) Z Z Z Z hlt) ?_|refine RQ_val Z Z (fun wq _ xq=>val_load Z Z Z (xq.cell hqt2)) ?_|refine RQ_val Z Z (fun _ _ _=>val_indexAddr (m:=k-1) Z Z Z (by omega) (by omega)) ?_|refine RQ_val Z Z (fun wq _ xq=>val_load Z Z Z (xq.cell hcellz)) ?_|refine RQ_val Z Z (fun _ _ _=>val_indexAddr (m:=k) Z Z Z Z (by omega)) ?_|refine EL_store1 (hn2.ext xq) (hx2.trans xq) (Nat.le_of_eq hbM.symm) Z Z Z Z Z Z Z (by simp;omega) (fun wN rN xN _=>?_)|(refine at_EL ?_;first|refine eN ?_|refine eO Z Z ?_|refine eV Z Z (zA Z Z) ?_|refine eV Z Z (zB Z Z) ?_|(refine at_bin ?_;first|refine eD Z Z (zM Z Z Z) (fun hh=>?_) (fun hh=>?_)|refine eD Z Z (zN Z Z Z) (fun hh=>?_) (fun hh=>?_)|refine eD Z Z (zO Z Z Z) (fun hh=>?_) (fun hh=>?_)|(refine eV Z Z (val_add Z Z Z ?_ ?_) ?_;(first|omega|(simp only [kmin,kmax];omega));(first|omega|(simp only [kmin,kmax];omega)))|(refine eV Z Z (val_sub Z Z Z ?_ ?_) ?_;(first|omega|(simp only [kmin,kmax];omega));(first|omega|(simp only [kmin,kmax];omega))))|(refine at_call ?_;first|refine eV Z Z (zK Z Z) ?_)|refine eV Z Z (zC Z Z Z) ?_|refine eV Z Z (zD Z Z Z) ?_|(refine eG Z Z Z (fun hg=>?_) (fun hg=>?_) <;> subst hg))|(refine at_K ?_;first|refine K_then ?_|refine K_in ?_|refine K_then_exit ?_|refine K_in_exit ?_)|(refine at_E ?_;first|refine E_seq ?_|refine E_region ?_|refine E_cond_t Z ?_|refine E_cond_f Z ?_|refine E_block ?_|refine E_skip ?_|refine E_exit ?_|refine E_dq mixedOk (by kernel_rfl) Z ?_)|(refine at_RQ ?_;first|refine yN Z (fun wq xq=>?_)|refine yO Z Z ?_|refine yV Z Z (fun _ _ _=>zA Z Z) ?_|(refine at_binR ?_;first|refine yD Z Z (fun _ _ _=>zM Z Z Z) (fun hh=>?_) (fun hh=>?_)|(refine yV Z Z (fun _ _ _=>val_sub Z Z Z ?_ ?_) ?_;(first|omega|(simp only [kmin,kmax];omega));(first|omega|(simp only [kmin,kmax];omega))))|refine yV Z Z (fun _ _ _=>zC Z Z Z) ?_|refine yV Z Z (fun _ _ _=>zD Z Z Z) ?_)))
                all_goals (first|(exfalso;omega)|skip)
                all_goals
                  refine K_rnd (k+1) ⟨rfl,rfl,rfl,rfl,rfl,rfl,trivial⟩ ⟨by omega,xN,?_⟩ (by omega)
                  rw [← hps,List.map_set]
                  simpa [*] using rN
        · have hkk:k=zs.length+1:=by omega
          subst hkk
          (repeat' (first|(refine at_EL ?_;first|refine eN ?_|refine eV Z Z (zA Z Z) ?_|refine eV Z Z (zB Z Z) ?_|(refine at_bin ?_;first|refine eD Z Z (zN Z Z Z) (fun hh=>?_) (fun hh=>?_)|(refine eV Z Z (val_add Z Z Z ?_ ?_) ?_;(first|omega|(simp only [kmin,kmax];omega));(first|omega|(simp only [kmin,kmax];omega))))|(refine at_call ?_;first|refine eV Z Z (zK Z Z) ?_))|(refine at_K ?_;first|refine K_then ?_|refine K_in ?_|refine K_then_exit ?_|refine K_in_exit ?_)|(refine at_E ?_;first|refine E_seq ?_|refine E_region ?_|refine E_cond_t Z ?_|refine E_cond_f Z ?_|refine E_block ?_|refine E_skip ?_|refine E_exit ?_)))
          all_goals (first|(exfalso;omega)|skip)
          refine K_rnd (i+1,bM) ⟨rfl,rfl,rfl,rfl,trivial⟩ ⟨by dsimp only;omega,hx.trans hx2,?_⟩ (by dsimp only;omega)
          dsimp only
          rw [hfold]
          simpa [partRow,stepRow] using hn2
      · have:i=ts.length:=by omega
        subst this
        rw [List.take_length] at hrow hrl
        have hlast:=getD_some (l:=ts.foldl (stepRow zs) (row0 zs)) (i:=zs.length) (d:=false) (by omega)
        (repeat' (first|refine EL_val Z Z (val_indexAddr (m:=zs.length) Z Z Z Z (by omega)) ?_|refine EL_val Z Z (val_load Z Z Z (row_ith hrow hlast)) ?_|(refine at_EL ?_;first|refine eN ?_|refine eV Z Z (zA Z Z) ?_|refine eV Z Z (zB Z Z) ?_|(refine at_bin ?_;first|refine eD Z Z (zL Z Z Z) (fun hh=>?_) (fun hh=>?_)|(refine eV Z Z (val_add Z Z Z ?_ ?_) ?_;(first|omega|(simp only [kmin,kmax];omega));(first|omega|(simp only [kmin,kmax];omega))))|(refine at_call ?_;first|refine eV Z Z (zK Z Z) ?_))|(refine at_K ?_;first|refine K_then ?_|refine K_then_exit ?_|refine K_in_exit ?_)|(refine at_E ?_;first|refine E_seq ?_|refine E_region ?_|refine E_cond_t Z ?_|refine E_cond_f Z ?_|refine E_block ?_|refine E_skip ?_|refine E_ret ?_|refine E_exit ?_)))
        all_goals (first|(exfalso;omega)|skip)
        exact ret_1 Z Z ⟨rfl,(xC.trans xD).trans hx⟩
end Go.Proofs.YtnifmbbpfdghmaaGreatDoor
