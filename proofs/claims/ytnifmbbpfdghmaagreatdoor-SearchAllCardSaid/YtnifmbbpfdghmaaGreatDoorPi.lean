/-
  Walks of the layers runes and pattern.
-/
import Derived.Test.YtnifmbbpfdghmaaGreatDoorYj
import Derived.Test.YtnifmbbpfdghmaaGreatDoorYk
set_option linter.all false
namespace Go.Proofs.YtnifmbbpfdghmaaGreatDoor
open Go.RowKit Go.En
attribute [local irreducible] E EL K Val Enters Rt Calls bodyPost Code.wp RQ
set_option maxRecDepth 8000 in
theorem Tabs.ext {w w':World} (h:Tabs w) (x:Ext w w'):Tabs w':=Utf8Tabs_below h x
def ctlB (c:UInt8):Bool:=decide (c.toNat<32)||decide (c.toNat=127)
set_option maxRecDepth 8000 in
theorem enc_ctl {z:Nat} (hz:z≤1114111):(encB z).any ctlB=ctl z:=by
  unfold encB encN ctl
  (repeat' split) <;> simp [ctlB,UInt8.toNat_ofNat'] <;>(try rw [Bool.eq_iff_iff]) <;>(try simp) <;> omega
set_option maxRecDepth 8000 in
theorem text_ctl {p:List UInt8} {zs:List Nat} (hp:points p=some zs):p.any ctlB=zs.any ctl:=by
  have hs:=(points_len _ p zs (Nat.le_refl _) hp).2.1
  rw [← (points_len _ p zs (Nat.le_refl _) hp).2.2]
  clear hp
  induction zs with
  | nil=>rfl
  | cons z r ih=>
    rw [List.map_cons,List.flatten_cons,List.any_append,List.any_cons,ih (fun x hx=>hs x (by simp [hx])),enc_ctl (scal_iff.1 (hs z (by simp))).1]
set_option maxRecDepth 8000 in
theorem tokGo_ctl : ∀ (n : Nat) (zs : List Nat), zs.length ≤ n → zs.any ctl = true → tokGo zs = none
  | 0,zs,h,hc=>by
    have:zs=[]:=List.eq_nil_of_length_eq_zero (by omega)
    subst this;simp at hc
  | n+1,[],h,hc=>by simp at hc
  | n + 1, z :: r, h, hc => by
    simp only [List.length_cons] at h
    simp only [List.any_cons,Bool.or_eq_true] at hc
    rw [tokGo_cons]
    by_cases hz:z<32∨z=127
    · rw [if_pos hz]
    · rw [if_neg hz]
      have hr:r.any ctl=true:=hc.resolve_left (by simp [ctl];omega)
      by_cases h92:z=92
      · rw [if_pos h92]
        cases r with
        | nil=>rfl
        | cons y r'=>
          dsimp only
          simp only [List.length_cons] at h
          by_cases hy:specialI (y:Int)=true
          · rw [if_pos hy]
            have hy':=hy
            rw [special_nat] at hy'
            simp only [Bool.or_eq_true,decide_eq_true_eq] at hy'
            simp only [List.any_cons,Bool.or_eq_true] at hr
            rw [tokGo_ctl n r' (by omega) (hr.resolve_left (by simp [ctl];omega))]
            rfl
          · rw [if_neg hy]
      · rw [if_neg h92,tokGo_ctl n r (by omega) hr]
        rfl
set_option maxRecDepth 8000 in
theorem tokens_eq {p:List UInt8} {zs:List Nat} (h0:p≠[]) (h1:¬ 64<p.length) (hp:points p=some zs):tokens p=match tokGo zs with|none=>.error 3|some ts=>.ok ts:=by
  unfold tokens;rw [if_neg h0,if_neg h1,hp];rfl
set_option maxRecDepth 8000 in
set_option maxHeartbeats 4000000 in
theorem pCheck_any (p : List UInt8) (w : World) (hT : Tabs w) : Calls Tryz.prog 118 #[str p] w (Rt fun u w' => u = int (checkF p) ∧ Ext w w') := by
  refine calls_E (n:=43) (args:=[str p]) Tryz.func118 rfl Tryz.ntmps118 (by simp) ?_
  by_cases h0:p=[]
  · have:checkF p=4:=by unfold checkF tokens;rw [if_pos h0]
    rw [this]
    subst h0
    (repeat' (first|(refine at_EL ?_;first|refine EL_nil ?_|refine EL_val Z Z (val_move Z Z) ?_|refine EL_val Z Z (val_assign Z Z) ?_|(refine at_bin ?_;first|refine EL_dec Z Z (val_gtr Z Z Z) (fun hh=>?_) (fun hh=>?_)|refine EL_dec Z Z (val_str_eql Z Z Z) (fun hh=>?_) (fun hh=>?_))|(refine at_call ?_;first|refine EL_val Z Z (val_len_str Z Z) ?_))|(refine at_K ?_;first|refine K_then ?_|refine K_then_ret ?_)|(refine at_E ?_;first|refine E_seq ?_|refine E_region ?_|refine E_cond_t Z ?_|refine E_cond_f Z ?_|refine E_skip ?_|refine E_ret ?_)))
    all_goals (first|(exfalso;omega)|(exact absurd rfl ‹_›)|skip)
    exact ret_1 Z Z ⟨rfl,Ext.refl _⟩
  by_cases h1:64<p.length
  · have:checkF p=5:=by unfold checkF tokens;rw [if_neg h0,if_pos h1]
    rw [this]
    (repeat' (first|(refine at_EL ?_;first|refine EL_nil ?_|refine EL_val Z Z (val_move Z Z) ?_|refine EL_val Z Z (val_assign Z Z) ?_|(refine at_bin ?_;first|refine EL_dec Z Z (val_gtr Z Z Z) (fun hh=>?_) (fun hh=>?_)|refine EL_dec Z Z (val_str_eql Z Z Z) (fun hh=>?_) (fun hh=>?_))|(refine at_call ?_;first|refine EL_val Z Z (val_len_str Z Z) ?_))|(refine at_K ?_;first|refine K_then ?_|refine K_then_ret ?_)|(refine at_E ?_;first|refine E_seq ?_|refine E_region ?_|refine E_cond_t Z ?_|refine E_cond_f Z ?_|refine E_skip ?_|refine E_ret ?_)))
    all_goals (first|(exfalso;omega)|(exact absurd ‹_› h0)|skip)
    exact ret_1 Z Z ⟨rfl,Ext.refl _⟩
  have hl:p.length≤1048576:=by omega
  cases hp:points p with
  | none=>
    have:checkF p=3:=by unfold checkF tokens;rw [if_neg h0,if_neg h1,hp]
    rw [this]
    (repeat' (first|(refine EL_call Z Z (entersF Z Z en119) (pPoints_any p hl _ hT) (fun vC wC hC=>?_);rw [hp] at hC;obtain⟨xC,rfl⟩:=hC)|(refine at_EL ?_;first|refine EL_nil ?_|refine EL_val Z Z (val_move Z Z) ?_|refine EL_val Z Z (val_assign Z Z) ?_|(refine at_bin ?_;first|refine EL_dec Z Z (val_gtr Z Z Z) (fun hh=>?_) (fun hh=>?_)|refine EL_dec Z Z (val_str_eql Z Z Z) (fun hh=>?_) (fun hh=>?_))|(refine at_call ?_;first|refine EL_val Z Z (val_len_str Z Z) ?_)|refine EL_val Z Z (val_not Z Z) ?_|refine EL_val Z Z (val_extract Z Z Z) ?_)|(refine at_K ?_;first|refine K_then ?_|refine K_then_ret ?_)|(refine at_E ?_;first|refine E_seq ?_|refine E_region ?_|refine E_cond_t Z ?_|refine E_cond_f Z ?_|refine E_skip ?_|refine E_ret ?_)))
    all_goals (first|(exfalso;omega)|(exact absurd ‹_› h0)|skip)
    exact ret_1 Z Z ⟨rfl,xC⟩
  | some zs=>
    have htk:=tokens_eq h0 h1 hp
    have htc:=text_ctl hp
    (repeat' (first|(refine EL_call Z Z (entersF Z Z en119) (pPoints_any p hl _ hT) (fun vC wC hC=>?_);rw [hp] at hC;obtain⟨xC,vP,rfl,oP⟩:=hC)|(refine at_EL ?_;first|refine EL_nil ?_|refine EL_val Z Z (val_move Z Z) ?_|refine EL_val Z Z (val_assign Z Z) ?_|(refine at_bin ?_;first|refine EL_dec Z Z (val_gtr Z Z Z) (fun hh=>?_) (fun hh=>?_)|refine EL_dec Z Z (val_str_eql Z Z Z) (fun hh=>?_) (fun hh=>?_))|(refine at_call ?_;first|refine EL_val Z Z (val_len_str Z Z) ?_)|refine EL_val Z Z (val_not Z Z) ?_|refine EL_val Z Z (val_extract Z Z Z) ?_)|(refine at_K ?_;first|refine K_then ?_|refine K_then_ret ?_)|(refine at_E ?_;first|refine E_seq ?_|refine E_region ?_|refine E_cond_t Z ?_|refine E_cond_f Z ?_|refine E_block ?_|refine E_skip ?_|refine E_ret ?_)))
    all_goals (first|(exfalso;omega)|(exact absurd ‹_› h0)|skip)
    refine E_loop (ι:=Nat) (fun i=>[(0,str p),(21,int p.length),(22,int i)]) (fun i wr=>i≤p.length∧(p.take i).any ctlB=false∧wr=wC) (fun i=>p.length-i) 0 ⟨rfl,rfl,rfl,trivial⟩ ⟨Nat.zero_le _,rfl,rfl⟩ ?_
    rintro i wr ⟨hi,hw,rfl⟩
    by_cases hlt:i<p.length
    · obtain⟨c,hc⟩:∃ c,p[i]?=some c:=⟨_,List.getElem?_eq_getElem hlt⟩
      have hcl:=UInt8.toNat_lt c
      by_cases hct:ctlB c=true
      · have hany:p.any ctlB=true:=List.any_eq_true.2 ⟨c,List.mem_of_getElem? hc,hct⟩
        have:checkF p=3:=by unfold checkF;rw [htk,tokGo_ctl _ zs (Nat.le_refl _) (htc▸hany)]
        rw [this]
        simp only [ctlB,Bool.or_eq_true,decide_eq_true_eq] at hct
        (repeat' (first|refine EL_val Z Z (val_index_str Z Z Z Z hc) ?_|(refine at_EL ?_;first|refine EL_nil ?_|refine EL_no Z Z ?_|refine EL_val Z Z (val_move Z Z) ?_|refine EL_val Z Z (val_assign Z Z) ?_|(refine at_bin ?_;first|refine EL_dec Z Z (val_lss Z Z Z) (fun hh=>?_) (fun hh=>?_)|refine EL_dec Z Z (val_eql Z Z Z) (fun hh=>?_) (fun hh=>?_)|(refine EL_val Z Z (val_add Z Z Z ?_ ?_) ?_;(first|omega|(simp only [IntKind.min,IntKind.max,IntKind.signed,IntKind.bits,Bool.false_eq_true,if_false,if_true];omega));(first|omega|(simp only [IntKind.min,IntKind.max,IntKind.signed,IntKind.bits,Bool.false_eq_true,if_false,if_true];omega))))|refine EL_val Z Z (val_pick_t Z Z Z) ?_|refine EL_val Z Z (val_pick_f Z Z Z) ?_)|(refine at_K ?_;first|refine K_then ?_|refine K_in ?_|refine K_then_ret ?_|refine K_then_exit ?_|refine K_in_ret ?_|refine K_in_exit ?_)|(refine at_E ?_;first|refine E_seq ?_|refine E_region ?_|refine E_cond_t Z ?_|refine E_cond_f Z ?_|refine E_block ?_|refine E_skip ?_|refine E_ret ?_|refine E_exit ?_)))
        all_goals (first|(exfalso;omega)|skip)
        all_goals exact ret_1 Z Z ⟨rfl,xC⟩
      · have htake:(p.take (i+1)).any ctlB=false:=by
          obtain⟨h1,rfl⟩:=List.getElem?_eq_some_iff.1 hc
          rw [List.take_succ_eq_append_getElem h1,List.any_append,hw]
          simpa using hct
        simp only [ctlB,Bool.or_eq_true,decide_eq_true_eq] at hct
        (repeat' (first|refine EL_val Z Z (val_index_str Z Z Z Z hc) ?_|(refine at_EL ?_;first|refine EL_nil ?_|refine EL_no Z Z ?_|refine EL_val Z Z (val_move Z Z) ?_|refine EL_val Z Z (val_assign Z Z) ?_|(refine at_bin ?_;first|refine EL_dec Z Z (val_lss Z Z Z) (fun hh=>?_) (fun hh=>?_)|refine EL_dec Z Z (val_eql Z Z Z) (fun hh=>?_) (fun hh=>?_)|(refine EL_val Z Z (val_add Z Z Z ?_ ?_) ?_;(first|omega|(simp only [IntKind.min,IntKind.max,IntKind.signed,IntKind.bits,Bool.false_eq_true,if_false,if_true];omega));(first|omega|(simp only [IntKind.min,IntKind.max,IntKind.signed,IntKind.bits,Bool.false_eq_true,if_false,if_true];omega))))|refine EL_val Z Z (val_pick_t Z Z Z) ?_|refine EL_val Z Z (val_pick_f Z Z Z) ?_)|(refine at_K ?_;first|refine K_then ?_|refine K_in ?_|refine K_then_ret ?_|refine K_then_exit ?_|refine K_in_ret ?_|refine K_in_exit ?_)|(refine at_E ?_;first|refine E_seq ?_|refine E_region ?_|refine E_cond_t Z ?_|refine E_cond_f Z ?_|refine E_block ?_|refine E_skip ?_|refine E_ret ?_|refine E_exit ?_)))
        all_goals (first|(exfalso;omega)|skip)
        exact K_rnd (i+1) ⟨rfl,rfl,rfl,trivial⟩ ⟨by omega,htake,rfl⟩ (by omega)
    · have:i=p.length:=by omega
      subst this
      rw [List.take_length] at hw
      have hit:=items_any p hl zs hp wr
      have hg:=itGo_tok _ zs [] (Nat.le_refl _) (htc▸hw)
      unfold checkF
      rw [htk]
      revert hit hg
      cases itGo ([],false) zs with
      | none=>
        cases tokGo zs with
        | some ts=>intro _ h;exact h.elim
        | none=>
          intro hit _
          (repeat' (first|(refine EL_call Z Z (entersF Z Z en120) hit (fun vC wD hC=>?_);obtain⟨xD,rfl⟩:=hC)|(refine at_EL ?_;first|refine EL_nil ?_|refine EL_val Z Z (val_move Z Z) ?_|refine EL_val Z Z (val_assign Z Z) ?_|(refine at_bin ?_;first|refine EL_dec Z Z (val_lss Z Z Z) (fun hh=>?_) (fun hh=>?_))|refine EL_val Z Z (val_not Z Z) ?_|refine EL_val Z Z (val_extract Z Z Z) ?_)|(refine at_K ?_;first|refine K_then ?_|refine K_then_ret ?_|refine K_then_exit ?_|refine K_in_exit ?_)|(refine at_E ?_;first|refine E_seq ?_|refine E_region ?_|refine E_cond_t Z ?_|refine E_cond_f Z ?_|refine E_block ?_|refine E_skip ?_|refine E_ret ?_|refine E_exit ?_)))
          all_goals (first|(exfalso;omega)|skip)
          exact ret_1 Z Z ⟨rfl,xC.trans xD⟩
      | some q=>
        obtain⟨xs,b⟩:=q
        cases b with
        | true=>
          cases tokGo zs with
          | some ts=>intro _ h;exact h.elim
          | none=>
            intro hit _
            (repeat' (first|(refine EL_call Z Z (entersF Z Z en120) hit (fun vC wD hC=>?_);obtain⟨xD,vI,rfl,oI⟩:=hC)|(refine at_EL ?_;first|refine EL_nil ?_|refine EL_val Z Z (val_move Z Z) ?_|refine EL_val Z Z (val_assign Z Z) ?_|(refine at_bin ?_;first|refine EL_dec Z Z (val_lss Z Z Z) (fun hh=>?_) (fun hh=>?_))|refine EL_val Z Z (val_not Z Z) ?_|refine EL_val Z Z (val_extract Z Z Z) ?_)|(refine at_K ?_;first|refine K_then ?_|refine K_then_ret ?_|refine K_then_exit ?_|refine K_in_exit ?_)|(refine at_E ?_;first|refine E_seq ?_|refine E_region ?_|refine E_cond_t Z ?_|refine E_cond_f Z ?_|refine E_block ?_|refine E_skip ?_|refine E_ret ?_|refine E_exit ?_)))
            all_goals (first|(exfalso;omega)|skip)
            exact ret_1 Z Z ⟨rfl,xC.trans xD⟩
        | false=>
          cases tokGo zs with
          | none=>intro _ h;exact h.elim
          | some ts=>
            intro hit _
            (repeat' (first|(refine EL_call Z Z (entersF Z Z en120) hit (fun vC wD hC=>?_);obtain⟨xD,vI,rfl,oI⟩:=hC)|(refine at_EL ?_;first|refine EL_nil ?_|refine EL_val Z Z (val_move Z Z) ?_|refine EL_val Z Z (val_assign Z Z) ?_|(refine at_bin ?_;first|refine EL_dec Z Z (val_lss Z Z Z) (fun hh=>?_) (fun hh=>?_))|refine EL_val Z Z (val_not Z Z) ?_|refine EL_val Z Z (val_extract Z Z Z) ?_)|(refine at_K ?_;first|refine K_then ?_|refine K_then_exit ?_|refine K_in_exit ?_)|(refine at_E ?_;first|refine E_seq ?_|refine E_region ?_|refine E_cond_t Z ?_|refine E_cond_f Z ?_|refine E_block ?_|refine E_skip ?_|refine E_ret ?_|refine E_exit ?_)))
            all_goals (first|(exfalso;omega)|skip)
            exact ret_1 Z Z ⟨rfl,xC.trans xD⟩
end Go.Proofs.YtnifmbbpfdghmaaGreatDoor
