/-
  Walks of the layers runes and pattern. Walks of the layers runes and pattern.
-/
import Derived.Test.YtnifmbbpfdghmaaGreatDoorY2
import Derived.Test.YtnifmbbpfdghmaaGreatDoorY1
set_option linter.all false
namespace Go.Proofs.YtnifmbbpfdghmaaGreatDoor
open Go.RowKit Go.En
attribute [local irreducible] E EL K Val Enters Rt Calls bodyPost Code.wp RQ
theorem Scalar_any (a:Int) (w:World):Calls Tryz.prog 161 #[int a] w (Rt fun u w'=>u=.bool (scalI a)∧Ext w w'):=by
  refine calls_E (n:=17) (args:=[int a]) Tryz.func161 rfl Tryz.ntmps161 (by simp) ?_
  (repeat' (first|(refine at_EL ?_;first|refine eN ?_|refine eO Z Z ?_|refine eV Z Z (zA Z Z) ?_|refine eV Z Z (zB Z Z) ?_|(refine at_bin ?_;first|refine eD Z Z (zL Z Z Z) (fun hh=>?_) (fun hh=>?_)|refine eD Z Z (zN Z Z Z) (fun hh=>?_) (fun hh=>?_)|refine eD Z Z (zO Z Z Z) (fun hh=>?_) (fun hh=>?_)|refine eD Z Z (zP Z Z Z) (fun hh=>?_) (fun hh=>?_))|refine eV Z Z (zC Z Z Z) ?_|refine eV Z Z (zD Z Z Z) ?_)|(refine at_K ?_;first|refine K_then ?_)|(refine at_E ?_;first|refine E_seq ?_|refine E_region ?_|refine E_ret ?_)))
  all_goals exact ret_1 Z Z ⟨congrArg Value.bool (by simp [scalI, *]),Ext.refl w⟩
theorem encoded_any (p:Nat) (hp:p≤1114111) (w:World):Calls Tryz.prog 162 #[int p] w (Rt fun u w'=>u=str (encB p)∧Ext w w'):=by
  have hc:=enc_cells (encN_256 hp)
  unfold encN at hc
  refine calls_E (n:=61) (args:=[int p]) Tryz.func162 rfl Tryz.ntmps162 (by simp) ?_
  (repeat' (first|(refine at_EL ?_;first|refine eN ?_|refine eV Z Z (zA Z Z) ?_|refine eV Z Z (zB Z Z) ?_|(refine at_bin ?_;first|refine eD Z Z (zL Z Z Z) (fun hh=>?_) (fun hh=>?_)|(refine eV Z Z (val_add Z Z Z ?_ ?_) ?_;(first|omega|(simp only [kmin,kmax];omega));(first|omega|(simp only [kmin,kmax];omega)))|(refine eV Z Z (val_quo Z Z Z ?_ ?_ ?_) ?_;(first|omega|(simp only [kmin,kmax];omega));(first|omega|(simp only [kmin,kmax];omega));(first|omega|(simp only [kmin,kmax];omega)))|(refine eV Z Z (val_rem Z Z Z ?_ ?_) ?_;(first|omega|(simp only [kmin,kmax];omega));(first|omega|(simp only [kmin,kmax];omega))))|(refine eV Z Z (val_conv_int Z Z ?_ ?_) ?_;(first|omega|(simp only [kmin,kmax];omega));(first|omega|(simp only [kmin,kmax];omega)))|refine eL Z Z Z Z Z Z Z Z (fun bS wS xS hbS rS=>?_))|(refine at_K ?_;first|refine K_then ?_|refine K_in ?_)|(refine at_E ?_;first|refine E_seq ?_|refine E_region ?_|refine E_cond_t Z ?_|refine E_cond_f Z ?_|refine E_block ?_|refine E_skip ?_)))
  · rw [if_pos (by omega)] at hc
    have hat:At wS bS 0 ((encB p).map fun b=>Value.int .u8 b.toNat):=by rw [hc];exact rS.at
    refine EL_val Z Z (val_bytes_str Z Z (by have:=congrArg List.length hc;simpa using this) hat) ?_
    (repeat' (first|(refine at_EL ?_;first|refine eN ?_|refine eV Z Z (zB Z Z) ?_)|(refine at_K ?_;first|refine K_then ?_|refine K_then_ret ?_|refine K_in_ret ?_)|(refine at_E ?_;first|refine E_ret ?_)))
    exact ret_1 Z Z ⟨rfl,xS⟩
  · rw [if_neg (by omega),if_pos (by omega)] at hc
    have hat:At wS bS 0 ((encB p).map fun b=>Value.int .u8 b.toNat):=by rw [hc];simpa [Value.cells] using rS.at
    refine EL_val Z Z (val_bytes_str Z Z (by have:=congrArg List.length hc;simpa using this) hat) ?_
    (repeat' (first|(refine at_EL ?_;first|refine eN ?_|refine eV Z Z (zB Z Z) ?_)|(refine at_K ?_;first|refine K_then ?_|refine K_then_ret ?_|refine K_in_ret ?_)|(refine at_E ?_;first|refine E_ret ?_)))
    exact ret_1 Z Z ⟨rfl,xS⟩
  · rw [if_neg (by omega),if_neg (by omega),if_pos (by omega)] at hc
    have hat:At wS bS 0 ((encB p).map fun b=>Value.int .u8 b.toNat):=by rw [hc];simpa [Value.cells] using rS.at
    refine EL_val Z Z (val_bytes_str Z Z (by have:=congrArg List.length hc;simpa using this) hat) ?_
    (repeat' (first|(refine at_EL ?_;first|refine eN ?_|refine eV Z Z (zB Z Z) ?_)|(refine at_K ?_;first|refine K_then ?_|refine K_then_ret ?_|refine K_in_ret ?_)|(refine at_E ?_;first|refine E_ret ?_)))
    exact ret_1 Z Z ⟨rfl,xS⟩
  · rw [if_neg (by omega),if_neg (by omega),if_neg (by omega)] at hc
    have hat:At wS bS 0 ((encB p).map fun b=>Value.int .u8 b.toNat):=by rw [hc];simpa [Value.cells] using rS.at
    refine EL_val Z Z (val_bytes_str Z Z (by have:=congrArg List.length hc;simpa using this) hat) ?_
    (repeat' (first|(refine at_EL ?_;first|refine eN ?_|refine eV Z Z (zB Z Z) ?_)|(refine at_K ?_;first|refine K_then ?_)|(refine at_E ?_;first|refine E_ret ?_)))
    exact ret_1 Z Z ⟨rfl,xS⟩
set_option maxRecDepth 8000 in
theorem first_any (l : List UInt8) (i : Nat) (hi : i < l.length) (hl : l.length ≤ 1099511627776) (w : World) : Calls Tryz.prog 131 #[str l, int i] w (Rt fun u w' => u = .tuple #[int (fR (l.drop i)).1, int (fR (l.drop i)).2] ∧ Ext w w') := by
  have hc0:=drop_get (l:=l) (i:=i) (j:=0) hi
  rw [Nat.add_zero] at hc0
  have hdl:(l.drop i).length=l.length-i:=List.length_drop
  obtain⟨d,hd⟩:∃ d,d=l.drop i:=⟨_,rfl⟩
  rw [← hd] at hc0 hdl ⊢
  have hb:=UInt8.toNat_lt (d.getD 0 0)
  obtain⟨n,hn⟩:∃ n,n=leadN (d.getD 0 0).toNat:=⟨_,rfl⟩
  have hn1:=leadN_1 (d.getD 0 0).toNat
  rw [← hn] at hn1
  refine calls_E (n:=65) (args:=[str l,int i]) Tryz.func131 rfl Tryz.ntmps131 (by simp) ?_
  (repeat' ((fail_if_success (refine E_seq (x:=(Code.block 0 _)) ?_));first|refine EL_val Z Z (val_index_str Z Z Z Z hc0) ?_|(refine at_EL ?_;first|refine eN ?_|refine eV Z Z (zA Z Z) ?_|refine eV Z Z (zB Z Z) ?_|(refine eV Z Z (val_conv_int Z Z ?_ ?_) ?_;(first|omega|(simp only [kmin,kmax];omega));(first|omega|(simp only [kmin,kmax];omega))))|(refine at_K ?_;first|refine K_then ?_)|(refine at_E ?_;first|refine E_seq ?_|refine E_region ?_)))
  refine E_mid (ι:=Unit) (fun _=>[(0,str l),(1,int i),(6,int (leadP (d.getD 0 0).toNat)),(7,int n)]) (fun _ w2=>w2=w) ?_ ?_
  · (repeat' (first|(refine at_EL ?_;first|refine eN ?_|refine eV Z Z (zA Z Z) ?_|refine eV Z Z (zB Z Z) ?_|(refine at_bin ?_;first|refine eD Z Z (zP Z Z Z) (fun hh=>?_) (fun hh=>?_)|(refine eV Z Z (val_sub Z Z Z ?_ ?_) ?_;(first|omega|(simp only [kmin,kmax];omega));(first|omega|(simp only [kmin,kmax];omega)))))|(refine at_K ?_;first|refine K_then ?_|refine K_in ?_)|(refine at_E ?_;first|refine E_seq ?_|refine E_region ?_|refine E_cond_t Z ?_|refine E_cond_f Z ?_|refine E_block ?_|refine E_skip ?_)))
    all_goals exact K_mid () ⟨rfl,rfl,congrArg some (congrArg (Value.int .i64) (by unfold leadP;(repeat' split) <;> omega)),congrArg some (congrArg (Value.int .i64) (by rw [hn];unfold leadN;(repeat' split) <;> omega)),trivial⟩ rfl
  · rintro - w2 rfl
    have hstep:∀ k,k+1<n→accP d (k+2)=accP d (k+1)*64+(d.getD (k+1) 0).toNat % 64:=fun k _=>rfl
    (repeat' (first|(refine at_EL ?_;first|refine eN ?_|refine eV Z Z (zA Z Z) ?_|refine eV Z Z (zB Z Z) ?_|(refine at_bin ?_;first|refine eD Z Z (zO Z Z Z) (fun hh=>?_) (fun hh=>?_)|(refine eV Z Z (val_add Z Z Z ?_ ?_) ?_;(first|omega|(simp only [kmin,kmax];omega));(first|omega|(simp only [kmin,kmax];omega))))|(refine at_call ?_;first|refine eV Z Z (zJ Z Z) ?_))|(refine at_K ?_;first|refine K_then ?_|refine K_then_ret ?_)|(refine at_E ?_;first|refine E_seq ?_|refine E_region ?_|refine E_cond_t Z ?_|refine E_cond_f Z ?_|refine E_block ?_|refine E_skip ?_|refine E_ret ?_)))
    · refine ret_2 Z Z Z ⟨?_,Ext.refl _⟩
      have:firstR d=none:=by unfold firstR;rw [if_pos (by rw [← hn];omega)]
      simp [fR,this]
    · have hle:i+n≤l.length:=by omega
      refine E_loop (ι:=Nat) (fun k=>[(0,str l),(1,int i),(6,int (accP d k)),(7,int n),(8,int k)]) (fun k w'=>1≤k∧k≤n∧w'=w2) (fun k=>n-k) 1 ⟨rfl,rfl,rfl,rfl,rfl,trivial⟩ ⟨Nat.le_refl _,hn1.1,rfl⟩ ?_
      rintro k w' ⟨hk1,hkn,rfl⟩
      have hac:=accP_le d k (by omega)
      have hck:k<n→l[i+k]?=some (d.getD k 0):=fun h=>by rw [hd];exact drop_get (by omega)
      have hbk:=UInt8.toNat_lt (d.getD k 0)
      refine E_mid (ι:=Unit) (fun _=>[(0,str l),(1,int i),(6,int (accP d k)),(7,int n),(8,int k)]) (fun _ w2=>w2=w'∧k<n) ?_ ?_
      · (repeat' (first|(refine at_EL ?_;first|refine eN ?_|refine eV Z Z (zA Z Z) ?_|(refine at_bin ?_;first|refine eD Z Z (zL Z Z Z) (fun hh=>?_) (fun hh=>?_)))|(refine at_K ?_;first|refine K_then ?_|refine K_then_exit ?_|refine K_in_exit ?_)|(refine at_E ?_;first|refine E_seq ?_|refine E_region ?_|refine E_cond_t Z ?_|refine E_cond_f Z ?_|refine E_skip ?_|refine E_exit ?_|refine E_dq mixedOk (by kernel_rfl) Z ?_)|(refine at_RQ ?_;first|refine yV Z Z (fun _ _ _=>zA Z Z) ?_)))
        · exact K_mid () ⟨rfl,rfl,rfl,rfl,rfl,trivial⟩ ⟨rfl,by omega⟩
        · have hkn':k=n:=by omega
          subst hkn'
          have hsc:=scalI_eq (accP d k)
          cases hs:scal (accP d k) with
          | false=>
            rw [hs] at hsc
            (repeat' (first|refine RQ_call (v:=.bool false) Z Z (fun _ _ _=>entersF Z Z en161) (fun wq _=>hsc▸Scalar_any _ wq) ?_|(refine at_EL ?_;first|refine eN ?_|refine eV Z Z (zB Z Z) ?_)|(refine at_K ?_;first|refine K_then ?_|refine K_then_ret ?_)|(refine at_E ?_;first|refine E_seq ?_|refine E_region ?_|refine E_cond_t Z ?_|refine E_ret ?_)|(refine at_RQ ?_;first|refine yN Z (fun wq xq=>?_)|refine yO Z Z ?_|refine yV Z Z (fun _ _ _=>zA Z Z) ?_|refine yV Z Z (fun _ _ _=>zC Z Z Z) ?_|refine yV Z Z (fun _ _ _=>zE Z Z) ?_)))
            refine ret_2 Z Z Z ⟨?_,xq⟩
            have:firstR d=none:=by
              unfold firstR
              rw [← hn,if_neg (by omega),if_neg (by rw [hs];simp)]
            simp [fR,this]
          | true=>
            rw [hs] at hsc
            have hp:accP d k≤1114111:=(scal_iff.1 hs).1
            have htake:(l.take (i+k)).drop i=d.take k:=by rw [hd,List.drop_take,Nat.add_sub_cancel_left]
            (repeat' (first|refine RQ_call (v:=.bool true) Z Z (fun _ _ _=>entersF Z Z en161) (fun wq _=>hsc▸Scalar_any _ wq) ?_|refine RQ_call Z Z (fun _ _ _=>entersF Z Z en162) (fun wq _=>encoded_any _ hp wq) ?_|refine RQ_val Z Z (fun _ _ _=>val_slice_str Z Z Z Z Z (Int.natCast_add i k).symm (by omega) (by omega)) ?_|(refine at_EL ?_;first|refine eN ?_|refine eV Z Z (zA Z Z) ?_|refine eV Z Z (zB Z Z) ?_)|(refine at_K ?_;first|refine K_then ?_|refine K_then_ret ?_)|(refine at_E ?_;first|refine E_seq ?_|refine E_region ?_|refine E_cond_t Z ?_|refine E_cond_f Z ?_|refine E_skip ?_|refine E_ret ?_)|(refine at_RQ ?_;first|refine yN Z (fun wq xq=>?_)|refine yV Z Z (fun _ _ _=>zA Z Z) ?_|(refine at_binR ?_;first|refine yD Z Z (fun _ _ _=>zS Z Z Z) (fun hh=>?_) (fun hh=>?_)|(refine yV Z Z (fun _ _ _=>val_add Z Z Z ?_ ?_) ?_;(first|omega|(simp only [kmin,kmax];omega));(first|omega|(simp only [kmin,kmax];omega))))|refine yV Z Z (fun _ _ _=>zD Z Z Z) ?_|refine yV Z Z (fun _ _ _=>zE Z Z) ?_)))
            · have hne:¬ encB (accP d k)=d.take k:=by rw [← htake];assumption
              refine ret_2 Z Z Z ⟨?_,xq⟩
              have:firstR d=none:=by
                unfold firstR
                rw [← hn,if_neg (by omega),if_neg (fun h=>hne h.2)]
              simp [fR,this]
            · have he:encB (accP d k)=d.take k:=by rw [← htake];exact Classical.not_not.1 (by assumption)
              refine ret_2 Z Z Z ⟨?_,xq⟩
              have:firstR d=some (accP d k,k):=by
                unfold firstR
                rw [← hn,if_neg (by omega),if_pos ⟨hs,he⟩]
              simp [fR,this]
      · rintro-w2 ⟨rfl,hlt⟩
        have hstep:accP d (k+1)=accP d k*64+(d.getD k 0).toNat % 64:=by
          obtain⟨j,rfl⟩:∃ j,k=j+1:=⟨k-1,by omega⟩
          rfl
        (repeat' (first|refine EL_val Z Z (val_index_str Z Z Z (Int.natCast_add i k).symm (hck hlt)) ?_|(refine at_EL ?_;first|refine eN ?_|refine eV Z Z (zA Z Z) ?_|refine eV Z Z (zB Z Z) ?_|(refine at_bin ?_;first|(refine eV Z Z (val_add Z Z Z ?_ ?_) ?_;(first|omega|(simp only [kmin,kmax];omega));(first|omega|(simp only [kmin,kmax];omega)))|(refine eV Z Z (val_rem Z Z Z ?_ ?_) ?_;(first|omega|(simp only [kmin,kmax];omega));(first|omega|(simp only [kmin,kmax];omega)))|(refine eV Z Z (val_mul Z Z Z ?_ ?_) ?_;(first|omega|(simp only [kmin,kmax];omega));(first|omega|(simp only [kmin,kmax];omega))))|(refine eV Z Z (val_conv_int Z Z ?_ ?_) ?_;(first|omega|(simp only [kmin,kmax];omega));(first|omega|(simp only [kmin,kmax];omega))))|(refine at_K ?_;first|refine K_then ?_|refine K_in ?_)|(refine at_E ?_;first|refine E_seq ?_|refine E_region ?_|refine E_block ?_)))
        exact K_rnd (k+1) ⟨rfl,rfl,congrArg some (congrArg (Value.int .i64) (by rw [hstep];omega)),rfl,rfl,trivial⟩ ⟨by omega,by omega,rfl⟩ (by omega)
end Go.Proofs.YtnifmbbpfdghmaaGreatDoor
namespace Go.Proofs.YtnifmbbpfdghmaaGreatDoor
open Go.RowKit Go.En
attribute [local irreducible] E EL K Val Enters Rt Calls bodyPost Code.wp RQ
theorem rPoints_any (l : List UInt8) (hl : l.length ≤ 16777216) (w : World) : Calls Tryz.prog 101 #[str l] w (Rt (PointsR w (points l))) := by
  refine calls_E (n:=28) (args:=[str l]) Tryz.func101 rfl Tryz.ntmps101 (by simp) ?_
  (repeat' (first|(refine at_EL ?_;first|refine eN ?_|refine eV Z Z (zB Z Z) ?_)|(refine at_K ?_;first|refine K_then ?_)|(refine at_E ?_;first|refine E_seq ?_|refine E_region ?_|refine E_block ?_)))
  refine E_loop (ι:=Nat × Value × List Nat) (fun x=>[(0,str l),(4,x.2.1),(5,int x.1)]) (fun x wr=>x.1≤l.length∧x.2.2.length≤x.1∧points l=(points (l.drop x.1)).map (x.2.2++·)∧IntsOwn w wr x.2.1 x.2.2∧Ext w wr) (fun x=>l.length-x.1) (0,.slice none 0 0,[])
    ⟨rfl,rfl,rfl,trivial⟩ ⟨Nat.zero_le _,Nat.le_refl _,by simp,World.ownsRow_nil _ _ _ _,Ext.refl _⟩ ?_
  rintro⟨i,v,zs⟩ wr ⟨hi,hz,hp,hown,hx⟩
  dsimp only at hi hz hp hown hx ⊢
  by_cases hlt:i<l.length
  · have hne:l.drop i≠[]:=by intro h;have:=congrArg List.length h;simp at this;omega
    have hf:=first_any l i hlt (by omega) wr
    rw [points_step hne] at hp
    cases hfr:firstR (l.drop i) with
    | none=>
      rw [hfr] at hp
      simp only [fR,hfr] at hf
      (repeat' (first|(refine EL_call Z Z (entersF Z Z en131) hf (fun vC wC hC=>?_);obtain⟨rfl,xC⟩:=hC)|(refine at_EL ?_;first|refine eN ?_|refine eV Z Z (zA Z Z) ?_|refine eV Z Z (zB Z Z) ?_|(refine at_bin ?_;first|refine eD Z Z (zL Z Z Z) (fun hh=>?_) (fun hh=>?_)|refine eD Z Z (zM Z Z Z) (fun hh=>?_) (fun hh=>?_))|(refine at_call ?_;first|refine eV Z Z (zJ Z Z) ?_)|refine eV Z Z (zF Z Z Z) ?_|refine eL Z Z Z Z Z Z Z Z (fun bS wS xS hbS rS=>?_))|(refine at_K ?_;first|refine K_then ?_|refine K_then_ret ?_|refine K_then_exit ?_|refine K_in_ret ?_|refine K_in_exit ?_)|(refine at_E ?_;first|refine E_seq ?_|refine E_region ?_|refine E_cond_t Z ?_|refine E_cond_f Z ?_|refine E_block ?_|refine E_skip ?_|refine E_ret ?_|refine E_exit ?_)))
      · refine ret_2 Z Z Z ⟨hx.trans xC,?_⟩
        rw [hp];rfl
      all_goals omega
    | some q=>
      obtain⟨p,n⟩:=q
      have hq:=firstR_some hfr
      rw [List.length_drop] at hq
      rw [hfr] at hp
      simp only [fR,hfr] at hf
      (repeat' (first|(refine EL_call Z Z (entersF Z Z en131) hf (fun vC wC hC=>?_);obtain⟨rfl,xC⟩:=hC)|(refine at_EL ?_;first|refine eN ?_|refine eV Z Z (zA Z Z) ?_|refine eV Z Z (zB Z Z) ?_|(refine at_bin ?_;first|refine eD Z Z (zL Z Z Z) (fun hh=>?_) (fun hh=>?_)|refine eD Z Z (zM Z Z Z) (fun hh=>?_) (fun hh=>?_))|(refine at_call ?_;first|refine eV Z Z (zJ Z Z) ?_)|refine eV Z Z (zF Z Z Z) ?_|refine eL Z Z Z Z Z Z Z Z (fun bS wS xS hbS rS=>?_))|(refine at_K ?_;first|refine K_then ?_|refine K_then_ret ?_|refine K_then_exit ?_|refine K_in_ret ?_|refine K_in_exit ?_)|(refine at_E ?_;first|refine E_seq ?_|refine E_region ?_|refine E_cond_t Z ?_|refine E_cond_f Z ?_|refine E_block ?_|refine E_skip ?_|refine E_ret ?_|refine E_exit ?_)))
      all_goals (first|(exfalso;omega)|skip)
      refine EL_app (own_ext hown (xC.trans xS)) ((hx.trans xC).trans xS) rS.at rfl rfl rfl rfl rfl rfl rfl rfl rfl (by omega) (by omega) (fun vA wA oA xA _=>?_)
      (repeat' (first|(refine at_EL ?_;first|refine eN ?_|refine eV Z Z (zA Z Z) ?_|refine eV Z Z (zB Z Z) ?_|(refine at_bin ?_;first|(refine eV Z Z (val_add Z Z Z ?_ ?_) ?_;(first|omega|(simp only [kmin,kmax];omega));(first|omega|(simp only [kmin,kmax];omega)))))|(refine at_K ?_;first|refine K_then ?_|refine K_in ?_)|(refine at_E ?_;first|refine E_region ?_)))
      refine K_rnd (i+n,vA,zs++[p]) ⟨rfl,rfl,rfl,trivial⟩ ⟨by dsimp only;omega,by simp;omega,?_,?_,xA⟩ (by dsimp only;omega)
      · rw [hp]
        simp only [List.drop_drop]
        cases points (l.drop (i+n)) <;> simp
      · unfold IntsOwn
        simpa [Value.cells] using oA
  · have hil:i=l.length:=by omega
    subst hil
    (repeat' (first|(refine at_EL ?_;first|refine eN ?_|refine eV Z Z (zA Z Z) ?_|refine eV Z Z (zB Z Z) ?_|(refine at_bin ?_;first|refine eD Z Z (zL Z Z Z) (fun hh=>?_) (fun hh=>?_))|(refine at_call ?_;first|refine eV Z Z (zJ Z Z) ?_))|(refine at_K ?_;first|refine K_then ?_|refine K_then_exit ?_|refine K_in_exit ?_)|(refine at_E ?_;first|refine E_seq ?_|refine E_region ?_|refine E_cond_t Z ?_|refine E_cond_f Z ?_|refine E_block ?_|refine E_skip ?_|refine E_ret ?_|refine E_exit ?_)))
    all_goals (first|(exfalso;omega)|skip)
    rw [List.drop_length,points_nil] at hp
    simp only [Option.map_some,List.append_nil] at hp
    refine ret_2 Z Z Z ⟨hx,?_⟩
    rw [hp]
    exact⟨v,rfl,hown⟩
end Go.Proofs.YtnifmbbpfdghmaaGreatDoor
