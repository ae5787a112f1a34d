/-
  Walks of the layers runes and pattern.
-/
import Derived.Test.YtnifmbbpfdghmaaGreatDoorYe
set_option linter.all false
namespace Go.Proofs.YtnifmbbpfdghmaaGreatDoor
open Go.RowKit Go.En
attribute [local irreducible] E EL K Val Enters Rt Calls bodyPost Code.wp RQ
theorem special_any (a:Int) (w:World):Calls Tryz.prog 130 #[int a] w (Rt fun u w'=>u=.bool (specialI a)∧Ext w w'):=by
  refine calls_E (n:=13) (args:=[int a]) Tryz.func130 rfl Tryz.ntmps130 (by simp) ?_
  (repeat' (first|(refine at_EL ?_;first|refine eN ?_|refine eO Z Z ?_|refine eV Z Z (zA Z Z) ?_|refine eV Z Z (zB Z Z) ?_|(refine at_bin ?_;first|refine eD Z Z (zM Z Z Z) (fun hh=>?_) (fun hh=>?_))|refine eV Z Z (zC Z Z Z) ?_|refine eV Z Z (zD Z Z Z) ?_)|(refine at_K ?_;first|refine K_then ?_)|(refine at_E ?_;first|refine E_seq ?_|refine E_region ?_|refine E_ret ?_)))
  all_goals exact ret_1 Z Z ⟨congrArg Value.bool (by simp [specialI, *]),Ext.refl w⟩
set_option maxRecDepth 8000 in
set_option maxHeartbeats 4000000 in
theorem tokens_any (p : List UInt8) (w : World) : Calls Tryz.prog 100 #[str p] w (Rt (TokR w (tokens p))) := by
  refine calls_E (n:=73) (args:=[str p]) Tryz.func100 rfl Tryz.ntmps100 (by simp) ?_
  by_cases h0:p=[]
  · subst h0
    (repeat' (first|(refine at_EL ?_;first|refine eN ?_|refine eV Z Z (zA Z Z) ?_|refine eV Z Z (zB Z Z) ?_|(refine at_bin ?_;first|refine eD Z Z (zO Z Z Z) (fun hh=>?_) (fun hh=>?_)|refine eD Z Z (zR Z Z Z) (fun hh=>?_) (fun hh=>?_))|(refine at_call ?_;first|refine eV Z Z (zJ Z Z) ?_))|(refine at_K ?_;first|refine K_then ?_|refine K_then_ret ?_)|(refine at_E ?_;first|refine E_seq ?_|refine E_region ?_|refine E_cond_t Z ?_|refine E_cond_f Z ?_|refine E_skip ?_|refine E_ret ?_)))
    · exact ret_2 Z Z Z ⟨Ext.refl _,rfl⟩
    all_goals (exact absurd rfl ‹_›)
  by_cases h64:64<p.length
  · (repeat' (first|(refine at_EL ?_;first|refine eN ?_|refine eV Z Z (zA Z Z) ?_|refine eV Z Z (zB Z Z) ?_|(refine at_bin ?_;first|refine eD Z Z (zO Z Z Z) (fun hh=>?_) (fun hh=>?_)|refine eD Z Z (zR Z Z Z) (fun hh=>?_) (fun hh=>?_))|(refine at_call ?_;first|refine eV Z Z (zJ Z Z) ?_))|(refine at_K ?_;first|refine K_then ?_|refine K_then_ret ?_)|(refine at_E ?_;first|refine E_seq ?_|refine E_region ?_|refine E_cond_t Z ?_|refine E_cond_f Z ?_|refine E_skip ?_|refine E_ret ?_)))
    all_goals (first|(exfalso;omega)|(exact absurd ‹_› h0)|skip)
    exact ret_2 Z Z Z ⟨Ext.refl _,by simp [tokens,h0,h64]⟩
  have hpo:=rPoints_any p (by omega) w
  cases hp:points p with
  | none=>
    rw [hp] at hpo
    (repeat' (first|(refine EL_call Z Z (entersF Z Z en101) hpo (fun vC wC hC=>?_);obtain⟨xC,rfl⟩:=hC)|(refine at_EL ?_;first|refine eN ?_|refine eV Z Z (zA Z Z) ?_|refine eV Z Z (zB Z Z) ?_|(refine at_bin ?_;first|refine eD Z Z (zO Z Z Z) (fun hh=>?_) (fun hh=>?_)|refine eD Z Z (zR Z Z Z) (fun hh=>?_) (fun hh=>?_))|(refine at_call ?_;first|refine eV Z Z (zJ Z Z) ?_)|refine eV Z Z (zE Z Z) ?_|refine eV Z Z (zF Z Z Z) ?_)|(refine at_K ?_;first|refine K_then ?_|refine K_then_ret ?_)|(refine at_E ?_;first|refine E_seq ?_|refine E_region ?_|refine E_cond_t Z ?_|refine E_cond_f Z ?_|refine E_skip ?_|refine E_ret ?_)))
    all_goals (first|(exfalso;omega)|(exact absurd ‹_› h0)|skip)
    exact ret_2 Z Z Z ⟨xC,by simp [tokens,h0,h64,hp]⟩
  | some zs =>
    rw [hp] at hpo
    obtain⟨hzl,hsc,_⟩:=points_len _ p zs (Nat.le_refl _) hp
    have htk:tokens p=match tokGo zs with|none=>.error 3|some ts=>.ok ts:=by simp [tokens,h0,h64,hp];cases tokGo zs <;> rfl
    (repeat' (first|(refine EL_call Z Z (entersF Z Z en101) hpo (fun vC wC hC=>?_);obtain⟨xC,vP,rfl,oP⟩:=hC)|(refine at_EL ?_;first|refine eN ?_|refine eV Z Z (zA Z Z) ?_|refine eV Z Z (zB Z Z) ?_|(refine at_bin ?_;first|refine eD Z Z (zO Z Z Z) (fun hh=>?_) (fun hh=>?_)|refine eD Z Z (zR Z Z Z) (fun hh=>?_) (fun hh=>?_))|(refine at_call ?_;first|refine eV Z Z (zJ Z Z) ?_)|refine eV Z Z (zE Z Z) ?_|refine eV Z Z (zF Z Z Z) ?_|refine eL Z Z Z Z Z Z Z Z (fun bS wS xS hbS rS=>?_))|(refine at_K ?_;first|refine K_then ?_|refine K_then_ret ?_)|(refine at_E ?_;first|refine E_seq ?_|refine E_region ?_|refine E_cond_t Z ?_|refine E_cond_f Z ?_|refine E_block ?_|refine E_skip ?_|refine E_ret ?_)))
    all_goals (first|(exfalso;omega)|(exact absurd ‹_› h0)|skip)
    obtain⟨a,cap,rfl,hc,hat⟩:=own_sl oP
    refine E_loop (ι:=Nat × Value × List Int) (fun x=>[(4,.slice a zs.length cap),(6,x.2.1),(7,int x.1)]) (fun x wr=>x.1≤zs.length∧x.2.2.length≤x.1∧tokGo zs=(tokGo (zs.drop x.1)).map (x.2.2++·)∧wr.ownsRow wC.heap.size 3 1 x.2.1 x.2.2.length (x.2.2.map int)∧Ext wC wr) (fun x=>zs.length-x.1) (0,.slice (some ⟨bS,0,none⟩) 0 0,[])
      ⟨rfl,rfl,rfl,trivial⟩ ⟨Nat.zero_le _,Nat.le_refl _,by simp,own_row rS rfl (by omega) (by omega),xS⟩ ?_
    rintro⟨i,v,ts⟩ wr ⟨hi,hz,hg,hown,hx⟩
    dsimp only at hi hz hg hown hx ⊢
    by_cases hlt:i<zs.length
    · obtain ⟨b, off, rfl, hq⟩ := hat (by omega)
      obtain⟨z,hz⟩:∃ z,zs[i]?=some z:=⟨_,List.getElem?_eq_getElem hlt⟩
      rw [drop_ith hz] at hg
      rw [tokGo_cons] at hg
      by_cases hbad:z<32∨z=127
      · rw [if_pos hbad] at hg
        (repeat' (first|refine EL_val Z Z (val_indexAddr Z Z Z Z hlt) ?_|refine EL_val Z Z (val_load Z Z Z (hx.cell (hq.ith hz))) ?_|(refine at_EL ?_;first|refine eN ?_|refine eO Z Z ?_|refine eV Z Z (zA Z Z) ?_|refine eV Z Z (zB Z Z) ?_|(refine at_bin ?_;first|refine eD Z Z (zL Z Z Z) (fun hh=>?_) (fun hh=>?_)|refine eD Z Z (zM Z Z Z) (fun hh=>?_) (fun hh=>?_)|(refine eV Z Z (val_add Z Z Z ?_ ?_) ?_;(first|omega|(simp only [kmin,kmax];omega));(first|omega|(simp only [kmin,kmax];omega))))|(refine at_call ?_;first|refine eV Z Z (zK Z Z) ?_)|refine eV Z Z (zC Z Z Z) ?_|refine eV Z Z (zD Z Z Z) ?_|refine eL Z Z Z Z Z Z Z Z (fun bS wS xS hbS rS=>?_))|(refine at_K ?_;first|refine K_then ?_|refine K_then_ret ?_|refine K_then_exit ?_|refine K_in_ret ?_|refine K_in_exit ?_)|(refine at_E ?_;first|refine E_seq ?_|refine E_region ?_|refine E_cond_t Z ?_|refine E_cond_f Z ?_|refine E_block ?_|refine E_skip ?_|refine E_ret ?_|refine E_exit ?_)))
        all_goals (first|(exfalso;omega)|skip)
        all_goals exact ret_2 Z Z Z ⟨xC.trans hx,by rw [htk,hg];rfl⟩
      · rw [if_neg hbad] at hg
        by_cases h92:z=92
        · rw [if_pos h92] at hg
          by_cases hlast:i+1=zs.length
          · rw [hlast,List.drop_length] at hg
            dsimp only at hg
            (repeat' (first|refine EL_val Z Z (val_indexAddr Z Z Z Z hlt) ?_|refine EL_val Z Z (val_load Z Z Z (hx.cell (hq.ith hz))) ?_|(refine at_EL ?_;first|refine eN ?_|refine eO Z Z ?_|refine eV Z Z (zA Z Z) ?_|refine eV Z Z (zB Z Z) ?_|(refine at_bin ?_;first|refine eD Z Z (zL Z Z Z) (fun hh=>?_) (fun hh=>?_)|refine eD Z Z (zM Z Z Z) (fun hh=>?_) (fun hh=>?_)|(refine eV Z Z (val_add Z Z Z ?_ ?_) ?_;(first|omega|(simp only [kmin,kmax];omega));(first|omega|(simp only [kmin,kmax];omega))))|(refine at_call ?_;first|refine eV Z Z (zK Z Z) ?_)|refine eV Z Z (zC Z Z Z) ?_|refine eV Z Z (zD Z Z Z) ?_|refine eL Z Z Z Z Z Z Z Z (fun bS wS xS hbS rS=>?_))|(refine at_K ?_;first|refine K_then ?_|refine K_then_ret ?_|refine K_then_exit ?_|refine K_in_ret ?_|refine K_in_exit ?_)|(refine at_E ?_;first|refine E_seq ?_|refine E_region ?_|refine E_cond_t Z ?_|refine E_cond_f Z ?_|refine E_block ?_|refine E_skip ?_|refine E_ret ?_|refine E_exit ?_)))
            all_goals (first|(exfalso;omega)|skip)
            all_goals exact ret_2 Z Z Z ⟨xC.trans hx,by rw [htk,hg];rfl⟩
          · have hlt1:i+1<zs.length:=by omega
            obtain⟨y,hy⟩:∃ y,zs[i+1]?=some y:=⟨_,List.getElem?_eq_getElem hlt1⟩
            rw [drop_ith hy] at hg
            dsimp only at hg
            cases hsp:specialI (y:Int) with
            | false=>
              rw [if_neg (by rw [hsp];simp)] at hg
              (repeat' (first|refine EL_val Z Z (val_indexAddr Z Z Z Z hlt) ?_|refine EL_val Z Z (val_load Z Z Z (hx.cell (hq.ith hz))) ?_|refine EL_val Z Z (val_indexAddr (m:=i+1) Z Z Z (by omega) hlt1) ?_|refine EL_val Z Z (val_load Z Z Z (hx.cell (hq.ith hy))) ?_|(refine EL_call Z Z (entersF Z Z en130) (special_any _ _) (fun vC wD hC=>?_);obtain⟨rfl,xD⟩:=hC;rw [hsp])|(refine at_EL ?_;first|refine eN ?_|refine eO Z Z ?_|refine eV Z Z (zA Z Z) ?_|refine eV Z Z (zB Z Z) ?_|(refine at_bin ?_;first|refine eD Z Z (zL Z Z Z) (fun hh=>?_) (fun hh=>?_)|refine eD Z Z (zM Z Z Z) (fun hh=>?_) (fun hh=>?_)|(refine eV Z Z (val_add Z Z Z ?_ ?_) ?_;(first|omega|(simp only [kmin,kmax];omega));(first|omega|(simp only [kmin,kmax];omega))))|(refine at_call ?_;first|refine eV Z Z (zK Z Z) ?_)|refine eV Z Z (zC Z Z Z) ?_|refine eV Z Z (zD Z Z Z) ?_|refine eV Z Z (zE Z Z) ?_|refine eL Z Z Z Z Z Z Z Z (fun bS wS xS hbS rS=>?_))|(refine at_K ?_;first|refine K_then ?_|refine K_then_ret ?_|refine K_then_exit ?_|refine K_in_ret ?_|refine K_in_exit ?_)|(refine at_E ?_;first|refine E_seq ?_|refine E_region ?_|refine E_cond_t Z ?_|refine E_cond_f Z ?_|refine E_block ?_|refine E_skip ?_|refine E_ret ?_|refine E_exit ?_)))
              all_goals (first|(exfalso;omega)|skip)
              all_goals exact ret_2 Z Z Z ⟨(xC.trans hx).trans xD,by rw [htk,hg];rfl⟩
            | true=>
              rw [if_pos hsp] at hg
              (repeat' (first|refine EL_val Z Z (val_indexAddr Z Z Z Z hlt) ?_|refine EL_val Z Z (val_load Z Z Z (hx.cell (hq.ith hz))) ?_|refine EL_val Z Z (val_indexAddr (m:=i+1) Z Z Z (by omega) hlt1) ?_|refine EL_val Z Z (val_load Z Z Z (hx.cell (hq.ith hy))) ?_|refine EL_val Z Z (val_load Z Z Z ((hx.trans xD).cell (hq.ith hy))) ?_|(refine EL_call Z Z (entersF Z Z en130) (special_any _ _) (fun vC wD hC=>?_);obtain⟨rfl,xD⟩:=hC;rw [hsp])|(refine at_EL ?_;first|refine eN ?_|refine eO Z Z ?_|refine eV Z Z (zA Z Z) ?_|refine eV Z Z (zB Z Z) ?_|(refine at_bin ?_;first|refine eD Z Z (zL Z Z Z) (fun hh=>?_) (fun hh=>?_)|refine eD Z Z (zM Z Z Z) (fun hh=>?_) (fun hh=>?_)|(refine eV Z Z (val_add Z Z Z ?_ ?_) ?_;(first|omega|(simp only [kmin,kmax];omega));(first|omega|(simp only [kmin,kmax];omega))))|(refine at_call ?_;first|refine eV Z Z (zK Z Z) ?_)|refine eV Z Z (zC Z Z Z) ?_|refine eV Z Z (zD Z Z Z) ?_|refine eV Z Z (zE Z Z) ?_|refine eL Z Z Z Z Z Z Z Z (fun bS wS xS hbS rS=>?_))|(refine at_K ?_;first|refine K_then ?_|refine K_then_ret ?_|refine K_then_exit ?_|refine K_in_ret ?_|refine K_in_exit ?_)|(refine at_E ?_;first|refine E_seq ?_|refine E_region ?_|refine E_cond_t Z ?_|refine E_cond_f Z ?_|refine E_block ?_|refine E_skip ?_|refine E_ret ?_|refine E_exit ?_)))
              all_goals (first|(exfalso;omega)|skip)
              refine EL_app (own_ext hown (xD.trans xS)) ((hx.trans xD).trans xS) rS.at rfl rfl rfl rfl rfl rfl rfl rfl rfl (by omega) (by omega) (fun vA wA oA xA _=>?_)
              (repeat' (first|(refine at_EL ?_;first|refine eN ?_|refine eV Z Z (zA Z Z) ?_|refine eV Z Z (zB Z Z) ?_|(refine at_bin ?_;first|(refine eV Z Z (val_add Z Z Z ?_ ?_) ?_;(first|omega|(simp only [kmin,kmax];omega));(first|omega|(simp only [kmin,kmax];omega)))))|(refine at_K ?_;first|refine K_then ?_|refine K_in ?_)|(refine at_E ?_;first|refine E_region ?_)))
              refine K_rnd (i+1+1,vA,ts++[(y:Int)]) ⟨rfl,rfl,rfl,trivial⟩ ⟨by dsimp only;omega,by simp;omega,?_,by simpa [Value.cells] using oA,xA⟩ (by dsimp only;omega)
              rw [hg]
              cases tokGo (zs.drop (i+1+1)) <;> simp
        · rw [if_neg h92] at hg
          by_cases h42:z=42
          · rw [if_pos h42] at hg
            (repeat' (first|refine EL_val Z Z (val_indexAddr Z Z Z Z hlt) ?_|refine EL_val Z Z (val_load Z Z Z (hx.cell (hq.ith hz))) ?_|(refine at_EL ?_;first|refine eN ?_|refine eO Z Z ?_|refine eV Z Z (zA Z Z) ?_|refine eV Z Z (zB Z Z) ?_|(refine at_bin ?_;first|refine eD Z Z (zL Z Z Z) (fun hh=>?_) (fun hh=>?_)|refine eD Z Z (zM Z Z Z) (fun hh=>?_) (fun hh=>?_)|(refine eV Z Z (val_add Z Z Z ?_ ?_) ?_;(first|omega|(simp only [kmin,kmax];omega));(first|omega|(simp only [kmin,kmax];omega))))|(refine at_call ?_;first|refine eV Z Z (zK Z Z) ?_)|refine eV Z Z (zC Z Z Z) ?_|refine eV Z Z (zD Z Z Z) ?_|refine eL Z Z Z Z Z Z Z Z (fun bS wS xS hbS rS=>?_))|(refine at_K ?_;first|refine K_then ?_|refine K_then_ret ?_|refine K_then_exit ?_|refine K_in_ret ?_|refine K_in_exit ?_)|(refine at_E ?_;first|refine E_seq ?_|refine E_region ?_|refine E_cond_t Z ?_|refine E_cond_f Z ?_|refine E_block ?_|refine E_skip ?_|refine E_ret ?_|refine E_exit ?_)))
            all_goals (first|(exfalso;omega)|skip)
            refine EL_app (own_ext hown xS) (hx.trans xS) rS.at rfl rfl rfl rfl rfl rfl rfl rfl rfl (by omega) (by omega) (fun vA wA oA xA _=>?_)
            (repeat' (first|(refine at_EL ?_;first|refine eN ?_|refine eV Z Z (zA Z Z) ?_|refine eV Z Z (zB Z Z) ?_|(refine at_bin ?_;first|(refine eV Z Z (val_add Z Z Z ?_ ?_) ?_;(first|omega|(simp only [kmin,kmax];omega));(first|omega|(simp only [kmin,kmax];omega)))))|(refine at_K ?_;first|refine K_then ?_|refine K_in ?_)|(refine at_E ?_;first|refine E_region ?_)))
            refine K_rnd (i+1,vA,ts++[-1]) ⟨rfl,rfl,rfl,trivial⟩ ⟨by dsimp only;omega,by simp;omega,?_,by simpa [Value.cells] using oA,xA⟩ (by dsimp only;omega)
            rw [hg]
            cases tokGo (zs.drop (i+1)) <;> simp
          · rw [if_neg h42] at hg
            by_cases h63:z=63
            · rw [if_pos h63] at hg
              (repeat' (first|refine EL_val Z Z (val_indexAddr Z Z Z Z hlt) ?_|refine EL_val Z Z (val_load Z Z Z (hx.cell (hq.ith hz))) ?_|(refine at_EL ?_;first|refine eN ?_|refine eO Z Z ?_|refine eV Z Z (zA Z Z) ?_|refine eV Z Z (zB Z Z) ?_|(refine at_bin ?_;first|refine eD Z Z (zL Z Z Z) (fun hh=>?_) (fun hh=>?_)|refine eD Z Z (zM Z Z Z) (fun hh=>?_) (fun hh=>?_)|(refine eV Z Z (val_add Z Z Z ?_ ?_) ?_;(first|omega|(simp only [kmin,kmax];omega));(first|omega|(simp only [kmin,kmax];omega))))|(refine at_call ?_;first|refine eV Z Z (zK Z Z) ?_)|refine eV Z Z (zC Z Z Z) ?_|refine eV Z Z (zD Z Z Z) ?_|refine eL Z Z Z Z Z Z Z Z (fun bS wS xS hbS rS=>?_))|(refine at_K ?_;first|refine K_then ?_|refine K_then_ret ?_|refine K_then_exit ?_|refine K_in_ret ?_|refine K_in_exit ?_)|(refine at_E ?_;first|refine E_seq ?_|refine E_region ?_|refine E_cond_t Z ?_|refine E_cond_f Z ?_|refine E_block ?_|refine E_skip ?_|refine E_ret ?_|refine E_exit ?_)))
              all_goals (first|(exfalso;omega)|skip)
              refine EL_app (own_ext hown xS) (hx.trans xS) rS.at rfl rfl rfl rfl rfl rfl rfl rfl rfl (by omega) (by omega) (fun vA wA oA xA _=>?_)
              (repeat' (first|(refine at_EL ?_;first|refine eN ?_|refine eV Z Z (zA Z Z) ?_|refine eV Z Z (zB Z Z) ?_|(refine at_bin ?_;first|(refine eV Z Z (val_add Z Z Z ?_ ?_) ?_;(first|omega|(simp only [kmin,kmax];omega));(first|omega|(simp only [kmin,kmax];omega)))))|(refine at_K ?_;first|refine K_then ?_|refine K_in ?_)|(refine at_E ?_;first|refine E_region ?_)))
              refine K_rnd (i+1,vA,ts++[-2]) ⟨rfl,rfl,rfl,trivial⟩ ⟨by dsimp only;omega,by simp;omega,?_,by simpa [Value.cells] using oA,xA⟩ (by dsimp only;omega)
              rw [hg]
              cases tokGo (zs.drop (i+1)) <;> simp
            · rw [if_neg h63] at hg
              (repeat' (first|refine EL_val Z Z (val_indexAddr Z Z Z Z hlt) ?_|refine EL_val Z Z (val_load Z Z Z (hx.cell (hq.ith hz))) ?_|(refine at_EL ?_;first|refine eN ?_|refine eO Z Z ?_|refine eV Z Z (zA Z Z) ?_|refine eV Z Z (zB Z Z) ?_|(refine at_bin ?_;first|refine eD Z Z (zL Z Z Z) (fun hh=>?_) (fun hh=>?_)|refine eD Z Z (zM Z Z Z) (fun hh=>?_) (fun hh=>?_)|(refine eV Z Z (val_add Z Z Z ?_ ?_) ?_;(first|omega|(simp only [kmin,kmax];omega));(first|omega|(simp only [kmin,kmax];omega))))|(refine at_call ?_;first|refine eV Z Z (zK Z Z) ?_)|refine eV Z Z (zC Z Z Z) ?_|refine eV Z Z (zD Z Z Z) ?_|refine eL Z Z Z Z Z Z Z Z (fun bS wS xS hbS rS=>?_))|(refine at_K ?_;first|refine K_then ?_|refine K_then_ret ?_|refine K_then_exit ?_|refine K_in_ret ?_|refine K_in_exit ?_)|(refine at_E ?_;first|refine E_seq ?_|refine E_region ?_|refine E_cond_t Z ?_|refine E_cond_f Z ?_|refine E_block ?_|refine E_skip ?_|refine E_ret ?_|refine E_exit ?_)))
              all_goals (first|(exfalso;omega)|skip)
              refine EL_app (own_ext hown xS) (hx.trans xS) rS.at rfl rfl rfl rfl rfl rfl rfl rfl rfl (by omega) (by omega) (fun vA wA oA xA _=>?_)
              (repeat' (first|(refine at_EL ?_;first|refine eN ?_|refine eV Z Z (zA Z Z) ?_|refine eV Z Z (zB Z Z) ?_|(refine at_bin ?_;first|(refine eV Z Z (val_add Z Z Z ?_ ?_) ?_;(first|omega|(simp only [kmin,kmax];omega));(first|omega|(simp only [kmin,kmax];omega)))))|(refine at_K ?_;first|refine K_then ?_|refine K_in ?_)|(refine at_E ?_;first|refine E_region ?_)))
              refine K_rnd (i+1,vA,ts++[(z:Int)]) ⟨rfl,rfl,rfl,trivial⟩ ⟨by dsimp only;omega,by simp;omega,?_,by simpa [Value.cells] using oA,xA⟩ (by dsimp only;omega)
              rw [hg]
              cases tokGo (zs.drop (i+1)) <;> simp
    · have:i=zs.length:=by omega
      subst this
      rw [List.drop_length] at hg
      simp only [tokGo,Option.map_some,List.append_nil] at hg
      (repeat' (first|(refine at_EL ?_;first|refine eN ?_|refine eV Z Z (zA Z Z) ?_|refine eV Z Z (zB Z Z) ?_|(refine at_bin ?_;first|refine eD Z Z (zL Z Z Z) (fun hh=>?_) (fun hh=>?_))|(refine at_call ?_;first|refine eV Z Z (zK Z Z) ?_))|(refine at_K ?_;first|refine K_then ?_|refine K_then_exit ?_|refine K_in_exit ?_)|(refine at_E ?_;first|refine E_seq ?_|refine E_region ?_|refine E_cond_t Z ?_|refine E_cond_f Z ?_|refine E_block ?_|refine E_skip ?_|refine E_ret ?_|refine E_exit ?_)))
      all_goals (first|(exfalso;omega)|skip)
      refine ret_2 Z Z Z ⟨xC.trans hx,?_⟩
      rw [htk,hg]
      exact⟨v,rfl,own_weak hown xC.size⟩
end Go.Proofs.YtnifmbbpfdghmaaGreatDoor
