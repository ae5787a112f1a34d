/-
  Walks: the program's Points.
-/
import Derived.Test.YtjicdgejhkgpgaaGreatDoorYo
import Derived.Test.YtjicdgejhkgpgaaGreatDoorY3
import Derived.Test.YtjicdgejhkgpgaaGreatDoorYz
set_option linter.all false
namespace Go.Proofs.YtjicdgejhkgpgaaGreatDoor
open Go.RowKit Go.En Go.Pv
attribute [local irreducible] E EL K Val Enters Rt Calls bodyPost Code.wp RQ
set_option maxHeartbeats 4000000 in
set_option maxRecDepth 8000 in
theorem entries59_any (lex:List En) (l:List Int) (ev v:Value) (w:World) (hl:Sl w ev lex) (hv:Sl w v l):Calls Tryz.prog 59 #[ev,v] w (Rt fun u w'=>u=int (entriesE lex l)∧Ext w w'):=by
  have hv0:=hv
  obtain⟨a,c,rfl,_,hm,hpp⟩:=hv.sl
  refine calls_E (n:=41) (args:=[ev,.slice a l.length c]) Tryz.func59 rfl Tryz.ntmps59 (by simp) ?_
  (repeat' (first|(refine at_EL ?_;first|refine eN ?_|refine eV Z Z (zB Z Z) ?_)|(refine at_K ?_;first|refine K_then ?_)|(refine at_E ?_;first|refine E_seq ?_|refine E_region ?_|refine E_block ?_)))
  have h00:∀ j,j<1→upAt l j=0:=fun j hj=>by
    obtain rfl:j=0:=by omega
    exact up_first
  refine E_loop (ι:=Nat) (fun i=>[(0,ev),(1,.slice a l.length c),(5,int i)]) (fun i wr=>1≤i∧Ext w wr∧∀ j,j<i→upAt l j=0) (fun i=>l.length-i) 1
    ⟨rfl,rfl,rfl,trivial⟩ ⟨Nat.le_refl _,Ext.refl _,h00⟩ ?_
  rintro i wr ⟨hi,hx,hall⟩
  replace hv0:=hv0.ext hx
  by_cases hlt:i<l.length
  · obtain⟨b,off,rfl⟩:=hpp (by omega)
    obtain⟨x,hxi⟩:∃ x,l[i]?=some x:=⟨_,List.getElem?_eq_getElem hlt⟩
    obtain⟨y,hyi⟩:∃ y,l[i-1]?=some y:=⟨_,List.getElem?_eq_getElem (by omega)⟩
    have h1:=(Go.Pv.int_elem hv0 hxi).one
    have h2:=(Go.Pv.int_elem hv0 hyi).one
    (repeat' (first|refine yV Z Z (fun wq _ xq=>val_load Z Z Z (Ext.cell xq (by assumption))) ?_|refine yV Z Z (fun _ _ _=>val_indexAddr (m:=i) Z Z Z (by first|rfl|omega) (by omega)) ?_|refine yV Z Z (fun _ _ _=>val_indexAddr (m:=i-1) Z Z Z (by first|rfl|omega) (by omega)) ?_|(refine at_EL ?_;first|refine eN ?_|refine eV Z Z (zA Z Z) ?_|refine eV Z Z (zB Z Z) ?_|(refine at_bin ?_;first|refine eD Z Z (zL Z Z Z) (fun hh=>?_) (fun hh=>?_)|refine eV Z Z (zU Z Z Z (by omega) (by omega)) ?_)|(refine at_call ?_;first|refine eV Z Z (zK Z Z) ?_))|(refine at_K ?_;first|refine K_then ?_|refine K_in ?_|refine K_then_ret ?_|refine K_then_exit ?_|refine K_in_ret ?_|refine K_in_exit ?_)|(refine at_E ?_;first|refine E_seq ?_|refine E_region ?_|refine E_cond_t Z ?_|refine E_cond_f Z ?_|refine E_block ?_|refine E_skip ?_|refine E_ret ?_|refine E_exit ?_|refine E_dq mixedOk (by kernel_rfl) Z ?_)|(refine at_RQ ?_;first|refine yN Z (fun wq xq=>?_)|refine yV Z Z (fun _ _ _=>zA Z Z) ?_|(refine at_binR ?_;first|refine yD Z Z (fun _ _ _=>zN Z Z Z) (fun hh=>?_) (fun hh=>?_)|refine yV Z Z (fun _ _ _=>zV Z Z Z (by omega) (by omega)) ?_))))
    all_goals (try (exfalso;omega))
    · have e0:firstE l.length (upAt l)=10:=by rw [firstE_at hall hlt (by rw [up_ten hxi (by omega) hyi (by omega)];decide),up_ten hxi (by omega) hyi (by omega)]
      have:entriesE lex l=10:=by unfold entriesE;rw [e0,if_pos (by decide)]
      rw [this]
      exact ret_1 Z Z ⟨rfl,hx.trans xq⟩
    · refine K_rnd (i+1) ⟨rfl,rfl,rfl,trivial⟩ ⟨by omega,hx.trans xq,fun j hj=>?_⟩ (by omega)
      by_cases e:j=i
      · subst e;exact up_zero hxi (by omega) hyi (by omega)
      · exact hall j (by omega)
  · have hE:entriesE lex l=firstE l.length (noneAt lex l):=by unfold entriesE;rw [if_neg (by simpa using firstE_all (fun j hj=>hall j (by omega)))]
    rw [hE]
    (repeat' (first|(refine at_EL ?_;first|refine eN ?_|refine eV Z Z (zA Z Z) ?_|(refine at_bin ?_;first|refine eD Z Z (zL Z Z Z) (fun hh=>?_) (fun hh=>?_))|(refine at_call ?_;first|refine eV Z Z (zK Z Z) ?_))|(refine at_K ?_;first|refine K_then ?_|refine K_then_exit ?_|refine K_in_exit ?_)|(refine at_E ?_;first|refine E_seq ?_|refine E_region ?_|refine E_cond_t Z ?_|refine E_cond_f Z ?_|refine E_block ?_|refine E_skip ?_|refine E_exit ?_)))
    all_goals (try (exfalso;omega))
    refine E_loop (ι:=Nat) (fun i=>[(0,ev),(26,.slice a l.length c),(27,int l.length),(28,int i)]) (fun i wr=>i≤l.length∧Ext w wr∧∀ j,j<i→noneAt lex l j=0) (fun i=>l.length-i) 0
      ⟨rfl,rfl,rfl,rfl,trivial⟩ ⟨Nat.zero_le _,hx,fun _ h=>absurd h (by omega)⟩ ?_
    clear hx hv0 hall
    rename_i hvw
    rintro i w2 ⟨hi,hx,hall⟩
    have hv0:=hv.ext hx
    by_cases hlt:i<l.length
    · obtain⟨b,off,rfl⟩:=hpp (by omega)
      obtain⟨x,hxi⟩:∃ x,l[i]?=some x:=⟨_,List.getElem?_eq_getElem hlt⟩
      have hcx:=(Go.Pv.int_elem hv0 hxi).one
      obtain⟨Y,hrepY,ce⟩:=get48_any lex x ev w hl
      obtain⟨e0,k0,e1,k1,e2,k2,e3,k3,e4,k4,rfl,_⟩:=en_open hrepY
      cases hbx:(getE lex x).isSome with
      | true=>
        rw [hbx] at ce
        (repeat' (first|refine eV Z Z (val_load Z Z Z (by assumption)) ?_|refine eV Z Z (val_indexAddr (m:=i) Z Z Z (by first|rfl|omega) (by omega)) ?_|(refine EL_call Z Z (entersF Z Z en48) (ce _ hx) (fun vC wC hC=>?_);obtain⟨rfl,xC⟩:=hC;replace hx:=hx.trans xC)|(refine EL_var Z Z Z Z Z Z Z Z Z Z (fun bN wN xN hbN rN=>?_);replace hx:=hx.trans xN)|(refine at_EL ?_;first|refine eN ?_|refine eV Z Z (zA Z Z) ?_|refine eV Z Z (zB Z Z) ?_|(refine at_bin ?_;first|refine eD Z Z (zL Z Z Z) (fun hh=>?_) (fun hh=>?_)|refine eV Z Z (zU Z Z Z (by omega) (by omega)) ?_)|refine eV Z Z (zE Z Z) ?_|refine eV Z Z (zF Z Z Z) ?_)|(refine at_K ?_;first|refine K_then ?_|refine K_in ?_|refine K_then_exit ?_|refine K_in_exit ?_)|(refine at_E ?_;first|refine E_seq ?_|refine E_region ?_|refine E_cond_t Z ?_|refine E_cond_f Z ?_|refine E_block ?_|refine E_skip ?_|refine E_ret ?_|refine E_exit ?_)))
        all_goals (try (exfalso;omega))
        refine K_rnd (i+1) ⟨rfl,rfl,rfl,rfl,trivial⟩ ⟨by omega,hx,fun j hj=>?_⟩ (by omega)
        by_cases e:j=i
        · subst e;exact none_zero hxi hbx
        · exact hall j (by omega)
      | false=>
        rw [hbx] at ce
        (repeat' (first|refine eV Z Z (val_load Z Z Z (by assumption)) ?_|refine eV Z Z (val_indexAddr (m:=i) Z Z Z (by first|rfl|omega) (by omega)) ?_|(refine EL_call Z Z (entersF Z Z en48) (ce _ hx) (fun vC wC hC=>?_);obtain⟨rfl,xC⟩:=hC;replace hx:=hx.trans xC)|(refine EL_var Z Z Z Z Z Z Z Z Z Z (fun bN wN xN hbN rN=>?_);replace hx:=hx.trans xN)|(refine at_EL ?_;first|refine eN ?_|refine eV Z Z (zA Z Z) ?_|refine eV Z Z (zB Z Z) ?_|(refine at_bin ?_;first|refine eD Z Z (zL Z Z Z) (fun hh=>?_) (fun hh=>?_))|refine eV Z Z (zE Z Z) ?_|refine eV Z Z (zF Z Z Z) ?_)|(refine at_K ?_;first|refine K_then ?_|refine K_then_ret ?_|refine K_then_exit ?_|refine K_in_ret ?_|refine K_in_exit ?_)|(refine at_E ?_;first|refine E_seq ?_|refine E_region ?_|refine E_cond_t Z ?_|refine E_cond_f Z ?_|refine E_block ?_|refine E_skip ?_|refine E_ret ?_|refine E_exit ?_)))
        all_goals (try (exfalso;omega))
        have hf:firstE l.length (noneAt lex l)=9:=by rw [firstE_at hall hlt (by rw [none_nine hxi hbx];decide),none_nine hxi hbx]
        rw [hf]
        exact ret_1 Z Z ⟨rfl,hx⟩
    · rw [firstE_all (fun j hj=>hall j (by omega))]
      (repeat' (first|(refine at_EL ?_;first|refine eN ?_|refine eV Z Z (zB Z Z) ?_|(refine at_bin ?_;first|refine eD Z Z (zL Z Z Z) (fun hh=>?_) (fun hh=>?_)))|(refine at_K ?_;first|refine K_then ?_|refine K_then_exit ?_|refine K_in_exit ?_)|(refine at_E ?_;first|refine E_seq ?_|refine E_region ?_|refine E_cond_t Z ?_|refine E_cond_f Z ?_|refine E_block ?_|refine E_skip ?_|refine E_ret ?_|refine E_exit ?_)))
      all_goals (try (exfalso;omega))
      exact ret_1 Z Z ⟨rfl,hx⟩
set_option maxHeartbeats 4000000 in
set_option maxRecDepth 8000 in
theorem refs60_any (l : List Rf) (v : Value) (w : World) (hv : Sl w v l) : Calls Tryz.prog 60 #[v] w (Rt fun u w' => u = int (refsE l) ∧ Ext w w') := by
  have hv0:=hv
  obtain⟨a,c,rfl,_,hm,hpp⟩:=hv.sl
  refine calls_E (n:=43) (args:=[.slice a l.length c]) Tryz.func60 rfl Tryz.ntmps60 (by simp) ?_
  by_cases h12:l.length=0∨12<l.length
  · have:refsE l=24:=by unfold refsE;rw [if_pos h12]
    rw [this]
    (repeat' (first|(refine at_EL ?_;first|refine eN ?_|refine eO Z Z ?_|refine eV Z Z (zA Z Z) ?_|refine eV Z Z (zB Z Z) ?_|(refine at_bin ?_;first|refine eD Z Z (zM Z Z Z) (fun hh=>?_) (fun hh=>?_)|refine eD Z Z (zO Z Z Z) (fun hh=>?_) (fun hh=>?_))|(refine at_call ?_;first|refine eV Z Z (zK Z Z) ?_)|refine eV Z Z (zC Z Z Z) ?_|refine eV Z Z (zD Z Z Z) ?_)|(refine at_K ?_;first|refine K_then ?_|refine K_then_ret ?_)|(refine at_E ?_;first|refine E_seq ?_|refine E_region ?_|refine E_cond_t Z ?_|refine E_cond_f Z ?_|refine E_block ?_|refine E_skip ?_|refine E_ret ?_)))
    all_goals (try (exfalso;omega))
    all_goals exact ret_1 Z Z ⟨rfl,Ext.refl _⟩
  have hR:refsE l=firstE l.length (refAt l):=by unfold refsE;rw [if_neg h12]
  rw [hR]
  (repeat' (first|(refine at_EL ?_;first|refine eN ?_|refine eO Z Z ?_|refine eV Z Z (zA Z Z) ?_|refine eV Z Z (zB Z Z) ?_|(refine at_bin ?_;first|refine eD Z Z (zM Z Z Z) (fun hh=>?_) (fun hh=>?_)|refine eD Z Z (zO Z Z Z) (fun hh=>?_) (fun hh=>?_))|(refine at_call ?_;first|refine eV Z Z (zK Z Z) ?_)|refine eV Z Z (zC Z Z Z) ?_|refine eV Z Z (zD Z Z Z) ?_)|(refine at_K ?_;first|refine K_then ?_|refine K_then_ret ?_)|(refine at_E ?_;first|refine E_seq ?_|refine E_region ?_|refine E_cond_t Z ?_|refine E_cond_f Z ?_|refine E_block ?_|refine E_skip ?_|refine E_ret ?_)))
  all_goals (try (exfalso;omega))
  refine E_loop (ι:=Nat) (fun i=>[(0,.slice a l.length c),(13,.slice a l.length c),(14,int l.length),(15,int i)]) (fun i wr=>i≤l.length∧Ext w wr∧∀ j,j<i→refAt l j=0) (fun i=>l.length-i) 0
    ⟨rfl,rfl,rfl,rfl,trivial⟩ ⟨Nat.zero_le _,Ext.refl _,fun _ h=>absurd h (by omega)⟩ ?_
  rintro i wr ⟨hi,hx,hall⟩
  replace hv0:=hv0.ext hx
  by_cases hlt:i<l.length
  · obtain⟨b,off,rfl⟩:=hpp (by omega)
    obtain⟨x,hxi⟩:∃ x,l[i]?=some x:=⟨_,List.getElem?_eq_getElem hlt⟩
    have hat:=rf_elem hv0 hxi
    have c1:=fun z wz=>ident56_any z wz
    cases hi1:identB x.rcd with
    | false=>
      have hid:(identB x.rcd&&identB x.note)=false:=by rw [hi1];rfl
      have c2:=fun wz=>ident56_any x.rcd wz
      rw [hi1] at c2
      (repeat' (first|refine eV Z Z (val_indexAddr (m:=i) Z Z Z (by first|rfl|omega) (by omega)) ?_|refine eV Z Z (val_load Z Z Z (Row.cellAt (by assumption) (by rfl))) ?_|refine eV Z Z (val_loadA Z Z Z (by assumption) (by rfl)) ?_|(refine EL_var1 Z Z Z Z Z Z Z Z Z Z Z Z Z Z Z (fun bX wX xX hbX rX=>?_);replace hx:=hx.trans xX)|(refine EL_call Z Z (entersF Z Z en56) (c2 _) (fun vC wC hC=>?_);obtain⟨rfl,xC⟩:=hC;replace hx:=hx.trans xC;replace rX:=rX.ext xC)|(refine at_EL ?_;first|refine eN ?_|refine eO Z Z ?_|refine eV Z Z (zA Z Z) ?_|refine eV Z Z (zB Z Z) ?_|(refine at_bin ?_;first|refine eD Z Z (zL Z Z Z) (fun hh=>?_) (fun hh=>?_))|refine eV Z Z (zC Z Z Z) ?_|refine eV Z Z (zE Z Z) ?_|refine eV Z Z (zH Z Z) ?_)|(refine at_K ?_;first|refine K_then ?_|refine K_then_ret ?_|refine K_then_exit ?_|refine K_in_ret ?_|refine K_in_exit ?_)|(refine at_E ?_;first|refine E_seq ?_|refine E_region ?_|refine E_cond_t Z ?_|refine E_cond_f Z ?_|refine E_block ?_|refine E_skip ?_|refine E_ret ?_|refine E_exit ?_)))
      all_goals (try (exfalso;omega))
      refine ret_1 Z Z ⟨?_,hx⟩
      rw [firstE_at hall hlt (by rw [refAt_id hxi hid];decide),refAt_id hxi hid]
    | true=>
      have c2:=fun wz=>ident56_any x.rcd wz
      have c3:=fun wz=>ident56_any x.note wz
      rw [hi1] at c2
      cases hi2:identB x.note with
      | false=>
        have hid:(identB x.rcd&&identB x.note)=false:=by rw [hi1,hi2];rfl
        rw [hi2] at c3
        (repeat' (first|refine eV Z Z (val_indexAddr (m:=i) Z Z Z (by first|rfl|omega) (by omega)) ?_|refine eV Z Z (val_load Z Z Z (Row.cellAt (by assumption) (by rfl))) ?_|refine eV Z Z (val_loadA Z Z Z (by assumption) (by rfl)) ?_|(refine EL_var1 Z Z Z Z Z Z Z Z Z Z Z Z Z Z Z (fun bX wX xX hbX rX=>?_);replace hx:=hx.trans xX)|(refine EL_call Z Z (entersF Z Z en56) (c2 _) (fun vC wC hC=>?_);obtain⟨rfl,xC⟩:=hC;replace hx:=hx.trans xC;replace rX:=rX.ext xC)|(refine EL_call Z Z (entersF Z Z en56) (c3 _) (fun vC wC hC=>?_);obtain⟨rfl,xC⟩:=hC;replace hx:=hx.trans xC;replace rX:=rX.ext xC)|(refine at_EL ?_;first|refine eN ?_|refine eV Z Z (zA Z Z) ?_|refine eV Z Z (zB Z Z) ?_|(refine at_bin ?_;first|refine eD Z Z (zL Z Z Z) (fun hh=>?_) (fun hh=>?_))|refine eV Z Z (zD Z Z Z) ?_|refine eV Z Z (zE Z Z) ?_|refine eV Z Z (zH Z Z) ?_)|(refine at_K ?_;first|refine K_then ?_|refine K_then_ret ?_|refine K_then_exit ?_|refine K_in_ret ?_|refine K_in_exit ?_)|(refine at_E ?_;first|refine E_seq ?_|refine E_region ?_|refine E_cond_t Z ?_|refine E_cond_f Z ?_|refine E_block ?_|refine E_skip ?_|refine E_ret ?_|refine E_exit ?_)))
        all_goals (try (exfalso;omega))
        refine ret_1 Z Z ⟨?_,hx⟩
        rw [firstE_at hall hlt (by rw [refAt_id hxi hid];decide),refAt_id hxi hid]
      | true=>
        have hid:(identB x.rcd&&identB x.note)=true:=by rw [hi1,hi2];rfl
        rw [hi2] at c3
        by_cases h0:i=0
        · subst h0
          (repeat' (first|(refine yN Z (fun wq xq=>?_);replace hx:=hx.trans xq)|refine eV Z Z (val_indexAddr (m:=0) Z Z Z (by first|rfl|omega) (by omega)) ?_|refine eV Z Z (val_load Z Z Z (Row.cellAt (by assumption) (by rfl))) ?_|refine eV Z Z (val_loadA Z Z Z (by assumption) (by rfl)) ?_|(refine EL_var1 Z Z Z Z Z Z Z Z Z Z Z Z Z Z Z (fun bX wX xX hbX rX=>?_);replace hx:=hx.trans xX)|(refine EL_call Z Z (entersF Z Z en56) (c2 _) (fun vC wC hC=>?_);obtain⟨rfl,xC⟩:=hC;replace hx:=hx.trans xC;replace rX:=rX.ext xC)|(refine EL_call Z Z (entersF Z Z en56) (c3 _) (fun vC wC hC=>?_);obtain⟨rfl,xC⟩:=hC;replace hx:=hx.trans xC;replace rX:=rX.ext xC)|(refine at_EL ?_;first|refine eN ?_|refine eV Z Z (zA Z Z) ?_|refine eV Z Z (zB Z Z) ?_|(refine at_bin ?_;first|refine eD Z Z (zL Z Z Z) (fun hh=>?_) (fun hh=>?_)|refine eV Z Z (zU Z Z Z (by omega) (by omega)) ?_)|refine eV Z Z (zD Z Z Z) ?_|refine eV Z Z (zE Z Z) ?_|refine eV Z Z (zH Z Z) ?_)|(refine at_K ?_;first|refine K_then ?_|refine K_in ?_|refine K_then_exit ?_|refine K_in_exit ?_)|(refine at_E ?_;first|refine E_seq ?_|refine E_region ?_|refine E_cond_t Z ?_|refine E_cond_f Z ?_|refine E_block ?_|refine E_skip ?_|refine E_ret ?_|refine E_exit ?_|refine E_dq mixedOk (by kernel_rfl) Z ?_)|(refine at_RQ ?_;first|refine yO Z Z ?_|refine yV Z Z (fun _ _ _=>zA Z Z) ?_|(refine at_binR ?_;first|refine yD Z Z (fun _ _ _=>zO Z Z Z) (fun hh=>?_) (fun hh=>?_)|refine yV Z Z (fun _ _ _=>zV Z Z Z (by omega) (by omega)) ?_)|refine yV Z Z (fun _ _ _=>zD Z Z Z) ?_)))
          all_goals (try (exfalso;omega))
          refine K_rnd (0+1) ⟨rfl,rfl,rfl,rfl,trivial⟩ ⟨by omega,hx,fun j hj=>?_⟩ (by omega)
          obtain rfl:j=0:=by omega
          rw [Bool.and_eq_true] at hid
          exact refAt_ok hxi hid (.inl rfl)
        · obtain⟨y,hyi⟩:∃ y,l[i-1]?=some y:=⟨_,List.getElem?_eq_getElem (by omega)⟩
          have haty:=rf_elem hv0 hyi
          have cp:=fun wz=>prec64_any y x wz
          by_cases hlr:ltR y x
          · rw [decide_eq_true hlr] at cp
            (repeat' (first|(refine yN Z (fun wq xq=>?_);replace hx:=hx.trans xq)|refine eV Z Z (val_indexAddr (m:=i) Z Z Z (by first|rfl|omega) (by omega)) ?_|refine eV Z Z (val_load Z Z Z (Row.cellAt (by assumption) (by rfl))) ?_|refine eV Z Z (val_loadA Z Z Z (by assumption) (by rfl)) ?_|refine yV Z Z (fun wq _ xq=>val_loadA Z Z Z (Row.ext (by assumption) xq).at (by rfl)) ?_|refine yV Z Z (fun wq _ xq=>val_loadA Z Z Z (At.ext (by assumption) xq) (by rfl)) ?_|refine yV Z Z (fun _ _ _=>val_indexAddr (m:=i-1) Z Z Z (by first|rfl|omega) (by omega)) ?_|refine RQ_call Z Z (fun _ _ _=>entersF Z Z en64) (fun wq _=>cp wq) ?_|(refine EL_var1 Z Z Z Z Z Z Z Z Z Z Z Z Z Z Z (fun bX wX xX hbX rX=>?_);replace hx:=hx.trans xX;replace haty:=haty.ext xX)|(refine EL_call Z Z (entersF Z Z en56) (c2 _) (fun vC wC hC=>?_);obtain⟨rfl,xC⟩:=hC;replace hx:=hx.trans xC;replace rX:=rX.ext xC;replace haty:=haty.ext xC)|(refine EL_call Z Z (entersF Z Z en56) (c3 _) (fun vC wC hC=>?_);obtain⟨rfl,xC⟩:=hC;replace hx:=hx.trans xC;replace rX:=rX.ext xC;replace haty:=haty.ext xC)|(refine at_EL ?_;first|refine eN ?_|refine eV Z Z (zA Z Z) ?_|refine eV Z Z (zB Z Z) ?_|(refine at_bin ?_;first|refine eD Z Z (zL Z Z Z) (fun hh=>?_) (fun hh=>?_)|refine eV Z Z (zU Z Z Z (by omega) (by omega)) ?_)|refine eV Z Z (zD Z Z Z) ?_|refine eV Z Z (zE Z Z) ?_|refine eV Z Z (zH Z Z) ?_)|(refine at_K ?_;first|refine K_then ?_|refine K_in ?_|refine K_then_exit ?_|refine K_in_exit ?_)|(refine at_E ?_;first|refine E_seq ?_|refine E_region ?_|refine E_cond_t Z ?_|refine E_cond_f Z ?_|refine E_block ?_|refine E_skip ?_|refine E_ret ?_|refine E_exit ?_|refine E_dq mixedOk (by kernel_rfl) Z ?_)|(refine at_RQ ?_;first|refine yO Z Z ?_|refine yV Z Z (fun _ _ _=>zA Z Z) ?_|(refine at_binR ?_;first|refine yD Z Z (fun _ _ _=>zO Z Z Z) (fun hh=>?_) (fun hh=>?_)|refine yV Z Z (fun _ _ _=>zV Z Z Z (by omega) (by omega)) ?_)|refine yV Z Z (fun _ _ _=>zC Z Z Z) ?_|refine yV Z Z (fun _ _ _=>zD Z Z Z) ?_|refine yV Z Z (fun _ _ _=>zE Z Z) ?_)))
            all_goals (try (exfalso;omega))
            refine K_rnd (i+1) ⟨rfl,rfl,rfl,rfl,trivial⟩ ⟨by omega,hx,fun j hj=>?_⟩ (by omega)
            by_cases e:j=i
            · subst e
              rw [Bool.and_eq_true] at hid
              exact refAt_ok hxi hid (.inr ⟨y,hyi,hlr⟩)
            · exact hall j (by omega)
          · rw [decide_eq_false hlr] at cp
            (repeat' (first|(refine yN Z (fun wq xq=>?_);replace hx:=hx.trans xq)|refine eV Z Z (val_indexAddr (m:=i) Z Z Z (by first|rfl|omega) (by omega)) ?_|refine eV Z Z (val_load Z Z Z (Row.cellAt (by assumption) (by rfl))) ?_|refine eV Z Z (val_loadA Z Z Z (by assumption) (by rfl)) ?_|refine yV Z Z (fun wq _ xq=>val_loadA Z Z Z (Row.ext (by assumption) xq).at (by rfl)) ?_|refine yV Z Z (fun wq _ xq=>val_loadA Z Z Z (At.ext (by assumption) xq) (by rfl)) ?_|refine yV Z Z (fun _ _ _=>val_indexAddr (m:=i-1) Z Z Z (by first|rfl|omega) (by omega)) ?_|refine RQ_call Z Z (fun _ _ _=>entersF Z Z en64) (fun wq _=>cp wq) ?_|(refine EL_var1 Z Z Z Z Z Z Z Z Z Z Z Z Z Z Z (fun bX wX xX hbX rX=>?_);replace hx:=hx.trans xX;replace haty:=haty.ext xX)|(refine EL_call Z Z (entersF Z Z en56) (c2 _) (fun vC wC hC=>?_);obtain⟨rfl,xC⟩:=hC;replace hx:=hx.trans xC;replace rX:=rX.ext xC;replace haty:=haty.ext xC)|(refine EL_call Z Z (entersF Z Z en56) (c3 _) (fun vC wC hC=>?_);obtain⟨rfl,xC⟩:=hC;replace hx:=hx.trans xC;replace rX:=rX.ext xC;replace haty:=haty.ext xC)|(refine at_EL ?_;first|refine eN ?_|refine eV Z Z (zA Z Z) ?_|refine eV Z Z (zB Z Z) ?_|(refine at_bin ?_;first|refine eD Z Z (zL Z Z Z) (fun hh=>?_) (fun hh=>?_)|refine eV Z Z (zU Z Z Z (by omega) (by omega)) ?_)|refine eV Z Z (zD Z Z Z) ?_|refine eV Z Z (zE Z Z) ?_|refine eV Z Z (zH Z Z) ?_)|(refine at_K ?_;first|refine K_then ?_|refine K_in ?_|refine K_then_ret ?_|refine K_then_exit ?_|refine K_in_ret ?_|refine K_in_exit ?_)|(refine at_E ?_;first|refine E_seq ?_|refine E_region ?_|refine E_cond_t Z ?_|refine E_cond_f Z ?_|refine E_block ?_|refine E_skip ?_|refine E_ret ?_|refine E_exit ?_|refine E_dq mixedOk (by kernel_rfl) Z ?_)|(refine at_RQ ?_;first|refine yO Z Z ?_|refine yV Z Z (fun _ _ _=>zA Z Z) ?_|(refine at_binR ?_;first|refine yD Z Z (fun _ _ _=>zO Z Z Z) (fun hh=>?_) (fun hh=>?_)|refine yV Z Z (fun _ _ _=>zV Z Z Z (by omega) (by omega)) ?_)|refine yV Z Z (fun _ _ _=>zC Z Z Z) ?_|refine yV Z Z (fun _ _ _=>zD Z Z Z) ?_|refine yV Z Z (fun _ _ _=>zE Z Z) ?_)))
            all_goals (try (exfalso;omega))
            refine ret_1 Z Z ⟨?_,hx⟩
            rw [firstE_at hall hlt (by rw [refAt_up hxi hid (by omega) hyi hlr];decide),refAt_up hxi hid (by omega) hyi hlr]
  · (repeat' (first|(refine at_EL ?_;first|refine eN ?_|refine eV Z Z (zA Z Z) ?_|refine eV Z Z (zB Z Z) ?_|(refine at_bin ?_;first|refine eD Z Z (zL Z Z Z) (fun hh=>?_) (fun hh=>?_)))|(refine at_K ?_;first|refine K_then ?_|refine K_then_exit ?_|refine K_in_exit ?_)|(refine at_E ?_;first|refine E_seq ?_|refine E_region ?_|refine E_cond_t Z ?_|refine E_cond_f Z ?_|refine E_block ?_|refine E_skip ?_|refine E_ret ?_|refine E_exit ?_)))
    all_goals (try (exfalso;omega))
    exact ret_1 Z Z ⟨by rw [firstE_all (fun j hj=>hall j (by omega))],hx⟩
set_option maxHeartbeats 4000000 in
set_option maxRecDepth 8000 in
theorem points25_any (lex : List En) (l : List Pnt) (ev v : Value) (w : World) (hT : Tabs w) (hl : Sl w ev lex) (hv : Sl w v l) : Calls Tryz.prog 25 #[ev, v] w (Rt fun u w' => u = int (pointsF labB txtF lex l) ∧ Ext w w') := by
  have hv0:=hv
  obtain⟨a,c,rfl,_,hm,hpp⟩:=hv.sl
  refine calls_E (n:=61) (args:=[ev,.slice a l.length c]) Tryz.func25 rfl Tryz.ntmps25 (by simp) ?_
  by_cases h40:40<l.length
  · have:pointsF labB txtF lex l=11:=by unfold pointsF;rw [if_pos h40]
    rw [this]
    (repeat' (first|(refine at_EL ?_;first|refine eN ?_|refine eV Z Z (zA Z Z) ?_|refine eV Z Z (zB Z Z) ?_|(refine at_bin ?_;first|refine eD Z Z (zO Z Z Z) (fun hh=>?_) (fun hh=>?_))|(refine at_call ?_;first|refine eV Z Z (zK Z Z) ?_))|(refine at_K ?_;first|refine K_then ?_|refine K_then_ret ?_)|(refine at_E ?_;first|refine E_seq ?_|refine E_region ?_|refine E_cond_t Z ?_|refine E_cond_f Z ?_|refine E_block ?_|refine E_skip ?_|refine E_ret ?_)))
    all_goals (try (exfalso;omega))
    exact ret_1 Z Z ⟨rfl,Ext.refl _⟩
  have hP:pointsF labB txtF lex l=firstE l.length (pointAt labB txtF lex l):=by unfold pointsF;rw [if_neg h40]
  rw [hP]
  (repeat' (first|(refine at_EL ?_;first|refine eN ?_|refine eV Z Z (zA Z Z) ?_|refine eV Z Z (zB Z Z) ?_|(refine at_bin ?_;first|refine eD Z Z (zO Z Z Z) (fun hh=>?_) (fun hh=>?_))|(refine at_call ?_;first|refine eV Z Z (zK Z Z) ?_))|(refine at_K ?_;first|refine K_then ?_|refine K_then_ret ?_)|(refine at_E ?_;first|refine E_seq ?_|refine E_region ?_|refine E_cond_t Z ?_|refine E_cond_f Z ?_|refine E_block ?_|refine E_skip ?_|refine E_ret ?_)))
  all_goals (try (exfalso;omega))
  refine E_loop (ι:=Nat) (fun i=>[(0,ev),(1,.slice a l.length c),(13,.slice a l.length c),(14,int l.length),(15,int i)]) (fun i wr=>i≤l.length∧Ext w wr∧∀ j,j<i→pointAt labB txtF lex l j=0) (fun i=>l.length-i) 0
    ⟨rfl,rfl,rfl,rfl,rfl,trivial⟩ ⟨Nat.zero_le _,Ext.refl _,fun _ h=>absurd h (by omega)⟩ ?_
  rintro i wr ⟨hi,hx,hall⟩
  replace hv0:=hv0.ext hx;replace hl:=hl.ext hx
  by_cases hlt:i<l.length
  · obtain ⟨b, off, rfl⟩ := hpp (by omega)
    obtain⟨p,hpi⟩:∃ p,l[i]?=some p:=⟨_,List.getElem?_eq_getElem hlt⟩
    obtain⟨a0,c0,a1,c1,hat,hrep,he0,hr0⟩:=pnt_elem hv0 hpi
    have ci:=fun wz=>ident56_any p.id wz
    cases hid:identB p.id with
    | false=>
      rw [hid] at ci
      (repeat' (first|refine eV Z Z (val_load Z Z Z (Row.cellAt (by assumption) (by rfl))) ?_|refine eV Z Z (val_loadA Z Z Z (by assumption) (by rfl)) ?_|refine eV Z Z (val_indexAddr (m:=i) Z Z Z (by first|rfl|omega) (by omega)) ?_|(refine EL_var1 Z Z Z Z Z Z Z Z Z Z Z Z Z Z Z (fun bX wX xX hbX rX=>?_);replace hx:=hx.trans xX)|(refine EL_call Z Z (entersF Z Z en56) (ci _) (fun vC wC hC=>?_);obtain⟨rfl,xC⟩:=hC;replace hx:=hx.trans xC)|(refine at_EL ?_;first|refine eN ?_|refine eV Z Z (zA Z Z) ?_|refine eV Z Z (zB Z Z) ?_|(refine at_bin ?_;first|refine eD Z Z (zL Z Z Z) (fun hh=>?_) (fun hh=>?_))|refine eV Z Z (zE Z Z) ?_|refine eV Z Z (zH Z Z) ?_)|(refine at_K ?_;first|refine K_then ?_|refine K_then_ret ?_|refine K_then_exit ?_|refine K_in_ret ?_|refine K_in_exit ?_)|(refine at_E ?_;first|refine E_seq ?_|refine E_region ?_|refine E_cond_t Z ?_|refine E_cond_f Z ?_|refine E_block ?_|refine E_skip ?_|refine E_ret ?_|refine E_exit ?_)))
      all_goals (try (exfalso;omega))
      rw [firstE_at hall hlt (by rw [pt_id hpi hid];decide),pt_id hpi hid]
      exact ret_1 Z Z ⟨rfl,hx⟩
    | true=>
      rw [hid] at ci
      have hxr:=Ext.refl wr
      by_cases hup:i≠0∧∀ q,l[i-1]?=some q→¬ q.id<p.id
      · obtain⟨h0,hq⟩:=hup
        obtain⟨q,hqi⟩:∃ q,l[i-1]?=some q:=⟨_,List.getElem?_eq_getElem (by omega)⟩
        obtain⟨_,_,_,_,hatq,_⟩:=pnt_elem hv0 hqi
        have hlq:=hq q hqi
        have hpt:=pt_ten (lab:=labB) (txt:=txtF) (lex:=lex) hpi hid (by omega) hqi hlq
        (repeat' (first|(refine yN Z (fun wq xq=>?_);replace hx:=hx.trans xq)|refine eV Z Z (val_load Z Z Z (Row.cellAt (by assumption) (by rfl))) ?_|refine eV Z Z (val_loadA Z Z Z (by assumption) (by rfl)) ?_|refine yV Z Z (fun wq _ xq=>val_load Z Z Z ((Row.ext (by assumption) xq).cellAt (by rfl))) ?_|refine yV Z Z (fun wq _ xq=>val_load Z Z Z ((At.ext (by assumption) xq).cellAt (by rfl))) ?_|refine eV Z Z (val_indexAddr (m:=i) Z Z Z (by first|rfl|omega) (by omega)) ?_|refine yV Z Z (fun _ _ _=>val_indexAddr (m:=i-1) Z Z Z (by first|rfl|omega) (by omega)) ?_|(refine EL_var1 Z Z Z Z Z Z Z Z Z Z Z Z Z Z Z (fun bX wX xX hbX rX=>?_);replace hx:=hx.trans xX;replace hatq:=hatq.ext xX)|(refine EL_call Z Z (entersF Z Z en56) (ci _) (fun vC wC hC=>?_);obtain⟨rfl,xC⟩:=hC;replace hx:=hx.trans xC;replace hatq:=hatq.ext xC;replace rX:=rX.ext xC)|(refine at_EL ?_;first|refine eN ?_|refine eV Z Z (zA Z Z) ?_|refine eV Z Z (zB Z Z) ?_|(refine at_bin ?_;first|refine eD Z Z (zL Z Z Z) (fun hh=>?_) (fun hh=>?_))|refine eV Z Z (zE Z Z) ?_|refine eV Z Z (zH Z Z) ?_)|(refine at_K ?_;first|refine K_then ?_|refine K_then_ret ?_|refine K_then_exit ?_|refine K_in_ret ?_|refine K_in_exit ?_)|(refine at_E ?_;first|refine E_seq ?_|refine E_region ?_|refine E_cond_t Z ?_|refine E_cond_f Z ?_|refine E_block ?_|refine E_skip ?_|refine E_ret ?_|refine E_exit ?_|refine E_dq mixedOk (by kernel_rfl) Z ?_)|(refine at_RQ ?_;first|refine yO Z Z ?_|refine yV Z Z (fun _ _ _=>zA Z Z) ?_|(refine at_binR ?_;first|refine yD Z Z (fun _ _ _=>zN Z Z Z) (fun hh=>?_) (fun hh=>?_)|refine yD Z Z (fun _ _ _=>zO Z Z Z) (fun hh=>?_) (fun hh=>?_)|refine yV Z Z (fun _ _ _=>zV Z Z Z (by omega) (by omega)) ?_)|refine yV Z Z (fun _ _ _=>zC Z Z Z) ?_|refine yV Z Z (fun _ _ _=>zD Z Z Z) ?_|refine yV Z Z (fun _ _ _=>zH Z Z) ?_)))
        all_goals (try (exfalso;omega))
        rw [firstE_at hall hlt (by rw [hpt];decide),hpt]
        exact ret_1 Z Z ⟨rfl,hx⟩
      · have hpt:pointAt labB txtF lex l i=pointE labB txtF lex p:=by
          by_cases h0:i=0
          · subst h0;exact pt_zero hpi hid
          · obtain⟨q,hqi⟩:∃ q,l[i-1]?=some q:=⟨_,List.getElem?_eq_getElem (by omega)⟩
            refine pt_up hpi hid (by omega) hqi (Classical.byContradiction fun hn=>hup ⟨h0,fun q' hq'=>?_⟩)
            rw [hqi] at hq';cases hq';exact hn
        by_cases h0:i=0
        · (repeat' ((fail_if_success (refine E_seq (x:=(Code.seq (Code.region 10 _ _) _)) ?_));first|(refine yN Z (fun wq xq=>?_);replace hx:=hx.trans xq;replace hxr:=hxr.trans xq;replace rX:=rX.ext xq)|refine eV Z Z (val_load Z Z Z (Row.cellAt (by assumption) (by rfl))) ?_|refine eV Z Z (val_loadA Z Z Z (by assumption) (by rfl)) ?_|refine yV Z Z (fun wq _ xq=>val_load Z Z Z ((Row.ext (by assumption) xq).cellAt (by rfl))) ?_|refine eV Z Z (val_indexAddr (m:=i) Z Z Z (by first|rfl|omega) (by omega)) ?_|refine yV Z Z (fun _ _ _=>val_indexAddr (m:=i) Z Z Z (by first|rfl|omega) (by omega)) ?_|(refine EL_var1 Z Z Z Z Z Z Z Z Z Z Z Z Z Z Z (fun bX wX xX hbX rX=>?_);replace hx:=hx.trans xX;replace hxr:=hxr.trans xX)|(refine EL_call Z Z (entersF Z Z en56) (ci _) (fun vC wC hC=>?_);obtain⟨rfl,xC⟩:=hC;replace hx:=hx.trans xC;replace hxr:=hxr.trans xC;replace rX:=rX.ext xC)|(refine at_EL ?_;first|refine eN ?_|refine eV Z Z (zA Z Z) ?_|refine eV Z Z (zB Z Z) ?_|(refine at_bin ?_;first|refine eD Z Z (zL Z Z Z) (fun hh=>?_) (fun hh=>?_))|refine eV Z Z (zE Z Z) ?_|refine eV Z Z (zH Z Z) ?_)|(refine at_K ?_;first|refine K_then ?_|refine K_then_exit ?_|refine K_in_exit ?_)|(refine at_E ?_;first|refine E_seq ?_|refine E_region ?_|refine E_cond_t Z ?_|refine E_cond_f Z ?_|refine E_block ?_|refine E_skip ?_|refine E_ret ?_|refine E_exit ?_|refine E_dq mixedOk (by kernel_rfl) Z ?_)|(refine at_RQ ?_;first|refine yO Z Z ?_|refine yV Z Z (fun _ _ _=>zA Z Z) ?_|(refine at_binR ?_;first|refine yD Z Z (fun _ _ _=>zO Z Z Z) (fun hh=>?_) (fun hh=>?_)|refine yV Z Z (fun _ _ _=>zV Z Z Z (by omega) (by omega)) ?_)|refine yV Z Z (fun _ _ _=>zD Z Z Z) ?_|refine yV Z Z (fun _ _ _=>zH Z Z) ?_)))
          all_goals (try (exfalso;omega))
          refine E.sub (M:=[(0,ev),(1,.slice (some ⟨b,off,none⟩) l.length c),(6,.pointer (some ⟨bX,0,none⟩)),(13,.slice (some ⟨b,off,none⟩) l.length c),(14,int l.length),(15,int i)]) ⟨rfl,rfl,rfl,rfl,rfl,rfl,trivial⟩ ?_
          have cl:=fun wz (hz:Ext w wz)=>label57_any p.title wz (hT.ext hz)
          cases hb:labB p.title with
          | false=>
            have hP:pointE labB txtF lex p=7:=by unfold pointE;rw [hb];rfl
            rw [hb] at cl
            (repeat' (first|refine eV Z Z (val_load Z Z Z (Row.cellAt (by assumption) (by rfl))) ?_|(refine EL_call Z Z (entersF Z Z en57) (cl _ hx) (fun vC wC hC=>?_);obtain⟨rfl,xC⟩:=hC;replace hx:=hx.trans xC)|(refine at_EL ?_;first|refine eN ?_|refine eV Z Z (zB Z Z) ?_|refine eV Z Z (zE Z Z) ?_|refine eV Z Z (zH Z Z) ?_)|(refine at_K ?_;first|refine K_then ?_|refine K_then_ret ?_|refine K_in_ret ?_)|(refine at_E ?_;first|refine E_seq ?_|refine E_region ?_|refine E_cond_t Z ?_|refine E_ret ?_)))
            all_goals (try (exfalso;omega))
            rw [firstE_at hall hlt (by rw [hpt,hP];decide),hpt,hP]
            exact ret_1 Z Z ⟨rfl,hx⟩
          | true=>
            rw [hb] at cl
            have hP0:pointE labB txtF lex p=if txtF p.text≠0 then txtF p.text else if entriesE lex p.entries≠0 then entriesE lex p.entries else refsE p.refs:=by unfold pointE;rw [hb];rfl
            have ct:=fun wz (hz:Ext w wz)=>text58_val p.text wz (hT.ext hz)
            have ce:=fun wz (hz:Ext wr wz)=>entries59_any lex p.entries ev _ wz (hl.ext hz) (he0.ext hz)
            have cr:=fun wz (hz:Ext wr wz)=>refs60_any p.refs _ wz (hr0.ext hz)
            obtain⟨tz,htz⟩:∃ z,txtF p.text=z:=⟨_,rfl⟩
            obtain⟨ez,hez⟩:∃ z,entriesE lex p.entries=z:=⟨_,rfl⟩
            obtain⟨rz,hrz⟩:∃ z,refsE p.refs=z:=⟨_,rfl⟩
            rw [htz,hez,hrz] at hP0
            rw [htz] at ct
            rw [hez] at ce
            rw [hrz] at cr
            rw [hP0] at hpt
            by_cases h1:tz=0
            · rw [if_neg (by simpa using h1)] at hpt
              by_cases h2:ez=0
              · rw [if_neg (by simpa using h2)] at hpt
                (repeat' (first|refine eV Z Z (val_load Z Z Z (Row.cellAt (by assumption) (by rfl))) ?_|(refine EL_call Z Z (entersF Z Z en57) (cl _ hx) (fun vC wC hC=>?_);obtain⟨rfl,xC⟩:=hC;replace hx:=hx.trans xC;replace hxr:=hxr.trans xC;replace rX:=rX.ext xC)|(refine EL_call Z Z (entersF Z Z en58) (ct _ hx) (fun vC wC hC=>?_);obtain⟨rfl,xC⟩:=hC;replace hx:=hx.trans xC;replace hxr:=hxr.trans xC;replace rX:=rX.ext xC)|(refine EL_call Z Z (entersF Z Z en59) (ce _ hxr) (fun vC wC hC=>?_);obtain⟨rfl,xC⟩:=hC;replace hx:=hx.trans xC;replace hxr:=hxr.trans xC;replace rX:=rX.ext xC)|(refine EL_call Z Z (entersF Z Z en60) (cr _ hxr) (fun vC wC hC=>?_);obtain⟨rfl,xC⟩:=hC;replace hx:=hx.trans xC;replace hxr:=hxr.trans xC;replace rX:=rX.ext xC)|(refine at_EL ?_;first|refine eN ?_|refine eV Z Z (zA Z Z) ?_|refine eV Z Z (zB Z Z) ?_|(refine at_bin ?_;first|refine eD Z Z (zQ Z Z Z) (fun hh=>?_) (fun hh=>?_)|refine eV Z Z (zU Z Z Z (by omega) (by omega)) ?_)|refine eV Z Z (zE Z Z) ?_|refine eV Z Z (zH Z Z) ?_)|(refine at_K ?_;first|refine K_then ?_|refine K_in ?_|refine K_then_ret ?_|refine K_in_ret ?_)|(refine at_E ?_;first|refine E_seq ?_|refine E_region ?_|refine E_cond_t Z ?_|refine E_cond_f Z ?_|refine E_skip ?_|refine E_ret ?_)))
                all_goals (try (exfalso;omega))
                · rw [firstE_at hall hlt (by rw [hpt];assumption),hpt]
                  exact ret_1 Z Z ⟨rfl,hx⟩
                · refine K_rnd (i+1) ⟨rfl,rfl,rfl,rfl,rfl,trivial⟩ ⟨by omega,hx,fun j hj=>?_⟩ (by omega)
                  by_cases e:j=i
                  · subst e;rw [hpt];omega
                  · exact hall j (by omega)
              · rw [if_pos h2] at hpt
                (repeat' (first|refine eV Z Z (val_load Z Z Z (Row.cellAt (by assumption) (by rfl))) ?_|(refine EL_call Z Z (entersF Z Z en57) (cl _ hx) (fun vC wC hC=>?_);obtain⟨rfl,xC⟩:=hC;replace hx:=hx.trans xC;replace hxr:=hxr.trans xC;replace rX:=rX.ext xC)|(refine EL_call Z Z (entersF Z Z en58) (ct _ hx) (fun vC wC hC=>?_);obtain⟨rfl,xC⟩:=hC;replace hx:=hx.trans xC;replace hxr:=hxr.trans xC;replace rX:=rX.ext xC)|(refine EL_call Z Z (entersF Z Z en59) (ce _ hxr) (fun vC wC hC=>?_);obtain⟨rfl,xC⟩:=hC;replace hx:=hx.trans xC;replace hxr:=hxr.trans xC;replace rX:=rX.ext xC)|(refine EL_call Z Z (entersF Z Z en60) (cr _ hxr) (fun vC wC hC=>?_);obtain⟨rfl,xC⟩:=hC;replace hx:=hx.trans xC;replace hxr:=hxr.trans xC;replace rX:=rX.ext xC)|(refine at_EL ?_;first|refine eN ?_|refine eV Z Z (zA Z Z) ?_|refine eV Z Z (zB Z Z) ?_|(refine at_bin ?_;first|refine eD Z Z (zQ Z Z Z) (fun hh=>?_) (fun hh=>?_)|refine eV Z Z (zU Z Z Z (by omega) (by omega)) ?_)|refine eV Z Z (zE Z Z) ?_|refine eV Z Z (zH Z Z) ?_)|(refine at_K ?_;first|refine K_then ?_|refine K_in ?_|refine K_then_ret ?_|refine K_in_ret ?_)|(refine at_E ?_;first|refine E_seq ?_|refine E_region ?_|refine E_cond_t Z ?_|refine E_cond_f Z ?_|refine E_skip ?_|refine E_ret ?_)))
                all_goals (try (exfalso;omega))
                rw [firstE_at hall hlt (by rw [hpt];assumption),hpt]
                exact ret_1 Z Z ⟨rfl,hx⟩
            · rw [if_pos h1] at hpt
              (repeat' (first|refine eV Z Z (val_load Z Z Z (Row.cellAt (by assumption) (by rfl))) ?_|(refine EL_call Z Z (entersF Z Z en57) (cl _ hx) (fun vC wC hC=>?_);obtain⟨rfl,xC⟩:=hC;replace hx:=hx.trans xC;replace hxr:=hxr.trans xC;replace rX:=rX.ext xC)|(refine EL_call Z Z (entersF Z Z en58) (ct _ hx) (fun vC wC hC=>?_);obtain⟨rfl,xC⟩:=hC;replace hx:=hx.trans xC;replace hxr:=hxr.trans xC;replace rX:=rX.ext xC)|(refine EL_call Z Z (entersF Z Z en59) (ce _ hxr) (fun vC wC hC=>?_);obtain⟨rfl,xC⟩:=hC;replace hx:=hx.trans xC;replace hxr:=hxr.trans xC;replace rX:=rX.ext xC)|(refine EL_call Z Z (entersF Z Z en60) (cr _ hxr) (fun vC wC hC=>?_);obtain⟨rfl,xC⟩:=hC;replace hx:=hx.trans xC;replace hxr:=hxr.trans xC;replace rX:=rX.ext xC)|(refine at_EL ?_;first|refine eN ?_|refine eV Z Z (zA Z Z) ?_|refine eV Z Z (zB Z Z) ?_|(refine at_bin ?_;first|refine eD Z Z (zQ Z Z Z) (fun hh=>?_) (fun hh=>?_)|refine eV Z Z (zU Z Z Z (by omega) (by omega)) ?_)|refine eV Z Z (zE Z Z) ?_|refine eV Z Z (zH Z Z) ?_)|(refine at_K ?_;first|refine K_then ?_|refine K_in ?_|refine K_then_ret ?_|refine K_in_ret ?_)|(refine at_E ?_;first|refine E_seq ?_|refine E_region ?_|refine E_cond_t Z ?_|refine E_cond_f Z ?_|refine E_skip ?_|refine E_ret ?_)))
              all_goals (try (exfalso;omega))
              rw [firstE_at hall hlt (by rw [hpt];assumption),hpt]
              exact ret_1 Z Z ⟨rfl,hx⟩
        · obtain ⟨q, hqi⟩ : ∃ q, l[i - 1]? = some q := ⟨_, List.getElem?_eq_getElem (by omega)⟩
          obtain⟨_,_,_,_,hatq,_⟩:=pnt_elem hv0 hqi
          have hlq:q.id<p.id:=Classical.byContradiction fun hn=>hup ⟨h0,fun q' hq'=>by rw [hqi] at hq';cases hq';exact hn⟩
          (repeat' ((fail_if_success (refine E_seq (x:=(Code.seq (Code.region 10 _ _) _)) ?_));first|(refine yN Z (fun wq xq=>?_);replace hx:=hx.trans xq;replace hxr:=hxr.trans xq;replace rX:=rX.ext xq)|refine eV Z Z (val_load Z Z Z (Row.cellAt (by assumption) (by rfl))) ?_|refine eV Z Z (val_loadA Z Z Z (by assumption) (by rfl)) ?_|refine yV Z Z (fun wq _ xq=>val_load Z Z Z ((Row.ext (by assumption) xq).cellAt (by rfl))) ?_|refine yV Z Z (fun wq _ xq=>val_load Z Z Z ((At.ext (by assumption) xq).cellAt (by rfl))) ?_|refine eV Z Z (val_indexAddr (m:=i) Z Z Z (by first|rfl|omega) (by omega)) ?_|refine yV Z Z (fun _ _ _=>val_indexAddr (m:=i-1) Z Z Z (by first|rfl|omega) (by omega)) ?_|(refine EL_var1 Z Z Z Z Z Z Z Z Z Z Z Z Z Z Z (fun bX wX xX hbX rX=>?_);replace hx:=hx.trans xX;replace hxr:=hxr.trans xX;replace hatq:=hatq.ext xX)|(refine EL_call Z Z (entersF Z Z en56) (ci _) (fun vC wC hC=>?_);obtain⟨rfl,xC⟩:=hC;replace hx:=hx.trans xC;replace hxr:=hxr.trans xC;replace hatq:=hatq.ext xC;replace rX:=rX.ext xC)|(refine at_EL ?_;first|refine eN ?_|refine eV Z Z (zA Z Z) ?_|refine eV Z Z (zB Z Z) ?_|(refine at_bin ?_;first|refine eD Z Z (zL Z Z Z) (fun hh=>?_) (fun hh=>?_))|refine eV Z Z (zE Z Z) ?_|refine eV Z Z (zH Z Z) ?_)|(refine at_K ?_;first|refine K_then ?_|refine K_then_ret ?_|refine K_then_exit ?_|refine K_in_ret ?_|refine K_in_exit ?_)|(refine at_E ?_;first|refine E_seq ?_|refine E_region ?_|refine E_cond_t Z ?_|refine E_cond_f Z ?_|refine E_block ?_|refine E_skip ?_|refine E_ret ?_|refine E_exit ?_|refine E_dq mixedOk (by kernel_rfl) Z ?_)|(refine at_RQ ?_;first|refine yO Z Z ?_|refine yV Z Z (fun _ _ _=>zA Z Z) ?_|(refine at_binR ?_;first|refine yD Z Z (fun _ _ _=>zN Z Z Z) (fun hh=>?_) (fun hh=>?_)|refine yD Z Z (fun _ _ _=>zO Z Z Z) (fun hh=>?_) (fun hh=>?_)|refine yV Z Z (fun _ _ _=>zV Z Z Z (by omega) (by omega)) ?_)|refine yV Z Z (fun _ _ _=>zC Z Z Z) ?_|refine yV Z Z (fun _ _ _=>zD Z Z Z) ?_|refine yV Z Z (fun _ _ _=>zH Z Z) ?_)))
          all_goals (try (exfalso;omega))
          refine E.sub (M:=[(0,ev),(1,.slice (some ⟨b,off,none⟩) l.length c),(6,.pointer (some ⟨bX,0,none⟩)),(13,.slice (some ⟨b,off,none⟩) l.length c),(14,int l.length),(15,int i)]) ⟨rfl,rfl,rfl,rfl,rfl,rfl,trivial⟩ ?_
          have cl:=fun wz (hz:Ext w wz)=>label57_any p.title wz (hT.ext hz)
          cases hb:labB p.title with
          | false=>
            have hP:pointE labB txtF lex p=7:=by unfold pointE;rw [hb];rfl
            rw [hb] at cl
            (repeat' (first|refine eV Z Z (val_load Z Z Z (Row.cellAt (by assumption) (by rfl))) ?_|(refine EL_call Z Z (entersF Z Z en57) (cl _ hx) (fun vC wC hC=>?_);obtain⟨rfl,xC⟩:=hC;replace hx:=hx.trans xC)|(refine at_EL ?_;first|refine eN ?_|refine eV Z Z (zB Z Z) ?_|refine eV Z Z (zE Z Z) ?_|refine eV Z Z (zH Z Z) ?_)|(refine at_K ?_;first|refine K_then ?_|refine K_then_ret ?_|refine K_in_ret ?_)|(refine at_E ?_;first|refine E_seq ?_|refine E_region ?_|refine E_cond_t Z ?_|refine E_ret ?_)))
            all_goals (try (exfalso;omega))
            rw [firstE_at hall hlt (by rw [hpt,hP];decide),hpt,hP]
            exact ret_1 Z Z ⟨rfl,hx⟩
          | true=>
            rw [hb] at cl
            have hP0:pointE labB txtF lex p=if txtF p.text≠0 then txtF p.text else if entriesE lex p.entries≠0 then entriesE lex p.entries else refsE p.refs:=by unfold pointE;rw [hb];rfl
            have ct:=fun wz (hz:Ext w wz)=>text58_val p.text wz (hT.ext hz)
            have ce:=fun wz (hz:Ext wr wz)=>entries59_any lex p.entries ev _ wz (hl.ext hz) (he0.ext hz)
            have cr:=fun wz (hz:Ext wr wz)=>refs60_any p.refs _ wz (hr0.ext hz)
            obtain⟨tz,htz⟩:∃ z,txtF p.text=z:=⟨_,rfl⟩
            obtain⟨ez,hez⟩:∃ z,entriesE lex p.entries=z:=⟨_,rfl⟩
            obtain⟨rz,hrz⟩:∃ z,refsE p.refs=z:=⟨_,rfl⟩
            rw [htz,hez,hrz] at hP0
            rw [htz] at ct
            rw [hez] at ce
            rw [hrz] at cr
            rw [hP0] at hpt
            by_cases h1:tz=0
            · rw [if_neg (by simpa using h1)] at hpt
              by_cases h2:ez=0
              · rw [if_neg (by simpa using h2)] at hpt
                (repeat' (first|refine eV Z Z (val_load Z Z Z (Row.cellAt (by assumption) (by rfl))) ?_|(refine EL_call Z Z (entersF Z Z en57) (cl _ hx) (fun vC wC hC=>?_);obtain⟨rfl,xC⟩:=hC;replace hx:=hx.trans xC;replace hxr:=hxr.trans xC;replace rX:=rX.ext xC)|(refine EL_call Z Z (entersF Z Z en58) (ct _ hx) (fun vC wC hC=>?_);obtain⟨rfl,xC⟩:=hC;replace hx:=hx.trans xC;replace hxr:=hxr.trans xC;replace rX:=rX.ext xC)|(refine EL_call Z Z (entersF Z Z en59) (ce _ hxr) (fun vC wC hC=>?_);obtain⟨rfl,xC⟩:=hC;replace hx:=hx.trans xC;replace hxr:=hxr.trans xC;replace rX:=rX.ext xC)|(refine EL_call Z Z (entersF Z Z en60) (cr _ hxr) (fun vC wC hC=>?_);obtain⟨rfl,xC⟩:=hC;replace hx:=hx.trans xC;replace hxr:=hxr.trans xC;replace rX:=rX.ext xC)|(refine at_EL ?_;first|refine eN ?_|refine eV Z Z (zA Z Z) ?_|refine eV Z Z (zB Z Z) ?_|(refine at_bin ?_;first|refine eD Z Z (zQ Z Z Z) (fun hh=>?_) (fun hh=>?_)|refine eV Z Z (zU Z Z Z (by omega) (by omega)) ?_)|refine eV Z Z (zE Z Z) ?_|refine eV Z Z (zH Z Z) ?_)|(refine at_K ?_;first|refine K_then ?_|refine K_in ?_|refine K_then_ret ?_|refine K_in_ret ?_)|(refine at_E ?_;first|refine E_seq ?_|refine E_region ?_|refine E_cond_t Z ?_|refine E_cond_f Z ?_|refine E_skip ?_|refine E_ret ?_)))
                all_goals (try (exfalso;omega))
                · rw [firstE_at hall hlt (by rw [hpt];assumption),hpt]
                  exact ret_1 Z Z ⟨rfl,hx⟩
                · refine K_rnd (i+1) ⟨rfl,rfl,rfl,rfl,rfl,trivial⟩ ⟨by omega,hx,fun j hj=>?_⟩ (by omega)
                  by_cases e:j=i
                  · subst e;rw [hpt];omega
                  · exact hall j (by omega)
              · rw [if_pos h2] at hpt
                (repeat' (first|refine eV Z Z (val_load Z Z Z (Row.cellAt (by assumption) (by rfl))) ?_|(refine EL_call Z Z (entersF Z Z en57) (cl _ hx) (fun vC wC hC=>?_);obtain⟨rfl,xC⟩:=hC;replace hx:=hx.trans xC;replace hxr:=hxr.trans xC;replace rX:=rX.ext xC)|(refine EL_call Z Z (entersF Z Z en58) (ct _ hx) (fun vC wC hC=>?_);obtain⟨rfl,xC⟩:=hC;replace hx:=hx.trans xC;replace hxr:=hxr.trans xC;replace rX:=rX.ext xC)|(refine EL_call Z Z (entersF Z Z en59) (ce _ hxr) (fun vC wC hC=>?_);obtain⟨rfl,xC⟩:=hC;replace hx:=hx.trans xC;replace hxr:=hxr.trans xC;replace rX:=rX.ext xC)|(refine EL_call Z Z (entersF Z Z en60) (cr _ hxr) (fun vC wC hC=>?_);obtain⟨rfl,xC⟩:=hC;replace hx:=hx.trans xC;replace hxr:=hxr.trans xC;replace rX:=rX.ext xC)|(refine at_EL ?_;first|refine eN ?_|refine eV Z Z (zA Z Z) ?_|refine eV Z Z (zB Z Z) ?_|(refine at_bin ?_;first|refine eD Z Z (zQ Z Z Z) (fun hh=>?_) (fun hh=>?_)|refine eV Z Z (zU Z Z Z (by omega) (by omega)) ?_)|refine eV Z Z (zE Z Z) ?_|refine eV Z Z (zH Z Z) ?_)|(refine at_K ?_;first|refine K_then ?_|refine K_in ?_|refine K_then_ret ?_|refine K_in_ret ?_)|(refine at_E ?_;first|refine E_seq ?_|refine E_region ?_|refine E_cond_t Z ?_|refine E_cond_f Z ?_|refine E_skip ?_|refine E_ret ?_)))
                all_goals (try (exfalso;omega))
                rw [firstE_at hall hlt (by rw [hpt];assumption),hpt]
                exact ret_1 Z Z ⟨rfl,hx⟩
            · rw [if_pos h1] at hpt
              (repeat' (first|refine eV Z Z (val_load Z Z Z (Row.cellAt (by assumption) (by rfl))) ?_|(refine EL_call Z Z (entersF Z Z en57) (cl _ hx) (fun vC wC hC=>?_);obtain⟨rfl,xC⟩:=hC;replace hx:=hx.trans xC;replace hxr:=hxr.trans xC;replace rX:=rX.ext xC)|(refine EL_call Z Z (entersF Z Z en58) (ct _ hx) (fun vC wC hC=>?_);obtain⟨rfl,xC⟩:=hC;replace hx:=hx.trans xC;replace hxr:=hxr.trans xC;replace rX:=rX.ext xC)|(refine EL_call Z Z (entersF Z Z en59) (ce _ hxr) (fun vC wC hC=>?_);obtain⟨rfl,xC⟩:=hC;replace hx:=hx.trans xC;replace hxr:=hxr.trans xC;replace rX:=rX.ext xC)|(refine EL_call Z Z (entersF Z Z en60) (cr _ hxr) (fun vC wC hC=>?_);obtain⟨rfl,xC⟩:=hC;replace hx:=hx.trans xC;replace hxr:=hxr.trans xC;replace rX:=rX.ext xC)|(refine at_EL ?_;first|refine eN ?_|refine eV Z Z (zA Z Z) ?_|refine eV Z Z (zB Z Z) ?_|(refine at_bin ?_;first|refine eD Z Z (zQ Z Z Z) (fun hh=>?_) (fun hh=>?_)|refine eV Z Z (zU Z Z Z (by omega) (by omega)) ?_)|refine eV Z Z (zE Z Z) ?_|refine eV Z Z (zH Z Z) ?_)|(refine at_K ?_;first|refine K_then ?_|refine K_in ?_|refine K_then_ret ?_|refine K_in_ret ?_)|(refine at_E ?_;first|refine E_seq ?_|refine E_region ?_|refine E_cond_t Z ?_|refine E_cond_f Z ?_|refine E_skip ?_|refine E_ret ?_)))
              all_goals (try (exfalso;omega))
              rw [firstE_at hall hlt (by rw [hpt];assumption),hpt]
              exact ret_1 Z Z ⟨rfl,hx⟩
  · rw [firstE_all (fun j hj=>hall j (by omega))]
    (repeat' (first|(refine at_EL ?_;first|refine eN ?_|refine eV Z Z (zA Z Z) ?_|refine eV Z Z (zB Z Z) ?_|(refine at_bin ?_;first|refine eD Z Z (zL Z Z Z) (fun hh=>?_) (fun hh=>?_)))|(refine at_K ?_;first|refine K_then ?_|refine K_then_exit ?_|refine K_in_exit ?_)|(refine at_E ?_;first|refine E_seq ?_|refine E_region ?_|refine E_cond_t Z ?_|refine E_cond_f Z ?_|refine E_block ?_|refine E_skip ?_|refine E_ret ?_|refine E_exit ?_)))
    all_goals (try (exfalso;omega))
    exact ret_1 Z Z ⟨rfl,hx⟩
end Go.Proofs.YtjicdgejhkgpgaaGreatDoor
