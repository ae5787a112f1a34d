/-
  Walks: the law's light, few, awake.
-/
import Derived.Test.YtjicdgejhkgpgaaGreatDoorXTV
import Derived.Test.YtjicdgejhkgpgaaGreatDoorYp
import Derived.Test.YtjicdgejhkgpgaaGreatDoorYh
set_option linter.all false
namespace Go.Proofs.YtjicdgejhkgpgaaGreatDoor
open Go.RowKit Go.En Go.Pv
attribute [local irreducible] E EL K Val Enters Rt Calls bodyPost Code.wp RQ
structure FewP (p:Pnt):Prop where
  e:p.entries.length≤100
  r:p.refs.length≤100
  t:p.title.length≤300
  x:p.text.length≤300
set_option maxHeartbeats 4000000 in
set_option maxRecDepth 8000 in
theorem few24_any (l:List Pnt) (v:Value) (w:World) (hv:Sl w v l):Calls Tryz.prog 24 #[v] w (Rt fun u w'=>(∃ b,u=.bool b∧(b=true→l.length≤45∧∀ p∈l,FewP p))∧Ext w w'):=by
  have hv0:=hv
  obtain⟨a,c,rfl,_,hm,hpp⟩:=hv.sl
  refine calls_E (n:=67) (args:=[.slice a l.length c]) Tryz.func24 rfl Tryz.ntmps24 (by simp) ?_
  by_cases h45:45<l.length
  · (repeat' (first|(refine at_EL ?_;first|refine eN ?_|refine eV Z Z (zA Z Z) ?_|refine eV Z Z (zB Z Z) ?_|(refine at_bin ?_;first|refine eD Z Z (zO Z Z Z) (fun hh=>?_) (fun hh=>?_))|(refine at_call ?_;first|refine eV Z Z (zK Z Z) ?_))|(refine at_K ?_;first|refine K_then ?_|refine K_then_ret ?_)|(refine at_E ?_;first|refine E_seq ?_|refine E_region ?_|refine E_cond_t Z ?_|refine E_cond_f Z ?_|refine E_block ?_|refine E_skip ?_|refine E_ret ?_)))
    all_goals (try (exfalso;omega))
    exact ret_1 Z Z ⟨⟨_,rfl,fun h=>by cases h⟩,Ext.refl _⟩
  (repeat' (first|(refine at_EL ?_;first|refine eN ?_|refine eV Z Z (zA Z Z) ?_|refine eV Z Z (zB Z Z) ?_|(refine at_bin ?_;first|refine eD Z Z (zO Z Z Z) (fun hh=>?_) (fun hh=>?_))|(refine at_call ?_;first|refine eV Z Z (zK Z Z) ?_))|(refine at_K ?_;first|refine K_then ?_|refine K_then_ret ?_)|(refine at_E ?_;first|refine E_seq ?_|refine E_region ?_|refine E_cond_t Z ?_|refine E_cond_f Z ?_|refine E_block ?_|refine E_skip ?_|refine E_ret ?_)))
  all_goals (try (exfalso;omega))
  refine E_loop (ι:=Nat × Nat) (fun z=>[(0,.slice a l.length c),(3,int z.2),(4,int z.1)])
    (fun z wr=>z.1≤l.length∧z.2≤300∧Ext w wr∧∀(j:Nat) (p:Pnt),j<z.1→l[j]?=some p→FewP p) (fun z=>l.length-z.1) (0,0)
    ⟨rfl,rfl,rfl,trivial⟩ ⟨Nat.zero_le _,Nat.zero_le _,Ext.refl _,fun _ _ h=>absurd h (by dsimp only;omega)⟩ ?_
  rintro⟨i,n⟩ wr ⟨hi,hn,hx,hall⟩
  dsimp only at hi hn hx hall ⊢
  replace hv0:=hv0.ext hx
  by_cases hlt:i<l.length
  · obtain⟨b,off,rfl⟩:=hpp (by omega)
    obtain⟨p,hpi⟩:∃ p,l[i]?=some p:=⟨_,List.getElem?_eq_getElem hlt⟩
    obtain⟨a0,c0,a1,c1,hat,_,he0,hr0⟩:=pnt_elem hv0 hpi
    have hel:p.entries.length≤140737488355328:=by obtain⟨_,_,_,_,h,_⟩:=he0.sl;exact h
    have hrl:p.refs.length≤140737488355328:=by obtain⟨_,_,_,_,h,_⟩:=hr0.sl;exact h
    by_cases hF:n+p.entries.length+p.refs.length≤300∧p.entries.length≤100∧p.refs.length≤100∧p.title.length≤300∧p.text.length≤300
    · (repeat' (first|(refine yN Z (fun wq xq=>?_);replace hx:=hx.trans xq;replace hat:=hat.ext xq)|refine eV Z Z (val_load Z Z Z (At.cellAt (by assumption) (by rfl))) ?_|refine yV Z Z (fun wq _ xq=>val_load Z Z Z ((At.ext (by assumption) xq).cellAt (by rfl))) ?_|refine eV Z Z (val_indexAddr (m:=i) Z Z Z (by first|rfl|omega) (by omega)) ?_|refine yV Z Z (fun _ _ _=>val_indexAddr (m:=i) Z Z Z (by first|rfl|omega) (by omega)) ?_|(refine at_EL ?_;first|refine eN ?_|refine eO Z Z ?_|refine eV Z Z (zA Z Z) ?_|refine eV Z Z (zB Z Z) ?_|(refine at_bin ?_;first|refine eD Z Z (zL Z Z Z) (fun hh=>?_) (fun hh=>?_)|refine eD Z Z (zO Z Z Z) (fun hh=>?_) (fun hh=>?_)|refine eV Z Z (zU Z Z Z (by omega) (by omega)) ?_)|(refine at_call ?_;first|refine eV Z Z (zK Z Z) ?_|refine eV Z Z (zJ Z Z) ?_)|refine eV Z Z (zC Z Z Z) ?_|refine eV Z Z (zD Z Z Z) ?_|refine eV Z Z (zH Z Z) ?_)|(refine at_K ?_;first|refine K_then ?_|refine K_in ?_|refine K_then_ret ?_|refine K_then_exit ?_|refine K_in_ret ?_|refine K_in_exit ?_)|(refine at_E ?_;first|refine E_seq ?_|refine E_region ?_|refine E_cond_t Z ?_|refine E_cond_f Z ?_|refine E_block ?_|refine E_skip ?_|refine E_ret ?_|refine E_exit ?_|refine E_dq mixedOk (by kernel_rfl) Z ?_)|(refine at_RQ ?_;first|refine yV Z Z (fun _ _ _=>zA Z Z) ?_|refine yV Z Z (fun _ _ _=>zB Z Z) ?_|(refine at_binR ?_;first|refine yV Z Z (fun _ _ _=>zU Z Z Z (by omega) (by omega)) ?_)|(refine at_callR ?_;first|refine yV Z Z (fun _ _ _=>zK Z Z) ?_)|refine yV Z Z (fun _ _ _=>zH Z Z) ?_)))
      all_goals (try (exfalso;omega))
      refine K_rnd (i+1,n+p.entries.length+p.refs.length) ⟨rfl,rfl,rfl,trivial⟩ ⟨by dsimp only;omega,hF.1,hx,fun j q hj hq=>?_⟩ (by dsimp only;omega)
      by_cases e:j=i
      · subst e;rw [hpi] at hq;cases hq;exact⟨hF.2.1,hF.2.2.1,hF.2.2.2.1,hF.2.2.2.2⟩
      · exact hall j q (by dsimp only at hj;omega) hq
    · (repeat' (first|(refine yN Z (fun wq xq=>?_);replace hx:=hx.trans xq;replace hat:=hat.ext xq)|refine eV Z Z (val_load Z Z Z (At.cellAt (by assumption) (by rfl))) ?_|refine yV Z Z (fun wq _ xq=>val_load Z Z Z ((At.ext (by assumption) xq).cellAt (by rfl))) ?_|refine eV Z Z (val_indexAddr (m:=i) Z Z Z (by first|rfl|omega) (by omega)) ?_|refine yV Z Z (fun _ _ _=>val_indexAddr (m:=i) Z Z Z (by first|rfl|omega) (by omega)) ?_|(refine at_EL ?_;first|refine eN ?_|refine eO Z Z ?_|refine eV Z Z (zA Z Z) ?_|refine eV Z Z (zB Z Z) ?_|(refine at_bin ?_;first|refine eD Z Z (zL Z Z Z) (fun hh=>?_) (fun hh=>?_)|refine eD Z Z (zO Z Z Z) (fun hh=>?_) (fun hh=>?_)|refine eV Z Z (zU Z Z Z (by omega) (by omega)) ?_)|(refine at_call ?_;first|refine eV Z Z (zK Z Z) ?_|refine eV Z Z (zJ Z Z) ?_)|refine eV Z Z (zC Z Z Z) ?_|refine eV Z Z (zD Z Z Z) ?_|refine eV Z Z (zH Z Z) ?_)|(refine at_K ?_;first|refine K_then ?_|refine K_in ?_|refine K_then_ret ?_|refine K_then_exit ?_|refine K_in_ret ?_|refine K_in_exit ?_)|(refine at_E ?_;first|refine E_seq ?_|refine E_region ?_|refine E_cond_t Z ?_|refine E_cond_f Z ?_|refine E_block ?_|refine E_skip ?_|refine E_ret ?_|refine E_exit ?_|refine E_dq mixedOk (by kernel_rfl) Z ?_)|(refine at_RQ ?_;first|refine yV Z Z (fun _ _ _=>zA Z Z) ?_|refine yV Z Z (fun _ _ _=>zB Z Z) ?_|(refine at_binR ?_;first|refine yV Z Z (fun _ _ _=>zU Z Z Z (by omega) (by omega)) ?_)|(refine at_callR ?_;first|refine yV Z Z (fun _ _ _=>zK Z Z) ?_)|refine yV Z Z (fun _ _ _=>zH Z Z) ?_)))
      all_goals (try (exfalso;omega))
      all_goals exact ret_1 Z Z ⟨⟨_,rfl,fun h=>by cases h⟩,hx⟩
  · (repeat' (first|(refine at_EL ?_;first|refine eN ?_|refine eV Z Z (zA Z Z) ?_|refine eV Z Z (zB Z Z) ?_|(refine at_bin ?_;first|refine eD Z Z (zL Z Z Z) (fun hh=>?_) (fun hh=>?_))|(refine at_call ?_;first|refine eV Z Z (zK Z Z) ?_))|(refine at_K ?_;first|refine K_then ?_|refine K_then_exit ?_|refine K_in_exit ?_)|(refine at_E ?_;first|refine E_seq ?_|refine E_region ?_|refine E_cond_t Z ?_|refine E_cond_f Z ?_|refine E_block ?_|refine E_skip ?_|refine E_ret ?_|refine E_exit ?_)))
    all_goals (try (exfalso;omega))
    refine ret_1 Z Z ⟨⟨_,rfl,fun _=>⟨by omega,fun p hp=>?_⟩⟩,hx⟩
    obtain⟨j,hj⟩:=List.getElem?_of_mem hp
    exact hall j p (by have:=(List.getElem?_eq_some_iff.1 hj).1;omega) hj
end Go.Proofs.YtjicdgejhkgpgaaGreatDoor
