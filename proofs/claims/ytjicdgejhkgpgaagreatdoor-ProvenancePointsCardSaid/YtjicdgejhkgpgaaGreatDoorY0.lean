/-
  Walks: the reference's Entry, Missing, Same; documents that are right and small. A region that draws its order, but whose first operations come one behind the other: these are walked, with their cases, before the rest is walked in any order. A region that draws its order, in two parts: the first operations in any order, with what they give told by relations, then, case by case, the others in any order. Walks: lists of references compared; documents that are right and small. Interface values: made; a method called through one.
-/
import Derived.Test.YtjicdgejhkgpgaaGreatDoorYx
import Derived.Test.YtjicdgejhkgpgaaGreatDoorYo
import Derived.Test.YtjicdgejhkgpgaaGreatDoorYz
import Derived.Test.YtjicdgejhkgpgaaGreatDoorYh
import Derived.Test.YtjicdgejhkgpgaaGreatDoorE
import Derived.Test.YtjicdgejhkgpgaaGreatDoorYb
set_option linter.all false
namespace Go.Proofs.YtjicdgejhkgpgaaGreatDoor
open Go.RowKit Go.En Go.Pv
theorem filter_take {α:Type} {p:α→Bool} {l:List α} {i:Nat} {x:α} (h:l[i]?=some x):(l.take (i+1)).filter p=(l.take i).filter p++if p x then [x] else []:=by
  obtain⟨h1,h2⟩:=List.getElem?_eq_some_iff.1 h
  rw [List.take_succ_eq_append_getElem h1,h2,List.filter_append]
  congr 1
  cases hp:p x <;> simp [hp]
theorem filter_take_len {α:Type} {p:α→Bool} {l:List α} {i:Nat}:((l.take i).filter p).length≤i:=by
  have:=List.length_filter_le p (l.take i)
  rw [List.length_take] at this;omega
theorem entD_refs {g:Lg} (hok:LangOK g) (id:Int):(entD g.lex id).refs.length≤12:=by
  unfold entD
  cases h:getE g.lex id with
  | none=>simp [zeroEn]
  | some e=>exact(hok.lex e (List.mem_of_find?_eq_some h)).2.2.2.2.2.2.1
attribute [local irreducible] E EL K Val Enters Rt Calls bodyPost Code.wp RQ
theorem filter_take_map {α β:Type} {p:α→Bool} {f:α→β} {l:List α} {i:Nat} {x:α} (h:l[i]?=some x):((l.take (i+1)).filter p).map f=((l.take i).filter p).map f++if p x then [f x] else []:=by
  rw [filter_take h,List.map_append]
  cases p x <;> rfl
theorem empty_iff {α:Type} {l:List α}:l.isEmpty=decide ((l.length:Int)=0):=by cases l <;> simp;omega
theorem ints39:Ints Tryz.prog 39 3 2:=⟨by kernel_rfl,by kernel_rfl,by kernel_rfl,by kernel_rfl,Tryz.underlying3⟩
theorem rf_eq {x y:Rf}:[y.rcd,y.note]=[x.rcd,x.note]↔y=x:=by cases x;cases y;simp
end Go.Proofs.YtjicdgejhkgpgaaGreatDoor
namespace Go.En
open Go.RowKit
section
variable {P : Program} {n : Nat} {ops : List Oper} {w0 : World} {Q : Post} {m : Nat} {G0 : List (Nat × Ent)} {Ts : Nat → Ent}
end
end Go.En
namespace Go.En
open Go.RowKit
section
variable {P : Program} {n : Nat} {ops : List Oper} {w0 : World} {Q : Post} {m : Nat} {G0 : List (Nat × Ent)} {Ts : Nat → Ent}
end
end Go.En
namespace Go.Proofs.YtjicdgejhkgpgaaGreatDoor
open Go.RowKit Go.En Go.Pv
theorem two39n {x y:Rf} {b:Bool} (h:b=!(decide (x=y))):b=!(decide (x.rcd=y.rcd)&&decide (x.note=y.note)):=by
  rw [h];congr 1
  cases x;cases y;simp [Rf.mk.injEq]
attribute [local irreducible] E EL K Val Enters Rt Calls bodyPost Code.wp RQ
set_option maxHeartbeats 4000000 in
set_option maxRecDepth 8000 in
theorem same18_any (xs ys:List Rf) (u v:Value) (w:World) (hu:Sl w u xs) (hv:Sl w v ys):Calls Tryz.prog 18 #[u,v] w (Rt fun r w'=>r=.bool (decide (xs=ys))∧Ext w w'):=by
  have hu0:=hu
  have hv0:=hv
  obtain⟨a,ca,rfl,_,hm,hp⟩:=hu.sl
  obtain⟨b,cb,rfl,_,hm2,hp2⟩:=hv.sl
  refine calls_E (n:=26) (args:=[.slice a xs.length ca,.slice b ys.length cb]) Tryz.func18 rfl Tryz.ntmps18 (by simp) ?_
  (repeat' (first|(refine at_EL ?_;first|refine eN ?_|refine eV Z Z (zA Z Z) ?_|refine eV Z Z (zB Z Z) ?_|(refine at_bin ?_;first|refine eD Z Z (zQ Z Z Z) (fun hh=>?_) (fun hh=>?_))|(refine at_call ?_;first|refine eV Z Z (zK Z Z) ?_))|(refine at_K ?_;first|refine K_then ?_|refine K_then_ret ?_)|(refine at_E ?_;first|refine E_seq ?_|refine E_region ?_|refine E_cond_t Z ?_|refine E_cond_f Z ?_|refine E_block ?_|refine E_skip ?_|refine E_ret ?_)))
  · have:decide (xs=ys)=false:=decide_eq_false (fun e=>by subst e;omega)
    exact ret_1 Z Z ⟨by rw [this],Ext.refl _⟩
  have hl:xs.length=ys.length:=by omega
  refine E_loop (ι:=Nat) (fun i=>[(0,.slice a xs.length ca),(1,.slice b ys.length cb),(5,int i)]) (fun i wr=>i≤xs.length∧Ext w wr∧∀ j,j<i→xs[j]?=ys[j]?) (fun i=>xs.length-i) 0
    ⟨rfl,rfl,rfl,trivial⟩ ⟨Nat.zero_le _,Ext.refl _,fun _ h=>absurd h (by omega)⟩ ?_
  rintro i wr ⟨hi,hx,hall⟩
  replace hu0:=hu0.ext hx;replace hv0:=hv0.ext hx
  by_cases hlt:i<xs.length
  · obtain⟨b1,o1,rfl⟩:=hp (by omega)
    obtain⟨b2,o2,rfl⟩:=hp2 (by omega)
    obtain⟨x,hxi⟩:∃ x,xs[i]?=some x:=⟨_,List.getElem?_eq_getElem hlt⟩
    obtain⟨y,hyi⟩:∃ y,ys[i]?=some y:=⟨_,List.getElem?_eq_getElem (by omega)⟩
    have h1:=rf_elem hu0 hxi
    have h2:=rf_elem hv0 hyi
    by_cases he:x=y
    · have hr:=two39n (x:=x) (y:=y) (b:=false) (by simp [he])
      (repeat' (first|refine yV Z Z (fun wq _ xq=>val_loadA Z Z Z (At.ext (by assumption) xq) (by rfl)) ?_|refine yV Z Z (fun _ _ _=>val_indexAddr (m:=i) Z Z Z (by first|rfl|omega) (by omega)) ?_|refine yV Z Z (fun _ _ _=>val_ne_two_b two39 rfl rfl rfl hr) ?_|(refine at_EL ?_;first|refine eN ?_|refine eV Z Z (zA Z Z) ?_|refine eV Z Z (zB Z Z) ?_|(refine at_bin ?_;first|refine eD Z Z (zL Z Z Z) (fun hh=>?_) (fun hh=>?_)|refine eV Z Z (zU Z Z Z (by omega) (by omega)) ?_)|(refine at_call ?_;first|refine eV Z Z (zK Z Z) ?_))|(refine at_K ?_;first|refine K_then ?_|refine K_in ?_|refine K_then_exit ?_|refine K_in_exit ?_)|(refine at_E ?_;first|refine E_seq ?_|refine E_region ?_|refine E_cond_t Z ?_|refine E_cond_f Z ?_|refine E_block ?_|refine E_skip ?_|refine E_ret ?_|refine E_exit ?_|refine E_dq mixedOk (by kernel_rfl) Z ?_)|(refine at_RQ ?_;first|refine yN Z (fun wq xq=>?_)|refine yV Z Z (fun _ _ _=>zA Z Z) ?_)))
      all_goals (try (exfalso;omega))
      exact K_rnd (i+1) ⟨rfl,rfl,rfl,trivial⟩ ⟨by omega,hx.trans xq,same_nx hxi hyi he hall⟩ (by omega)
    · have hr:=two39n (x:=x) (y:=y) (b:=true) (by simp [he])
      have:decide (xs=ys)=false:=decide_eq_false (same_no hxi hyi he)
      rw [this]
      (repeat' (first|refine yV Z Z (fun wq _ xq=>val_loadA Z Z Z (At.ext (by assumption) xq) (by rfl)) ?_|refine yV Z Z (fun _ _ _=>val_indexAddr (m:=i) Z Z Z (by first|rfl|omega) (by omega)) ?_|refine yV Z Z (fun _ _ _=>val_ne_two_b two39 rfl rfl rfl hr) ?_|(refine at_EL ?_;first|refine eN ?_|refine eV Z Z (zA Z Z) ?_|refine eV Z Z (zB Z Z) ?_|(refine at_bin ?_;first|refine eD Z Z (zL Z Z Z) (fun hh=>?_) (fun hh=>?_))|(refine at_call ?_;first|refine eV Z Z (zK Z Z) ?_))|(refine at_K ?_;first|refine K_then ?_|refine K_then_ret ?_|refine K_then_exit ?_|refine K_in_ret ?_|refine K_in_exit ?_)|(refine at_E ?_;first|refine E_seq ?_|refine E_region ?_|refine E_cond_t Z ?_|refine E_cond_f Z ?_|refine E_block ?_|refine E_skip ?_|refine E_ret ?_|refine E_exit ?_|refine E_dq mixedOk (by kernel_rfl) Z ?_)|(refine at_RQ ?_;first|refine yN Z (fun wq xq=>?_)|refine yV Z Z (fun _ _ _=>zA Z Z) ?_)))
      all_goals (try (exfalso;omega))
      exact ret_1 Z Z ⟨rfl,hx.trans xq⟩
  · have:decide (xs=ys)=true:=decide_eq_true (same_end hl (fun j hj=>hall j (by omega)))
    rw [this]
    (repeat' (first|(refine at_EL ?_;first|refine eN ?_|refine eV Z Z (zA Z Z) ?_|refine eV Z Z (zB Z Z) ?_|(refine at_bin ?_;first|refine eD Z Z (zL Z Z Z) (fun hh=>?_) (fun hh=>?_))|(refine at_call ?_;first|refine eV Z Z (zK Z Z) ?_))|(refine at_K ?_;first|refine K_then ?_|refine K_then_exit ?_|refine K_in_exit ?_)|(refine at_E ?_;first|refine E_seq ?_|refine E_region ?_|refine E_cond_t Z ?_|refine E_cond_f Z ?_|refine E_block ?_|refine E_skip ?_|refine E_ret ?_|refine E_exit ?_)))
    all_goals (try (exfalso;omega))
    exact ret_1 Z Z ⟨rfl,hx⟩
end Go.Proofs.YtjicdgejhkgpgaaGreatDoor
namespace Go.En
open Go Go.RowKit
section
variable {P : Program} {n : Nat} {L : List (Nat × Value)} {w : World} {o : Oper}
theorem val_iface {t:TypeId} {d:TypeDesc} {x:Operand} {v:Value} [UT P t d] (hd:isAggD d=true) (ho:o.op=.makeInterface t x) (hx:ev L x=some v):Val P L w o (.iface t v):=fun ρ ha=>by
  have h1:=ha.ev (by rw [ho];simp [Op.operands]) hx
  have h3:=run_ut (t:=t) (P:=P) w
  cases d <;> first|(cases hd;done)|simp [execOp,ho,Instr.makeInterface,go_sem,h1,h3]
theorem entersI {f:FuncId} {t:TypeId} {r x:Operand} {name:String} {ts:Array TypeId} {v a:Value} (ho:o.op=.call { callee:=.invoke r name,args:=#[x],argTypes:=ts })
    (hr:ev L r=some (.iface t v)) (hx:ev L x=some a) (hm:∀ w,(method (P.types.size+Made.depth) t v name).run P w=.ok (f,v) w) (he:∀ args w,(callFunc f args).run P w=.ok (.enter f args) w):Enters P L w o f #[v,a]:=fun ρ ha=>by
  have h1:=ha.ev (by rw [ho];simp [Op.operands,Call.operands]) hr
  have h2:=ha.ev (by rw [ho];simp [Op.operands,Call.operands]) hx
  have hp:Sem.run P (Sem.program Sem.pure) w=.ok P w:=rfl
  have hm':∀ w,(method (P.types.size+100) t v name).run P w=.ok (f,v) w:=hm
  simp [execOp,ho,resolve,invoke,callMethod,go_sem,h1,h2,program,Sem.run_bind,hp,hm',he]
end
end Go.En
