/-
  What the rows of the seat ask of the whole program, each once. A slice made empty, with room; sums of bits told. Walks: the program's search for analyses: equal, has, shrinks, after.
-/
import Derived.Test.YtjicdgejhkgpgaaGreatDoorCards
import Derived.Test.YtjicdgejhkgpgaaGreatDoorProg
import Derived.JoinedCond
import Derived.SevenTiedAt
import Derived.KernelRfl
import Derived.Test.YtjicdgejhkgpgaaGreatDoorYh
import Derived.Test.YtjicdgejhkgpgaaGreatDoorYc
import Derived.Test.YtjicdgejhkgpgaaGreatDoorYf
import Derived.Test.YtjicdgejhkgpgaaGreatDoorYg
import Derived.Test.YtjicdgejhkgpgaaGreatDoorYe
set_option linter.all false
namespace Go.Proofs.YtjicdgejhkgpgaaGreatDoor
theorem band {a b:Bool} (ha:a=true) (hb:b=true):(a&&b)=true:=by rw [ha,hb];rfl
theorem pj_laid:laidOutB Tryz.pinned.checked.prog=true:=by kernel_rfl
theorem pj_rowed:mapsRowed Tryz.pinned.checked.prog=true:=by kernel_rfl
theorem pj_heard:Tryz.pinned.checked.prog.stopsHeard=true:=by kernel_rfl
theorem pj_enter:Tryz.pinned.checked.prog.mayEnter=true:=by kernel_rfl
theorem pj_lifts:(Rows.provenanceAttestsRow.lifted==Tryz.pinned.checked.prog.liftsFinal)=true:=by kernel_rfl
theorem pj_make:(Tryz.pinned.checked.prog.make==some Rows.provenanceAttestsRow.make)=true:=by kernel_rfl
theorem pj_plain:(Rows.provenanceAttestsRow.plainKeys==Tryz.pinned.checked.prog.plainKeys)=true:=by kernel_rfl
theorem pj_main:Tryz.pinned.checked.prog.mainIs=some (Rows.provenanceAttestsCard.stood.harness.1,Rows.provenanceAttestsCard.stood.harness.2.toList):=by kernel_rfl
end Go.Proofs.YtjicdgejhkgpgaaGreatDoor
namespace Go.En
open Go.RowKit
section
variable {P : Program} {n : Nat} {Q : Post} {L : List (Nat × Value)} {w : World} {ops : List Oper} {o : Oper} {rest : List Oper}
theorem EL_make0 {d:Nat} {t e:TypeId} {x y:Operand} {z:Value} {size bytes:Nat} [ut:UT P t (.slice e)] [ti:TI P e z size bytes] (hg:gst ops L o=some true) (hd:odst n o.dst=some d) (ho:o.op=.makeSlice t x y)
    {k1 k2:IntKind} {c:Nat} (hx:ev L x=some (.int k1 0)) (hy:ev L y=some (.int k2 (c:Int))) (hmax:bytes*c≤281474976710656) (hmax':c≤9223372036854775807)
    (k:∀ b w',b=w.heap.size→w'.ownsRow w.heap.size e size (.slice (some ⟨b,0,none⟩) 0 c) 0 []→Ext w w'→EL P n ops Q rest ((d,(.slice (some ⟨b,0,none⟩) 0 c))::L) w'):EL P n ops Q (o::rest) L w:=by
  obtain⟨i0,hi,hz0,hz1,hz2⟩:=info_parts ti.i
  obtain⟨w',hr,h2,h3⟩:=run_make_own (P:=P) w w.heap.size t e i0 z size ut.u hi hz0 hz1 k1 k2 c (by rw [hz2];exact hmax) (by unfold maxLen;omega) (Nat.le_refl _)
  refine EL_valw hg hd (fun ρ ha=>?_) (k _ w' rfl h2 (Kb.none_ext h3))
  have a1:=ha.ev (by rw [ho];simp [Op.operands]) hx
  have a2:=ha.ev (by rw [ho];simp [Op.operands]) hy
  simp only [execOp,ho,a1,a2,Sem.run_bind,hr,Result.andThen_ok]
  rfl
theorem Grow.made {α:Type} [Rep α] {Gx:Nat→Prop} {u0 w:World} {e:TypeId} {v:Value} (h:w.ownsRow u0.heap.size e (Rep.sz α) v 0 []) (x:Ext u0 w):Grow (α:=α) Gx u0 e [] v w:=
  ⟨x,[],by simpa using h,trivial⟩
theorem val_and32r {t u:TypeId} {x y:Operand} {a b r:Nat} (ho:o.op=.binOp .and t x y u) (hx:ev L x=some (.int .u32 (a:Int))) (hy:ev L y=some (.int .u32 (b:Int))) (ha:a<4294967296) (hb:b<4294967296) (hr:a &&& b=r):Val P L w o (.int .u32 (r:Int)):=hr▸val_and32 ho hx hy ha hb
end
end Go.En
namespace Go.Proofs.YtjicdgejhkgpgaaGreatDoor
open Go.RowKit Go.En Go.Pv
attribute [local irreducible] E EL K Val Enters Rt Calls bodyPost Code.wp RQ
set_option maxHeartbeats 4000000 in
set_option maxRecDepth 8000 in
theorem equal184_any (xs ys:List Int) (u v:Value) (w:World) (hu:Sl w u xs) (hv:Sl w v ys):Calls Tryz.prog 184 #[u,v] w (Rt fun r w'=>r=.bool (decide (xs=ys))∧Ext w w'):=by
  have hu0:=hu
  have hv0:=hv
  obtain⟨a,ca,rfl,_,hm,hp⟩:=hu.sl
  obtain⟨b,cb,rfl,_,hm2,hp2⟩:=hv.sl
  refine calls_E (n:=26) (args:=[.slice a xs.length ca,.slice b ys.length cb]) Tryz.func184 rfl Tryz.ntmps184 (by simp) ?_
  (repeat' (first|(refine at_EL ?_;first|refine eN ?_|refine eV Z Z (zA Z Z) ?_|refine eV Z Z (zB Z Z) ?_|(refine at_bin ?_;first|refine eD Z Z (zQ Z Z Z) (fun hh=>?_) (fun hh=>?_))|(refine at_call ?_;first|refine eV Z Z (zK Z Z) ?_))|(refine at_K ?_;first|refine K_then ?_|refine K_then_ret ?_)|(refine at_E ?_;first|refine E_seq ?_|refine E_region ?_|refine E_cond_t Z ?_|refine E_cond_f Z ?_|refine E_block ?_|refine E_skip ?_|refine E_ret ?_)))
  · have:decide (xs=ys)=false:=decide_eq_false (fun e=>by subst e;omega)
    exact ret_1 Z Z ⟨by rw [this],Ext.refl _⟩
  have hl:xs.length=ys.length:=by omega
  refine E_loop (ι:=Nat) (fun i=>[(0,.slice a xs.length ca),(1,.slice b ys.length cb),(12,int xs.length),(13,int i)]) (fun i wr=>i≤xs.length∧Ext w wr∧∀ j,j<i→xs[j]?=ys[j]?) (fun i=>xs.length-i) 0
    ⟨rfl,rfl,rfl,rfl,trivial⟩ ⟨Nat.zero_le _,Ext.refl _,fun _ h=>absurd h (by omega)⟩ ?_
  rintro i wr ⟨hi,hx,hall⟩
  replace hu0:=hu0.ext hx;replace hv0:=hv0.ext hx
  by_cases hlt:i<xs.length
  · obtain⟨b1,o1,rfl⟩:=hp (by omega)
    obtain⟨b2,o2,rfl⟩:=hp2 (by omega)
    obtain⟨x,hxi⟩:∃ x,xs[i]?=some x:=⟨_,List.getElem?_eq_getElem hlt⟩
    obtain⟨y,hyi⟩:∃ y,ys[i]?=some y:=⟨_,List.getElem?_eq_getElem (by omega)⟩
    have h1:=(Go.Pv.int_elem hu0 hxi).one
    have h2:=(Go.Pv.int_elem hv0 hyi).one
    (repeat' (first|refine yV Z Z (fun wq _ xq=>val_load Z Z Z (Ext.cell xq (by assumption))) ?_|refine yV Z Z (fun _ _ _=>val_indexAddr (m:=i) Z Z Z (by first|rfl|omega) (by omega)) ?_|(refine at_EL ?_;first|refine eN ?_|refine eV Z Z (zA Z Z) ?_|refine eV Z Z (zB Z Z) ?_|(refine at_bin ?_;first|refine eD Z Z (zL Z Z Z) (fun hh=>?_) (fun hh=>?_)|refine eV Z Z (zU Z Z Z (by omega) (by omega)) ?_))|(refine at_K ?_;first|refine K_then ?_|refine K_in ?_|refine K_then_ret ?_|refine K_then_exit ?_|refine K_in_ret ?_|refine K_in_exit ?_)|(refine at_E ?_;first|refine E_seq ?_|refine E_region ?_|refine E_cond_t Z ?_|refine E_cond_f Z ?_|refine E_block ?_|refine E_skip ?_|refine E_ret ?_|refine E_exit ?_|refine E_dq mixedOk (by kernel_rfl) Z ?_)|(refine at_RQ ?_;first|refine yN Z (fun wq xq=>?_)|refine yV Z Z (fun _ _ _=>zA Z Z) ?_|(refine at_binR ?_;first|refine yD Z Z (fun _ _ _=>zQ Z Z Z) (fun hh=>?_) (fun hh=>?_)))))
    all_goals (try (exfalso;omega))
    · have:decide (xs=ys)=false:=decide_eq_false (same_no hxi hyi (by assumption))
      rw [this]
      exact ret_1 Z Z ⟨rfl,hx.trans xq⟩
    · exact K_rnd (i+1) ⟨rfl,rfl,rfl,rfl,trivial⟩ ⟨by omega,hx.trans xq,same_nx hxi hyi (by omega) hall⟩ (by omega)
  · have:decide (xs=ys)=true:=decide_eq_true (same_end hl (fun j hj=>hall j (by omega)))
    rw [this]
    (repeat' (first|(refine at_EL ?_;first|refine eN ?_|refine eV Z Z (zA Z Z) ?_|refine eV Z Z (zB Z Z) ?_|(refine at_bin ?_;first|refine eD Z Z (zL Z Z Z) (fun hh=>?_) (fun hh=>?_)))|(refine at_K ?_;first|refine K_then ?_|refine K_then_exit ?_|refine K_in_exit ?_)|(refine at_E ?_;first|refine E_seq ?_|refine E_region ?_|refine E_cond_t Z ?_|refine E_cond_f Z ?_|refine E_block ?_|refine E_skip ?_|refine E_ret ?_|refine E_exit ?_)))
    all_goals (try (exfalso;omega))
    exact ret_1 Z Z ⟨rfl,hx⟩
set_option maxHeartbeats 4000000 in
set_option maxRecDepth 8000 in
theorem has138_any (l : List Int) (x : Int) (v : Value) (w : World) (hv : Sl w v l) : Calls Tryz.prog 138 #[v, int x] w (Rt fun u w' => u = .bool (l.contains x) ∧ Ext w w') := by
  have hv0:=hv
  obtain⟨a,cap,rfl,hc,hm,hp⟩:=hv.sl
  refine calls_E (n:=17) (args:=[.slice a l.length cap,int x]) Tryz.func138 rfl Tryz.ntmps138 (by simp) ?_
  (repeat' (first|(refine at_EL ?_;first|refine eN ?_|refine eV Z Z (zA Z Z) ?_|refine eV Z Z (zB Z Z) ?_|(refine at_call ?_;first|refine eV Z Z (zK Z Z) ?_))|(refine at_K ?_;first|refine K_then ?_)|(refine at_E ?_;first|refine E_seq ?_|refine E_region ?_|refine E_block ?_)))
  refine E_loop (ι:=Nat) (fun i=>[(1,int x),(7,.slice a l.length cap),(8,int l.length),(9,int i)])
    (fun i wr=>i≤l.length∧Ext w wr∧∀(j:Nat) (y:Int),j<i→l[j]?=some y→y≠x) (fun i=>l.length-i) 0
    ⟨rfl,rfl,rfl,rfl,trivial⟩ ⟨Nat.zero_le _,Ext.refl _,fun j x hj=>absurd hj (by omega)⟩ ?_
  rintro i wr ⟨hi,hx,hall⟩
  by_cases hlt:i<l.length
  · obtain⟨b,off,rfl⟩:=hp (by omega)
    obtain⟨y,hy1⟩:∃ y,l[i]?=some y:=⟨_,List.getElem?_eq_getElem (by omega)⟩
    have hcy:=(Go.Pv.int_elem (hv0.ext hx) hy1).one
    (repeat' (first|refine eV Z Z (val_load Z Z Z (by assumption)) ?_|refine eV Z Z (val_indexAddr (m:=i) Z Z Z (by first|rfl|omega) (by omega)) ?_|(refine at_EL ?_;first|refine eN ?_|refine eV Z Z (zA Z Z) ?_|refine eV Z Z (zB Z Z) ?_|(refine at_bin ?_;first|refine eD Z Z (zL Z Z Z) (fun hh=>?_) (fun hh=>?_)|refine eD Z Z (zM Z Z Z) (fun hh=>?_) (fun hh=>?_)|refine eV Z Z (zU Z Z Z (by omega) (by omega)) ?_))|(refine at_K ?_;first|refine K_then ?_|refine K_in ?_|refine K_then_ret ?_|refine K_then_exit ?_|refine K_in_ret ?_|refine K_in_exit ?_)|(refine at_E ?_;first|refine E_seq ?_|refine E_region ?_|refine E_cond_t Z ?_|refine E_cond_f Z ?_|refine E_block ?_|refine E_skip ?_|refine E_ret ?_|refine E_exit ?_)))
    all_goals (try (exfalso;omega))
    · have:l.contains x=true:=by rw [List.contains_iff_mem];rw [show x=y by omega];exact List.mem_of_getElem? hy1
      rw [this]
      exact ret_1 Z Z ⟨rfl,hx⟩
    · refine K_rnd (i+1) ⟨rfl,rfl,rfl,rfl,trivial⟩ ⟨by omega,hx,fun j z hj hz=>?_⟩ (by omega)
      by_cases e:j=i
      · subst e;rw [hy1] at hz;cases hz;omega
      · exact hall j z (by omega) hz
  · have:l.contains x=false:=by
      cases hb:l.contains x with
      | false=>rfl
      | true=>
        rw [List.contains_iff_mem] at hb
        obtain⟨j,hj⟩:=List.getElem?_of_mem hb
        exact absurd rfl (hall j x (by have:=(List.getElem?_eq_some_iff.1 hj).1;omega) hj)
    rw [this]
    (repeat' (first|(refine at_EL ?_;first|refine eN ?_|refine eV Z Z (zB Z Z) ?_|(refine at_bin ?_;first|refine eD Z Z (zL Z Z Z) (fun hh=>?_) (fun hh=>?_)))|(refine at_K ?_;first|refine K_then ?_|refine K_then_exit ?_|refine K_in_exit ?_)|(refine at_E ?_;first|refine E_seq ?_|refine E_region ?_|refine E_cond_t Z ?_|refine E_cond_f Z ?_|refine E_block ?_|refine E_skip ?_|refine E_ret ?_|refine E_exit ?_)))
    all_goals (try (exfalso;omega))
    exact ret_1 Z Z ⟨rfl,hx⟩
set_option maxHeartbeats 4000000 in
set_option maxRecDepth 8000 in
theorem shrinks107_any (rules:List Rul) (rv:Value) (w:World) (hr:Sl w rv rules):Calls Tryz.prog 107 #[rv] w (Rt fun u w'=>u=.bool (shrB rules)∧Ext w w'):=by
  have hr0:=hr
  obtain⟨ra,rc,rfl,_,_,hp⟩:=hr.sl
  refine calls_E (n:=15) (args:=[.slice ra rules.length rc]) Tryz.func107 rfl Tryz.ntmps107 (by simp) ?_
  (repeat' (first|(refine at_EL ?_;first|refine eN ?_|refine eV Z Z (zA Z Z) ?_|refine eV Z Z (zB Z Z) ?_|(refine at_call ?_;first|refine eV Z Z (zK Z Z) ?_))|(refine at_K ?_;first|refine K_then ?_)|(refine at_E ?_;first|refine E_seq ?_|refine E_region ?_|refine E_block ?_)))
  refine E_loop (ι:=Nat) (fun i=>[(5,.slice ra rules.length rc),(6,int rules.length),(7,int i)])
    (fun i wr=>i≤rules.length∧Ext w wr∧∀(j:Nat) (r:Rul),j<i→rules[j]?=some r→r.to.contains 0=false) (fun i=>rules.length-i) 0
    ⟨rfl,rfl,rfl,trivial⟩ ⟨Nat.zero_le _,Ext.refl _,fun j x hj=>absurd hj (by omega)⟩ ?_
  rintro i wr ⟨hi,hx,hall⟩
  replace hr0:=hr0.ext hx
  by_cases hlt:i<rules.length
  · obtain⟨b,off,rfl⟩:=hp (by omega)
    obtain⟨r,hri⟩:∃ r,rules[i]?=some r:=⟨_,List.getElem?_eq_getElem hlt⟩
    obtain⟨f0,k0,f1,k1,f2,k2,f3,k3,hat,_,q0,q1,q2,q3⟩:=rul_elem hr0 hri
    have ch:=fun wz hz=>has138_any r.to 0 (.slice f1 r.to.length k1) wz hz
    cases hb:r.to.contains 0 with
    | true=>
      rw [hb] at ch
      have:shrB rules=true:=by unfold shrB;rw [List.any_eq_true];exact⟨r,List.mem_of_getElem? hri,hb⟩
      rw [this]
      (repeat' (first|(refine EL_var Z Z Z Z Z Z Z Z Z Z (fun bN wN xN hbN rN=>?_);replace hx:=hx.trans xN;replace q1:=q1.ext xN)|refine eV Z Z (val_load Z Z Z (Row.cellAt (by assumption) (by rfl))) ?_|refine eV Z Z (val_loadA Z Z Z (by assumption) (by rfl)) ?_|refine eV Z Z (val_indexAddr (m:=i) Z Z Z (by first|rfl|omega) (by omega)) ?_|(refine EL_call Z Z (entersF Z Z en138) (ch _ q1) (fun vC wC hC=>?_);obtain⟨rfl,xC⟩:=hC;replace hx:=hx.trans xC)|(refine at_EL ?_;first|refine eN ?_|refine eV Z Z (zB Z Z) ?_|(refine at_bin ?_;first|refine eD Z Z (zL Z Z Z) (fun hh=>?_) (fun hh=>?_))|refine eV Z Z (zH Z Z) ?_)|(refine at_K ?_;first|refine K_then ?_|refine K_then_ret ?_|refine K_then_exit ?_|refine K_in_ret ?_|refine K_in_exit ?_)|(refine at_E ?_;first|refine E_seq ?_|refine E_region ?_|refine E_cond_t Z ?_|refine E_cond_f Z ?_|refine E_block ?_|refine E_skip ?_|refine E_ret ?_|refine E_exit ?_)))
      all_goals (try (exfalso;omega))
      exact ret_1 Z Z ⟨rfl,hx⟩
    | false=>
      rw [hb] at ch
      (repeat' (first|(refine EL_var Z Z Z Z Z Z Z Z Z Z (fun bN wN xN hbN rN=>?_);replace hx:=hx.trans xN;replace q1:=q1.ext xN)|refine eV Z Z (val_load Z Z Z (Row.cellAt (by assumption) (by rfl))) ?_|refine eV Z Z (val_loadA Z Z Z (by assumption) (by rfl)) ?_|refine eV Z Z (val_indexAddr (m:=i) Z Z Z (by first|rfl|omega) (by omega)) ?_|(refine EL_call Z Z (entersF Z Z en138) (ch _ q1) (fun vC wC hC=>?_);obtain⟨rfl,xC⟩:=hC;replace hx:=hx.trans xC)|(refine at_EL ?_;first|refine eN ?_|refine eV Z Z (zA Z Z) ?_|refine eV Z Z (zB Z Z) ?_|(refine at_bin ?_;first|refine eD Z Z (zL Z Z Z) (fun hh=>?_) (fun hh=>?_)|refine eV Z Z (zU Z Z Z (by omega) (by omega)) ?_)|refine eV Z Z (zH Z Z) ?_)|(refine at_K ?_;first|refine K_then ?_|refine K_in ?_|refine K_then_exit ?_|refine K_in_exit ?_)|(refine at_E ?_;first|refine E_seq ?_|refine E_region ?_|refine E_cond_t Z ?_|refine E_cond_f Z ?_|refine E_block ?_|refine E_skip ?_|refine E_ret ?_|refine E_exit ?_)))
      all_goals (try (exfalso;omega))
      refine K_rnd (i+1) ⟨rfl,rfl,rfl,trivial⟩ ⟨by omega,hx,fun j z hj hz=>?_⟩ (by omega)
      by_cases e:j=i
      · subst e;rw [hri] at hz;cases hz;exact hb
      · exact hall j z (by omega) hz
  · have:shrB rules=false:=by
      unfold shrB
      rw [List.any_eq_false]
      intro r hr
      obtain⟨j,hj⟩:=List.getElem?_of_mem hr
      rw [hall j r (by have:=(List.getElem?_eq_some_iff.1 hj).1;omega) hj];simp
    rw [this]
    (repeat' (first|(refine at_EL ?_;first|refine eN ?_|refine eV Z Z (zB Z Z) ?_|(refine at_bin ?_;first|refine eD Z Z (zL Z Z Z) (fun hh=>?_) (fun hh=>?_)))|(refine at_K ?_;first|refine K_then ?_|refine K_then_exit ?_|refine K_in_exit ?_)|(refine at_E ?_;first|refine E_seq ?_|refine E_region ?_|refine E_cond_t Z ?_|refine E_cond_f Z ?_|refine E_block ?_|refine E_skip ?_|refine E_ret ?_|refine E_exit ?_)))
    all_goals (try (exfalso;omega))
    exact ret_1 Z Z ⟨rfl,hx⟩
end Go.Proofs.YtjicdgejhkgpgaaGreatDoor
