/-
  Walks: lists of references compared; documents that are right and small. Interface values: made; a method called through one.
-/
import Derived.Test.YtjicdgejhkgpgaaGreatDoorY0
import Derived.Test.YtjicdgejhkgpgaaGreatDoorY1
import Derived.Test.YtjicdgejhkgpgaaGreatDoorYq
import Derived.Test.YtjicdgejhkgpgaaGreatDoorE
import Derived.Test.YtjicdgejhkgpgaaGreatDoorYb
set_option linter.all false
namespace Go.Proofs.YtjicdgejhkgpgaaGreatDoor
open Go.RowKit Go.En Go.Pv
theorem two39n {x y:Rf} {b:Bool} (h:b=!(decide (x=y))):b=!(decide (x.rcd=y.rcd)&&decide (x.note=y.note)):=by
  rw [h];congr 1
  cases x;cases y;simp [Rf.mk.injEq]
attribute [local irreducible] E EL K Val Enters Rt Calls bodyPost Code.wp RQ
set_option maxHeartbeats 4000000 in
set_option maxRecDepth 8000 in
theorem same18_any (xs ys:List Rf) (u v:Value) (w:World) (hu:Sl w u xs) (hv:Sl w v ys):Calls Tryz.prog 18 #[u,v] w (Rt fun r w'=>r=.bool (decide (xs=ys))∧Ext w w'):=by
  have hu0:=hu
  have hv0:=hv
  obtain⟨a,ca,rfl,_,hm,hp⟩:=hu.sl
  obtain⟨b,cb,rfl,_,hm2,hp2⟩:=hv.sl
  refine calls_E (n:=26) (args:=[.slice a xs.length ca,.slice b ys.length cb]) Tryz.func18 rfl Tryz.ntmps18 (by simp) ?_
  (repeat' (first|(refine at_EL ?_;first|refine eN ?_|refine eV Z Z (zA Z Z) ?_|refine eV Z Z (zB Z Z) ?_|(refine at_bin ?_;first|refine eD Z Z (zQ Z Z Z) (fun hh=>?_) (fun hh=>?_))|(refine at_call ?_;first|refine eV Z Z (zK Z Z) ?_))|(refine at_K ?_;first|refine K_then ?_|refine K_then_ret ?_)|(refine at_E ?_;first|refine E_seq ?_|refine E_region ?_|refine E_cond_t Z ?_|refine E_cond_f Z ?_|refine E_block ?_|refine E_skip ?_|refine E_ret ?_)))
  · have:decide (xs=ys)=false:=decide_eq_false (fun e=>by subst e;omega)
    exact ret_1 Z Z ⟨by rw [this],Ext.refl _⟩
  have hl:xs.length=ys.length:=by omega
  refine E_loop (ι:=Nat) (fun i=>[(0,.slice a xs.length ca),(1,.slice b ys.length cb),(5,int i)]) (fun i wr=>i≤xs.length∧Ext w wr∧∀ j,j<i→xs[j]?=ys[j]?) (fun i=>xs.length-i) 0
    ⟨rfl,rfl,rfl,trivial⟩ ⟨Nat.zero_le _,Ext.refl _,fun _ h=>absurd h (by omega)⟩ ?_
  rintro i wr ⟨hi,hx,hall⟩
  replace hu0:=hu0.ext hx;replace hv0:=hv0.ext hx
  by_cases hlt:i<xs.length
  · obtain⟨b1,o1,rfl⟩:=hp (by omega)
    obtain⟨b2,o2,rfl⟩:=hp2 (by omega)
    obtain⟨x,hxi⟩:∃ x,xs[i]?=some x:=⟨_,List.getElem?_eq_getElem hlt⟩
    obtain⟨y,hyi⟩:∃ y,ys[i]?=some y:=⟨_,List.getElem?_eq_getElem (by omega)⟩
    have h1:=rf_elem hu0 hxi
    have h2:=rf_elem hv0 hyi
    by_cases he:x=y
    · have hr:=two39n (x:=x) (y:=y) (b:=false) (by simp [he])
      (repeat' (first|refine yV Z Z (fun wq _ xq=>val_loadA Z Z Z (At.ext (by assumption) xq) (by rfl)) ?_|refine yV Z Z (fun _ _ _=>val_indexAddr (m:=i) Z Z Z (by first|rfl|omega) (by omega)) ?_|refine yV Z Z (fun _ _ _=>val_ne_two_b two39 rfl rfl rfl hr) ?_|(refine at_EL ?_;first|refine eN ?_|refine eV Z Z (zA Z Z) ?_|refine eV Z Z (zB Z Z) ?_|(refine at_bin ?_;first|refine eD Z Z (zL Z Z Z) (fun hh=>?_) (fun hh=>?_)|refine eV Z Z (zU Z Z Z (by omega) (by omega)) ?_)|(refine at_call ?_;first|refine eV Z Z (zK Z Z) ?_))|(refine at_K ?_;first|refine K_then ?_|refine K_in ?_|refine K_then_exit ?_|refine K_in_exit ?_)|(refine at_E ?_;first|refine E_seq ?_|refine E_region ?_|refine E_cond_t Z ?_|refine E_cond_f Z ?_|refine E_block ?_|refine E_skip ?_|refine E_ret ?_|refine E_exit ?_|refine E_dq mixedOk (by kernel_rfl) Z ?_)|(refine at_RQ ?_;first|refine yN Z (fun wq xq=>?_)|refine yV Z Z (fun _ _ _=>zA Z Z) ?_)))
      all_goals (try (exfalso;omega))
      exact K_rnd (i+1) ⟨rfl,rfl,rfl,trivial⟩ ⟨by omega,hx.trans xq,same_nx hxi hyi he hall⟩ (by omega)
    · have hr:=two39n (x:=x) (y:=y) (b:=true) (by simp [he])
      have:decide (xs=ys)=false:=decide_eq_false (same_no hxi hyi he)
      rw [this]
      (repeat' (first|refine yV Z Z (fun wq _ xq=>val_loadA Z Z Z (At.ext (by assumption) xq) (by rfl)) ?_|refine yV Z Z (fun _ _ _=>val_indexAddr (m:=i) Z Z Z (by first|rfl|omega) (by omega)) ?_|refine yV Z Z (fun _ _ _=>val_ne_two_b two39 rfl rfl rfl hr) ?_|(refine at_EL ?_;first|refine eN ?_|refine eV Z Z (zA Z Z) ?_|refine eV Z Z (zB Z Z) ?_|(refine at_bin ?_;first|refine eD Z Z (zL Z Z Z) (fun hh=>?_) (fun hh=>?_))|(refine at_call ?_;first|refine eV Z Z (zK Z Z) ?_))|(refine at_K ?_;first|refine K_then ?_|refine K_then_ret ?_|refine K_then_exit ?_|refine K_in_ret ?_|refine K_in_exit ?_)|(refine at_E ?_;first|refine E_seq ?_|refine E_region ?_|refine E_cond_t Z ?_|refine E_cond_f Z ?_|refine E_block ?_|refine E_skip ?_|refine E_ret ?_|refine E_exit ?_|refine E_dq mixedOk (by kernel_rfl) Z ?_)|(refine at_RQ ?_;first|refine yN Z (fun wq xq=>?_)|refine yV Z Z (fun _ _ _=>zA Z Z) ?_)))
      all_goals (try (exfalso;omega))
      exact ret_1 Z Z ⟨rfl,hx.trans xq⟩
  · have:decide (xs=ys)=true:=decide_eq_true (same_end hl (fun j hj=>hall j (by omega)))
    rw [this]
    (repeat' (first|(refine at_EL ?_;first|refine eN ?_|refine eV Z Z (zA Z Z) ?_|refine eV Z Z (zB Z Z) ?_|(refine at_bin ?_;first|refine eD Z Z (zL Z Z Z) (fun hh=>?_) (fun hh=>?_))|(refine at_call ?_;first|refine eV Z Z (zK Z Z) ?_))|(refine at_K ?_;first|refine K_then ?_|refine K_then_exit ?_|refine K_in_exit ?_)|(refine at_E ?_;first|refine E_seq ?_|refine E_region ?_|refine E_cond_t Z ?_|refine E_cond_f Z ?_|refine E_block ?_|refine E_skip ?_|refine E_ret ?_|refine E_exit ?_)))
    all_goals (try (exfalso;omega))
    exact ret_1 Z Z ⟨rfl,hx⟩
set_option maxHeartbeats 4000000 in
set_option maxRecDepth 8000 in
theorem light28_any (ds : List Dc) (hn : ∀ d ∈ ds, Names d) (v : Value) (w : World) (hv : Sl w v ds) : Calls Tryz.prog 28 #[v] w (Rt fun u w' => (∃ b, u = .bool b ∧ (b = true → LightDs ds)) ∧ Ext w w') := by
  have hv0:=hv
  obtain⟨a,c,rfl,_,hm,hpp⟩:=hv.sl
  refine calls_E (n:=39) (args:=[.slice a ds.length c]) Tryz.func28 rfl Tryz.ntmps28 (by simp) ?_
  (repeat' (first|(refine at_EL ?_;first|refine eN ?_|refine eV Z Z (zA Z Z) ?_|refine eV Z Z (zB Z Z) ?_|(refine at_bin ?_;first|refine eD Z Z (zO Z Z Z) (fun hh=>?_) (fun hh=>?_))|(refine at_call ?_;first|refine eV Z Z (zK Z Z) ?_))|(refine at_K ?_;first|refine K_then ?_|refine K_then_ret ?_)|(refine at_E ?_;first|refine E_seq ?_|refine E_region ?_|refine E_cond_t Z ?_|refine E_cond_f Z ?_|refine E_block ?_|refine E_skip ?_|refine E_ret ?_)))
  · exact ret_1 Z Z ⟨⟨_,rfl,fun h=>Bool.noConfusion h⟩,Ext.refl _⟩
  refine E_loop (ι:=Nat) (fun i=>[(0,.slice a ds.length c),(3,int i)]) (fun i wr=>i≤ds.length∧Ext w wr∧(∀(j:Nat) (d:Dc),j<i→ds[j]?=some d→LightD d)∧∀(j:Nat) (a b:Dc),j+1<i→ds[j]?=some a→ds[j+1]?=some b→a.rid<b.rid) (fun i=>ds.length-i) 0
    ⟨rfl,rfl,trivial⟩ ⟨Nat.zero_le _,Ext.refl _,fun _ _ h=>absurd h (by omega),fun _ _ _ h=>absurd h (by omega)⟩ ?_
  rintro i wr ⟨hi,hx,hall,hup⟩
  replace hv0:=hv0.ext hx
  by_cases hlt:i<ds.length
  · obtain ⟨b, off, rfl⟩ := hpp (by omega)
    obtain⟨d,hdi⟩:∃ d,ds[i]?=some d:=⟨_,List.getElem?_eq_getElem hlt⟩
    obtain⟨a1,c1,a2,c2,a3,c3,hat,hrep⟩:=dc_elem hv0 hdi
    (repeat' (first|(refine at_EL ?_;first|refine eN ?_|refine eV Z Z (zA Z Z) ?_|refine eV Z Z (zB Z Z) ?_|(refine at_bin ?_;first|refine eD Z Z (zL Z Z Z) (fun hh=>?_) (fun hh=>?_))|(refine at_call ?_;first|refine eV Z Z (zK Z Z) ?_))|(refine at_K ?_;first|refine K_then ?_|refine K_then_exit ?_|refine K_in_exit ?_)|(refine at_E ?_;first|refine E_seq ?_|refine E_region ?_|refine E_cond_t Z ?_|refine E_cond_f Z ?_|refine E_block ?_|refine E_skip ?_|refine E_ret ?_|refine E_exit ?_)))
    all_goals (try (exfalso;omega))
    refine E.sub (M:=[(0,.slice (some ⟨b,off,none⟩) ds.length c),(3,int i)]) ⟨rfl,rfl,trivial⟩ ?_
    refine E_two (id:=6) 7 mixedOk (by kernel_rfl) (by kernel_rfl) ?_
    (repeat' (first|refine yV Z Z (fun wq _ xq=>val_loadA Z Z Z (At.ext (by assumption) xq) (by rfl)) ?_|refine yV Z Z (fun _ _ _=>val_indexAddr (m:=i) Z Z Z (by first|rfl|omega) (by omega)) ?_|refine RQ_callR (f:=63) (fun u w'=>∃ b,u=.bool b∧(b=true→LightD d)) (fun _=>#[.agg #[int d.rid,str d.rname,int d.len,int d.day,.slice a1 d.sp.length c1,.slice a2 d.tiers.length c2,.slice a3 d.notes.length c3] ]) Z Z (fun _ _ _ _ xe h=>h) (fun _ _ _=>entersF Z Z en63) (fun wq _ xq _=>calls_mono (dlight_any d _ wq ((dc_at hrep).ext xq) (hn d (List.mem_of_getElem? hdi))) (fun _ _ hh=>hh)) ?_|(refine RQ_valR (fun u _=>∃ b,u=.bool (!b)∧(b=true→LightD d)) Z Z (fun _ _ _ _ _ h=>h) (fun w δ _ hs=>?_) ?_;(obtain⟨b,e,hb⟩:=hs 17 (by decide) _ rfl;exact⟨.bool (!b),val_not Z (by rw [← e];rfl),b,rfl,hb⟩))|(refine RQ_valR (fun u _=>∃ b,u=.bool (!b)∧(b=true→LightD d)) Z Z (fun _ _ _ _ _ h=>h) (fun w δ _ hs=>⟨δ 18,val_move Z Z,hs 18 (by decide) _ rfl⟩) ?_)|refine RQ_end (fun wq δ xq hR=>?_)|(refine at_EL ?_;first|refine eN ?_)|(refine at_RQ ?_;first|refine yV Z Z (fun _ _ _=>zA Z Z) ?_)))
    all_goals (try (exfalso;omega))
    obtain⟨b1,h18,_⟩:=hR 18 _ rfl
    obtain⟨b2,h19,hb2⟩:=hR 19 _ rfl
    obtain⟨b3,h17,_⟩:=hR 17 _ rfl
    replace hx:=hx.trans xq;replace hv0:=hv0.ext xq;replace hat:=hat.ext xq
    simp only [mat,vG]
    rw [h17,h18,h19]
    refine K.sub (M:=[(0,.slice (some ⟨b,off,none⟩) ds.length c),(3,int i),(13,.slice (some ⟨b,off,none⟩) ds.length c),(14,int i),(15,.pointer (some ⟨b,off+i*7,none⟩)),(16,_),(17,.bool b3),(18,.bool (!b1)),(19,.bool (!b2))]) ⟨rfl,rfl,rfl,rfl,rfl,rfl,rfl,rfl,rfl,trivial⟩ ?_
    cases b2
    · refine K_pre 7 26 (by kernel_rfl) rfl rfl rfl rfl ?_
      (repeat' (first|(refine at_EL ?_;first|refine eN ?_|refine eV Z Z (zB Z Z) ?_)|(refine at_K ?_;first|refine K_then ?_|refine K_then_ret ?_|refine K_in_ret ?_)|(refine at_E ?_;first|refine E_seq ?_|refine E_region ?_|refine E_cond_t Z ?_|refine E_ret ?_)|(refine at_RQ ?_;first|refine yN Z (fun wq xq=>?_)|refine yO Z Z ?_|refine yV Z Z (fun _ _ _=>zC Z Z Z) ?_)))
      all_goals exact ret_1 Z Z ⟨⟨_,rfl,fun h=>Bool.noConfusion h⟩,hx.trans xq⟩
    · have hd := hb2 rfl
      refine K_pre 7 26 (by kernel_rfl) rfl rfl rfl rfl ?_
      by_cases h0:i=0
      · subst h0
        (repeat' (first|refine yV Z Z (fun wq _ xq=>val_load Z Z Z ((At.ext (by assumption) xq).cellAt (by rfl))) ?_|refine yV Z Z (fun _ _ _=>val_indexAddr (m:=0) Z Z Z (by first|rfl|omega) (by omega)) ?_|(refine at_EL ?_;first|refine eN ?_|refine eV Z Z (zA Z Z) ?_|refine eV Z Z (zB Z Z) ?_|(refine at_bin ?_;first|refine eV Z Z (zU Z Z Z (by omega) (by omega)) ?_))|(refine at_K ?_;first|refine K_then ?_|refine K_in ?_|refine K_then_ret ?_|refine K_in_ret ?_)|(refine at_E ?_;first|refine E_seq ?_|refine E_region ?_|refine E_cond_t Z ?_|refine E_cond_f Z ?_|refine E_skip ?_|refine E_ret ?_)|(refine at_RQ ?_;first|refine yN Z (fun wq xq=>?_)|refine yO Z Z ?_|refine yV Z Z (fun _ _ _=>zA Z Z) ?_|(refine at_binR ?_;first|refine yD Z Z (fun _ _ _=>zN Z Z Z) (fun hh=>?_) (fun hh=>?_)|refine yD Z Z (fun _ _ _=>zO Z Z Z) (fun hh=>?_) (fun hh=>?_)|refine yV Z Z (fun _ _ _=>zV Z Z Z (by omega) (by omega)) ?_)|refine yV Z Z (fun _ _ _=>zC Z Z Z) ?_|refine yV Z Z (fun _ _ _=>zD Z Z Z) ?_|refine yV Z Z (fun _ _ _=>zH Z Z) ?_)))
        all_goals (try (exfalso;omega))
        refine K_rnd (0+1) ⟨rfl,rfl,trivial⟩ ⟨by omega,hx.trans xq,fun j d' hj hj'=>?_,fun j _ _ hj=>absurd hj (by omega)⟩ (by omega)
        obtain rfl:j=0:=by omega
        rw [hdi] at hj';cases hj';exact hd
      · obtain⟨p,hpi⟩:∃ p,ds[i-1]?=some p:=⟨_,List.getElem?_eq_getElem (by omega)⟩
        obtain⟨_,_,_,_,_,_,hatp,_⟩:=dc_elem hv0 hpi
        (repeat' (first|refine yV Z Z (fun wq _ xq=>val_load Z Z Z ((At.ext (by assumption) xq).cellAt (by rfl))) ?_|refine yV Z Z (fun _ _ _=>val_indexAddr (m:=i) Z Z Z (by first|rfl|omega) (by omega)) ?_|refine yV Z Z (fun _ _ _=>val_indexAddr (m:=i-1) Z Z Z (by first|rfl|omega) (by omega)) ?_|(refine at_EL ?_;first|refine eN ?_|refine eV Z Z (zA Z Z) ?_|refine eV Z Z (zB Z Z) ?_|(refine at_bin ?_;first|refine eV Z Z (zU Z Z Z (by omega) (by omega)) ?_))|(refine at_K ?_;first|refine K_then ?_|refine K_in ?_|refine K_then_ret ?_|refine K_in_ret ?_)|(refine at_E ?_;first|refine E_seq ?_|refine E_region ?_|refine E_cond_t Z ?_|refine E_cond_f Z ?_|refine E_skip ?_|refine E_ret ?_)|(refine at_RQ ?_;first|refine yN Z (fun wq xq=>?_)|refine yO Z Z ?_|refine yV Z Z (fun _ _ _=>zA Z Z) ?_|(refine at_binR ?_;first|refine yD Z Z (fun _ _ _=>zN Z Z Z) (fun hh=>?_) (fun hh=>?_)|refine yD Z Z (fun _ _ _=>zO Z Z Z) (fun hh=>?_) (fun hh=>?_)|refine yV Z Z (fun _ _ _=>zV Z Z Z (by omega) (by omega)) ?_)|refine yV Z Z (fun _ _ _=>zC Z Z Z) ?_|refine yV Z Z (fun _ _ _=>zD Z Z Z) ?_|refine yV Z Z (fun _ _ _=>zH Z Z) ?_)))
        all_goals (try (exfalso;omega))
        · exact ret_1 Z Z ⟨⟨_,rfl,fun h=>Bool.noConfusion h⟩,hx.trans xq⟩
        · refine K_rnd (i+1) ⟨rfl,rfl,trivial⟩ ⟨by omega,hx.trans xq,fun j d' hj hj'=>?_,fun j a' b' hj hj1 hj2=>?_⟩ (by omega)
          · by_cases e2:j=i
            · subst e2;rw [hdi] at hj';cases hj';exact hd
            · exact hall j d' (by omega) hj'
          · by_cases e2:j+1=i
            · subst e2
              rw [hdi] at hj2;cases hj2
              rw [show j+1-1=j by omega,hj1] at hpi;cases hpi
              omega
            · exact hup j a' b' (by omega) hj1 hj2
  · (repeat' (first|(refine at_EL ?_;first|refine eN ?_|refine eV Z Z (zA Z Z) ?_|refine eV Z Z (zB Z Z) ?_|(refine at_bin ?_;first|refine eD Z Z (zL Z Z Z) (fun hh=>?_) (fun hh=>?_))|(refine at_call ?_;first|refine eV Z Z (zK Z Z) ?_))|(refine at_K ?_;first|refine K_then ?_|refine K_then_exit ?_|refine K_in_exit ?_)|(refine at_E ?_;first|refine E_seq ?_|refine E_region ?_|refine E_cond_t Z ?_|refine E_cond_f Z ?_|refine E_block ?_|refine E_skip ?_|refine E_ret ?_|refine E_exit ?_)))
    all_goals (try (exfalso;omega))
    refine ret_1 Z Z ⟨⟨_,rfl,fun _=>⟨by omega,fun d hd=>?_,fun j a b h1 h2=>hup j a b (by have:=(List.getElem?_eq_some_iff.1 h2).1;omega) h1 h2⟩⟩,hx⟩
    obtain⟨j,hj⟩:=List.getElem?_of_mem hd
    exact hall j d (by have:=(List.getElem?_eq_some_iff.1 hj).1;omega) hj
end Go.Proofs.YtjicdgejhkgpgaaGreatDoor
namespace Go.En
open Go Go.RowKit
section
variable {P : Program} {n : Nat} {L : List (Nat × Value)} {w : World} {o : Oper}
theorem val_iface {t:TypeId} {d:TypeDesc} {x:Operand} {v:Value} [UT P t d] (hd:isAggD d=true) (ho:o.op=.makeInterface t x) (hx:ev L x=some v):Val P L w o (.iface t v):=fun ρ ha=>by
  have h1:=ha.ev (by rw [ho];simp [Op.operands]) hx
  have h3:=run_ut (t:=t) (P:=P) w
  cases d <;> first|(cases hd;done)|simp [execOp,ho,Instr.makeInterface,go_sem,h1,h3]
theorem entersI {f:FuncId} {t:TypeId} {r x:Operand} {name:String} {ts:Array TypeId} {v a:Value} (ho:o.op=.call { callee:=.invoke r name,args:=#[x],argTypes:=ts })
    (hr:ev L r=some (.iface t v)) (hx:ev L x=some a) (hm:∀ w,(method (P.types.size+Made.depth) t v name).run P w=.ok (f,v) w) (he:∀ args w,(callFunc f args).run P w=.ok (.enter f args) w):Enters P L w o f #[v,a]:=fun ρ ha=>by
  have h1:=ha.ev (by rw [ho];simp [Op.operands,Call.operands]) hr
  have h2:=ha.ev (by rw [ho];simp [Op.operands,Call.operands]) hx
  have hp:Sem.run P (Sem.program Sem.pure) w=.ok P w:=rfl
  have hm':∀ w,(method (P.types.size+100) t v name).run P w=.ok (f,v) w:=hm
  simp [execOp,ho,resolve,invoke,callMethod,go_sem,h1,h2,program,Sem.run_bind,hp,hm',he]
end
end Go.En
