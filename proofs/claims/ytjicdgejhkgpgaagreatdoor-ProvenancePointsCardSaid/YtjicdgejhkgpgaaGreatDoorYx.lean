/-
  Walks: the program's way from an entry to its main entry; its Senses. Walks: the reference's Attests.
-/
import Derived.Test.YtjicdgejhkgpgaaGreatDoorYv
import Derived.Test.YtjicdgejhkgpgaaGreatDoorYu
import Derived.Test.YtjicdgejhkgpgaaGreatDoorYw
import Derived.Test.YtjicdgejhkgpgaaGreatDoorYl
import Derived.Test.YtjicdgejhkgpgaaGreatDoorYg
set_option linter.all false
namespace Go.Proofs.YtjicdgejhkgpgaaGreatDoor
open Go.RowKit Go.En Go.Pv
theorem grown_ext {A C:World} {r:Nat} (h:Ext A C):A.grownBy C (some r):=⟨h.os,h.tape,h.output,h.size,fun k hk _=>h.block hk⟩
theorem row_grown {A C:World} {r b:Nat} {t:TypeId} {cs:List Value} (h:Row A b t cs) (g:A.grownBy C (some r)) (hne:b≠r):Row C b t cs:=(g.block b h.lt (fun e=>hne (by cases e;rfl))).trans h
theorem ext_grown {w A C:World} {r:Nat} (h:Ext w A) (g:A.grownBy C (some r)) (hr:w.heap.size≤r):Ext w C:=
  ⟨g.os.trans h.os,g.tape.trans h.tape,g.output.trans h.output,Nat.le_trans h.size g.size,fun k hk=>(g.block k (Nat.lt_of_lt_of_le hk h.size) (fun e=>by cases e;omega)).trans (h.block hk)⟩
theorem chain_pre {lex:List En} {pre zs:List Int} {k:Nat} {id:Int} {e:En} (h:pre++chainI lex (k+1) id=zs) (he:getE lex id=some e):pre++[id] <+: zs∧(e.main=0→pre++[id]=zs)∧(e.main≠0→pre++[id]++chainI lex k e.main=zs):=by
  rw [chainI_some he] at h
  refine⟨⟨if e.main=0 then [] else chainI lex k e.main,by rw [← h];simp⟩,fun h0=>?_,fun h0=>?_⟩
  · rw [if_pos h0] at h;exact h
  · rw [if_neg h0] at h;rw [← h];simp
attribute [local irreducible] E EL K Val Enters Rt Calls bodyPost Code.wp RQ EI YK
set_option maxHeartbeats 8000000 in
set_option maxRecDepth 8000 in
theorem way_seq (lex : List En) (hl : lex.length ≤ 1000000) (id0 : Int) (la : Option Addr) (lc : Nat) (w0 : World) (hv : Sl w0 (.slice la lex.length lc) lex) (Xof : Int → List Value) (hrep : ∀ id, Rep.at_ Tt w0 (entD lex id) (Xof id))
    (hget:∀ id w',Ext w0 w'→Calls Tryz.prog 48 #[.slice la lex.length lc,int id] w' (Rt fun u w2=>u=.tuple #[.agg (Xof id).toArray,.bool (getE lex id).isSome]∧Ext w' w2))
    (Bl Bi B:Nat) (w:World) (hw0l:w0.heap.size≤Bl) (hw0:w0.heap.size≤Bi) (hBl:Bl<B) (hBi:Bi<B) (hne:Bl≠Bi) (hB:B≤w.heap.size) (hx:Ext w0 w) (rl:Row w Bl 35 [.slice la lex.length lc]) (ri:Row w Bi 3 [int id0]) :
    SeqX Fence.wide 4 Tryz.prog 235 #[.pointer (some ⟨Bl,0,none⟩),.pointer (some ⟨Bi,0,none⟩)] (fun x=>#[.agg (Xof x).toArray]) (chainI lex (lex.length+1) id0) Bi B w:=by
  intro l J Jx W hBle hlW hW hJ hY h0
  obtain⟨zs,hzs⟩:∃ zs,zs=chainI lex (lex.length+1) id0:=⟨_,rfl⟩
  rw [← hzs] at hY ⊢
  have c235:Calls Tryz.prog 235 #[.func (.yield l) #[] #[],.pointer (some ⟨Bl,0,none⟩),.pointer (some ⟨Bi,0,none⟩)] W (Rt fun _ W'=>J zs W'∨∃ pre,pre <+: zs∧Jx pre W'):=by
    have hxW:Ext w0 W:=⟨hW.os.trans hx.os,hW.tape.trans hx.tape,hW.output.trans hx.output,Nat.le_trans hx.size hW.size,fun k hk=>(hW.block k (by omega)).trans (hx.block hk)⟩
    have rlW:Row W Bl 35 [.slice la lex.length lc]:=(hW.block Bl hBl).trans rl
    have riW:Row W Bi 3 [int id0]:=(hW.block Bi hBi).trans ri
    refine calls_E (n:=33) (args:=[.func (.yield l) #[] #[],.pointer (some ⟨Bl,0,none⟩),.pointer (some ⟨Bi,0,none⟩)]) Tryz.func235 rfl Tryz.ntmps235 (by simp) ?_
    (repeat' (first|refine eV Z Z (val_load Z Z Z (Row.cellAt (by assumption) (by rfl))) ?_|(refine at_EL ?_;first|refine eN ?_|refine eV Z Z (zA Z Z) ?_|(refine at_bin ?_;first|refine eV Z Z (zU Z Z Z (by omega) (by omega)) ?_)|(refine at_call ?_;first|refine eV Z Z (zK Z Z) ?_))|(refine at_K ?_;first|refine K_then ?_)|(refine at_E ?_;first|refine E_seq ?_|refine E_region ?_|refine E_block ?_)))
    refine E_loop (ι:=Nat × List Int × Int) (fun z=>[(0,.func (.yield l) #[] #[]),(1,.pointer (some ⟨Bl,0,none⟩)),(2,.pointer (some ⟨Bi,0,none⟩)),(8,int ((lex.length:Int)+1)),(9,int z.1)])
      (fun z wr=>z.1≤lex.length+1∧Ext w0 wr∧W.heap.size≤wr.heap.size∧Row wr Bl 35 [.slice la lex.length lc]∧Row wr Bi 3 [int z.2.2]∧z.2.1++chainI lex (lex.length+1-z.1) z.2.2=zs∧J z.2.1 wr) (fun z=>lex.length+1-z.1) (0,[],id0)
      ⟨rfl,rfl,rfl,rfl,rfl,trivial⟩ ⟨Nat.zero_le _,hxW,Nat.le_refl _,rlW,riW,by rw [hzs];rfl,h0⟩ ?_
    rintro⟨i,pre,id⟩ wr ⟨hi,hxr,hsz,rlr,rir,hch,hj⟩
    dsimp only at hi hxr hsz rlr rir hch hj ⊢
    by_cases hlt:i<lex.length+1
    · obtain⟨k,hk⟩:∃ k,lex.length+1-i=k+1:=⟨lex.length-i,by omega⟩
      rw [hk] at hch
      have cg:=hget id wr hxr
      have hrX:=hrep id
      obtain⟨e0,k0,e1,k1,e2,k2,e3,k3,e4,k4,hX,_⟩:=en_open hrX
      rw [hX] at cg
      cases hg:getE lex id with
      | none=>
        rw [hg] at cg
        rw [chainI_none hg,List.append_nil] at hch
        (repeat' (first|refine eV Z Z (val_load Z Z Z (Row.cellAt (by assumption) (by rfl))) ?_|(refine EL_call Z Z (entersF Z Z en48) cg (fun vC wC hC=>?_);obtain⟨rfl,hxC⟩:=hC)|(refine EL_var Z Z Z Z Z Z Z Z Z Z (fun bE wE xE hbE rE=>?_);replace hxC:=hxC.trans xE)|(refine at_EL ?_;first|refine eN ?_|refine eO Z Z ?_|refine eV Z Z (zA Z Z) ?_|refine eV Z Z (zB Z Z) ?_|(refine at_bin ?_;first|refine eD Z Z (zL Z Z Z) (fun hh=>?_) (fun hh=>?_))|refine eV Z Z (zC Z Z Z) ?_|refine eV Z Z (zE Z Z) ?_|refine eV Z Z (zF Z Z Z) ?_)|(refine at_K ?_;first|refine K_then ?_|refine K_then_ret ?_|refine K_then_exit ?_|refine K_in_ret ?_|refine K_in_exit ?_)|(refine at_E ?_;first|refine E_seq ?_|refine E_region ?_|refine E_cond_t Z ?_|refine E_cond_f Z ?_|refine E_block ?_|refine E_skip ?_|refine E_ret ?_|refine E_exit ?_)))
        all_goals (try (exfalso;omega))
        refine ret_00 Z (Or.inl ?_)
        rw [← hch]
        exact hJ _ _ _ hj (grown_ext hxC)
      | some e=>
        rw [hg] at cg
        obtain⟨hp1,hp2,hp3⟩:=chain_pre hch hg
        have hem:(entD lex id).main=e.main:=by unfold entD;rw [hg];rfl
        (repeat' ((fail_if_success (refine E_seq (x:=(Code.seq (Code.region 3 _ _) _)) ?_));first|refine eV Z Z (val_load Z Z Z (Row.cellAt (by assumption) (by rfl))) ?_|(refine EL_call Z Z (entersF Z Z en48) cg (fun vC wC hC=>?_);obtain⟨rfl,hxC⟩:=hC;replace rlr:=rlr.ext hxC;replace rir:=rir.ext hxC;have hsC:=hxC.size)|(refine EL_var Z Z Z Z Z Z Z Z Z Z (fun bE wE xE hbE rE=>?_);replace hxC:=hxC.trans xE;replace rlr:=rlr.ext xE;replace rir:=rir.ext xE)|(refine at_EL ?_;first|refine eN ?_|refine eV Z Z (zA Z Z) ?_|refine eV Z Z (zB Z Z) ?_|(refine at_bin ?_;first|refine eD Z Z (zL Z Z Z) (fun hh=>?_) (fun hh=>?_))|refine eV Z Z (zF Z Z Z) ?_)|(refine at_K ?_;first|refine K_then ?_|refine K_then_exit ?_|refine K_in_exit ?_)|(refine at_E ?_;first|refine E_seq ?_|refine E_region ?_|refine E_cond_t Z ?_|refine E_cond_f Z ?_|refine E_block ?_|refine E_skip ?_|refine E_exit ?_)))
        all_goals (try (exfalso;omega))
        have hjE:=hJ _ _ _ hj (grown_ext hxC)
        have hsE:W.heap.size≤wE.heap.size:=by have:=hxC.size;omega
        have hxE:Ext w0 wE:=hxr.trans hxC
        have hlE:bE≠l:=by omega
        refine E_seq ?_
        refine E_seq ?_
        refine E_yreg (m:=4) (p:=5) (by repeat first|exact noOut_body|apply noOut_then|apply noOut_block|apply noOut_rnd) rfl ?_
        dsimp only [List.take]
        (repeat' (first|refine eV Z Z (val_loadA Z Z Z (Row.at (by assumption)) (by rfl)) ?_|(refine at_EL ?_;first|refine eN ?_|refine eV Z Z (zA Z Z) ?_|refine eV Z Z (zE Z Z) ?_)))
        have hYx:=hY pre id wE hjE hp1
        dsimp only at hYx
        rw [hX] at hYx
        refine K_yield (by repeat first|exact noOut_body|apply noOut_then|apply noOut_block|apply noOut_rnd) rfl rfl rfl rfl rfl rfl hYx (fun c w' hh=>by rcases hh with⟨h,_⟩|⟨h,_⟩ <;> cases h) (fun w' hh=>by rcases hh with⟨h,_⟩|⟨h,_⟩ <;> cases h) (fun u w' hh=>?_)
        rcases hh with⟨hu,hj2,hgr⟩|⟨hu,hjx⟩
        · cases hu
          have rE2:=row_grown rE hgr hlE
          have rl2:=row_grown rlr hgr (by omega)
          have ri2:=row_grown rir hgr (by omega)
          have hx2:=ext_grown hxE hgr (by omega)
          have hs2:=hgr.size
          by_cases hm0:(entD lex id).main=0
          · have hz:=hp2 (by rw [← hem];exact hm0)
            (repeat' (first|refine eV Z Z (val_load Z Z Z (Row.cellAt (by assumption) (by rfl))) ?_|(refine at_EL ?_;first|refine eN ?_|refine eV Z Z (zA Z Z) ?_|(refine at_bin ?_;first|refine eD Z Z (zM Z Z Z) (fun hh=>?_) (fun hh=>?_))|refine eV Z Z (zD Z Z Z) ?_|refine eV Z Z (zE Z Z) ?_|refine eV Z Z (zH Z Z) ?_)|(refine at_K ?_;first|refine K_then ?_|refine K_then_ret ?_|refine K_in_ret ?_)|(refine at_E ?_;first|refine E_region ?_|refine E_cond_t Z ?_|refine E_cond_f Z ?_|refine E_skip ?_|refine E_ret ?_)))
            all_goals (try (exfalso;omega))
            refine ret_00 Z (Or.inl ?_)
            rw [← hz]
            exact hj2
          · have hz:=hp3 (by rw [← hem];exact hm0)
            (repeat' (first|refine eV Z Z (val_load Z Z Z (Row.cellAt (by assumption) (by rfl))) ?_|(refine EL_storeP (cs:=[_]) ri2 hx2 hw0 rfl rfl rfl rfl rfl rfl rfl rfl (Nat.le_refl _) (fun wU rU0 xU kU=>?_);have rl3:=row_grown rl2 kU hne;have hs3:=kU.size)|(refine at_EL ?_;first|refine eN ?_|refine eV Z Z (zA Z Z) ?_|(refine at_bin ?_;first|refine eD Z Z (zM Z Z Z) (fun hh=>?_) (fun hh=>?_)|refine eV Z Z (zU Z Z Z (by omega) (by omega)) ?_)|refine eV Z Z (zD Z Z Z) ?_|refine eV Z Z (zE Z Z) ?_|refine eV Z Z (zH Z Z) ?_)|(refine at_K ?_;first|refine K_then ?_|refine K_in ?_|refine K_then_ret ?_|refine K_in_ret ?_)|(refine at_E ?_;first|refine E_region ?_|refine E_cond_t Z ?_|refine E_cond_f Z ?_|refine E_skip ?_|refine E_ret ?_)))
            all_goals (first|(exfalso;omega)|skip)
            all_goals first
              | exact absurd (by assumption) hm0
              | exact K_rnd (i+1,pre++[id],(entD lex id).main) ⟨rfl,rfl,rfl,rfl,rfl,trivial⟩ ⟨by dsimp only;omega,xU,by omega,rl3,rU0,by rw [show lex.length+1-(i+1)=k by omega,hem];exact hz,hJ _ _ _ hj2 kU⟩ (by dsimp only;omega)
        · cases hu
          (repeat' (first|(refine at_EL ?_;first|refine eN ?_|refine eO Z Z ?_|refine eV Z Z (zA Z Z) ?_|refine eV Z Z (zC Z Z Z) ?_|refine eV Z Z (zD Z Z Z) ?_|refine eV Z Z (zE Z Z) ?_)|(refine at_K ?_;first|refine K_then ?_|refine K_then_ret ?_|refine K_in_ret ?_)|(refine at_E ?_;first|refine E_cond_t Z ?_|refine E_ret ?_)))
          all_goals (first|(exfalso;omega)|skip)
          exact ret_00 Z (Or.inr ⟨_,hp1,hjx⟩)
    · obtain rfl:i=lex.length+1:=by omega
      rw [Nat.sub_self] at hch
      (repeat' (first|(refine at_EL ?_;first|refine eN ?_|(refine at_bin ?_;first|refine eD Z Z (zL Z Z Z) (fun hh=>?_) (fun hh=>?_)))|(refine at_K ?_;first|refine K_then ?_|refine K_then_exit ?_|refine K_in_exit ?_)|(refine at_E ?_;first|refine E_seq ?_|refine E_region ?_|refine E_cond_t Z ?_|refine E_cond_f Z ?_|refine E_block ?_|refine E_skip ?_|refine E_exit ?_)))
      all_goals (try (exfalso;omega))
      refine ret_n (ret_00 Z (Or.inl ?_))
      rw [← hch]
      unfold chainI
      rw [List.append_nil]
      exact hj
  refine(callsIn_wide (n:=4)).2 (c235.mono ?_)
  rintro e W' h
  unfold Rt at h
  obtain⟨v,rfl,h⟩:=h
  exact⟨⟨v,rfl⟩,h⟩
set_option maxHeartbeats 4000000 in
set_option maxRecDepth 8000 in
theorem way218_any (id:Int) (v:Value) (w:World):Calls Tryz.prog 218 #[v,int id] w (Rt fun u w'=>∃ Bl Bi,u=.func (.func 235) #[] #[.pointer (some ⟨Bl,0,none⟩),.pointer (some ⟨Bi,0,none⟩)]∧Row w' Bl 35 v.cells.toList∧Row w' Bi 3 [int id]∧Bl≠Bi∧w.heap.size≤Bl∧w.heap.size≤Bi∧Ext w w'):=by
  refine calls_E (n:=6) (args:=[v,int id]) Tryz.func218 rfl Tryz.ntmps218 (by simp) ?_
  refine E_seq ?_
  refine E_region ?_
  refine EL_box Z Z Z Z (fun bL wL xL hbL rL=>?_)
  refine EL_box Z Z Z Z (fun bI wI xI hbI rI=>?_)
  (repeat' (first|refine eV Z Z (val_makeFunc (vs:=[.pointer (some ⟨bL,0,none⟩),.pointer (some ⟨bI,0,none⟩)]) Z Z) ?_|(refine at_EL ?_;first|refine eN ?_|refine eV Z Z (zB Z Z) ?_)|(refine at_K ?_;first|refine K_then ?_)|(refine at_E ?_;first|refine E_seq ?_|refine E_region ?_|refine E_ret ?_)))
  have h1:=rL.lt
  have h2:=xL.size
  exact ret_1 Z Z ⟨bL,bI,rfl,rL.ext xI,rI,by omega,by omega,by omega,xL.trans xI⟩
end Go.Proofs.YtjicdgejhkgpgaaGreatDoor
namespace Go.Proofs.YtjicdgejhkgpgaaGreatDoor
open Go.RowKit Go.En Go.Pv
attribute [local irreducible] E EL K Val Enters Rt Calls bodyPost Code.wp RQ
end Go.Proofs.YtjicdgejhkgpgaaGreatDoor
