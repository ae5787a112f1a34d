/-
  A literal of a slice among the operations of a region that draws its order. Walks of align: Index, Contains, Has; the order of siblings. Walks of the law: the reference's Same, Has, Equal. Walks: the reference's check of an entry. Walks: the reference's check of an entry, whole. Copies: a literal with no elements, onto which a slice is appended. Walks: the reference's copies of entries, statements, documents (printed by tools/gen_copy.py).
-/
import Derived.Test.YtjicdgejhkgpgaaGreatDoorYh
import Derived.Test.YtjicdgejhkgpgaaGreatDoorYf
set_option linter.all false
namespace Go.En
open Go.RowKit
section
variable {P : Program} {n : Nat} {Q : Post} {ops : List Oper}
theorem run_lit {L : List (Nat × Value)} {w : World} {o : Oper} {t e : TypeId} {z : Value} {size bytes len : Nat} {ps : List (Nat × Operand)} {vs cs : List Value} [UT P t (.slice e)] [TI P e z size bytes] (ho : o.op = .buildSlice t len ps.toArray)
    (hps:evs L 0 ps=some vs) (hv:vs.all (fun v=>Nat.beq v.cells.size size)=true) (hl:Nat.beq vs.length len=true) (hsm:Nat.ble (len*size) 16777216=true) (hcs:(vs.map fun v=>v.cells.toList).flatten=cs) {ρ:Operand→Value} (ha:Agree L o ρ) :
    (execOp ρ o).run P w=.ok (.value (.slice (some ⟨w.heap.size,0,none⟩) len len)) (w.alloc (.cells cs.toArray e)):=by
  have hps':=evs_eq L ps 0 vs hps
  have hp:(ps.map fun p=>(p.1,ρ p.2))=(vs.zipIdx).map fun p=>(p.2,p.1):=by
    have hx:∀ p∈ps,∀ v,ev L p.2=some v→ρ p.2=v:=fun p hm v hv=>ha.ev (by rw [ho];simp [Op.operands];exact⟨p.1,hm⟩) hv
    clear ho hps
    generalize 0=j at hps' ⊢
    clear hl hv hcs ha
    induction ps generalizing vs j with
    | nil=>cases vs with|nil=>rfl|cons _ _=>simp at hps'
    | cons p r ih=>
      cases vs with
      | nil=>simp at hps'
      | cons v vr=>
        simp only [List.map_cons,List.zipIdx_cons,List.cons.injEq,Prod.mk.injEq] at hps' ⊢
        exact⟨⟨hps'.1.1,hx p (by simp) v hps'.1.2⟩,ih (fun q hm u hu=>hx q (by simp [hm]) u hu) (j+1) hps'.2⟩
  have:=run_buildSlice (P:=P) (t:=t) (w:=w) (vs:=vs) (len:=len) (size:=size) (fun v hm=>Nat.eq_of_beq_eq_true (List.all_eq_true.1 hv v hm)) (Nat.eq_of_beq_eq_true hl) (Nat.le_of_ble_eq_true hsm)
  rw [hcs] at this
  simp only [execOp,ho,List.map_toArray,hp]
  rw [Sem.run_bind,this]
  rfl
theorem RQ_lit {w0:World} {o:Oper} {rest tl:List Oper} {G:List (Nat × Ent)} {d:Nat} {t e:TypeId} {z:Value} {size bytes len:Nat} {ps:List (Nat × Operand)} {vs cs:List Value} [UT P t (.slice e)] [TI P e z size bytes] (hg:ggst ops G o=some true) (hd:odst n o.dst=some d) (ho:o.op=.buildSlice t len ps.toArray)
    (hps:∀ δ,evs (mat δ G) 0 ps=some vs) (hv:vs.all (fun v=>Nat.beq v.cells.size size)=true) (hl:Nat.beq vs.length len=true) (hsm:Nat.ble (len*size) 16777216=true) (hcs:(vs.map fun v=>v.cells.toList).flatten=cs)
    (k:RQ P n ops w0 Q rest tl ((d,.r (fun u w=>∃ b,u=.slice (some ⟨b,0,none⟩) len len∧w0.heap.size≤b∧Row w b e cs))::G)):RQ P n ops w0 Q (o::rest) tl G:=
  RW_op (T:=.r (fun u w=>∃ b,u=.slice (some ⟨b,0,none⟩) len len∧w0.heap.size≤b∧Row w b e cs)) hg (odst_eq hd).2 (fun _ _ _ _ xe h=>by obtain⟨b,e,h1,h2⟩:=h;exact⟨b,e,h1,h2.ext xe⟩)
    (fun w δ hw _ ρ ha=>.inl ⟨_,_,run_lit ho (hps δ) hv hl hsm hcs ha,⟨w.heap.size,rfl,hw.size,by have:=row_alloc w e cs.toArray;exact this⟩,ext_alloc _ _⟩) (by rw [(odst_eq hd).1];exact k)
end
end Go.En
namespace Go.Proofs.YtjicdgejhkgpgaaGreatDoor
open Go.RowKit Go.En
attribute [local irreducible] E EL K Val Enters Rt Calls bodyPost Code.wp RQ
theorem index_any (l : List Int) (x : Int) (v : Value) (w : World) (hv : Sl w v l) : Calls Tryz.prog 81 #[v, int x] w (Rt fun u w' => (∃ z : Int, u = int z ∧ (0 ≤ z ↔ x ∈ l)) ∧ Ext w w') := by
  refine calls_E (n:=19) (args:=[v,int x]) Tryz.func81 rfl Tryz.ntmps81 (by simp) ?_
  have hv0:=hv
  obtain⟨a,cap,rfl,hc,hm,hp⟩:=hv.sl
  (repeat' (first|(refine at_EL ?_;first|refine eN ?_|refine eV Z Z (zA Z Z) ?_|refine eV Z Z (zB Z Z) ?_|(refine at_call ?_;first|refine eV Z Z (zK Z Z) ?_))|(refine at_K ?_;first|refine K_then ?_)|(refine at_E ?_;first|refine E_seq ?_|refine E_region ?_|refine E_block ?_)))
  refine E_loop (ι:=Nat) (fun i=>[(0,.slice a l.length cap),(1,int x),(7,int l.length),(8,int i)])
    (fun i wr=>i≤l.length∧Ext w wr∧∀ j,j<i→∀ y,l[j]?=some y→y≠x) (fun i=>l.length-i) 0
    ⟨rfl,rfl,rfl,rfl,trivial⟩ ⟨Nat.zero_le _,Ext.refl _,fun j hj=>by omega⟩ ?_
  rintro i wr ⟨hi,hx,hall⟩
  by_cases hlt:i<l.length
  · obtain⟨b,off,rfl⟩:=hp (by omega)
    obtain⟨y,hyl⟩:∃ y,l[i]?=some y:=⟨_,List.getElem?_eq_getElem hlt⟩
    have hcx:=int_elem (hv0.ext hx) hyl
    (repeat' (first|refine eV Z Z (val_indexAddr (m:=i) Z Z Z Z hlt) ?_|refine eV Z Z (val_load Z Z Z hcx) ?_|(refine at_EL ?_;first|refine eN ?_|refine eV Z Z (zA Z Z) ?_|refine eV Z Z (zB Z Z) ?_|(refine at_bin ?_;first|refine eD Z Z (zL Z Z Z) (fun hh=>?_) (fun hh=>?_)|refine eD Z Z (zM Z Z Z) (fun hh=>?_) (fun hh=>?_)|refine eV Z Z (zU Z Z Z (by omega) (by omega)) ?_))|(refine at_K ?_;first|refine K_then ?_|refine K_in ?_|refine K_then_ret ?_|refine K_then_exit ?_|refine K_in_ret ?_|refine K_in_exit ?_)|(refine at_E ?_;first|refine E_seq ?_|refine E_region ?_|refine E_cond_t Z ?_|refine E_cond_f Z ?_|refine E_block ?_|refine E_skip ?_|refine E_ret ?_|refine E_exit ?_)))
    all_goals (first|(exfalso;omega)|skip)
    · refine ret_1 Z Z ⟨⟨_,rfl,?_⟩,hx⟩
      have he:x=y:=‹_›
      exact⟨fun _=>he▸List.mem_of_getElem? hyl,fun _=>by omega⟩
    · exact K_rnd (i+1) ⟨rfl,rfl,rfl,rfl,trivial⟩ ⟨by omega,hx,fun j hj z hz=>by
        by_cases hj2:j<i
        · exact hall j hj2 z hz
        · obtain rfl:j=i:=by omega
          rw [hyl] at hz;cases hz
          exact fun e=>by omega⟩ (by omega)
  · (repeat' (first|(refine at_EL ?_;first|refine eN ?_|refine eV Z Z (zA Z Z) ?_|refine eV Z Z (zB Z Z) ?_|(refine at_bin ?_;first|refine eD Z Z (zL Z Z Z) (fun hh=>?_) (fun hh=>?_)))|(refine at_K ?_;first|refine K_then ?_|refine K_then_exit ?_|refine K_in_exit ?_)|(refine at_E ?_;first|refine E_seq ?_|refine E_region ?_|refine E_cond_t Z ?_|refine E_cond_f Z ?_|refine E_block ?_|refine E_skip ?_|refine E_ret ?_|refine E_exit ?_)))
    all_goals (first|(exfalso;omega)|skip)
    refine ret_1 Z Z ⟨⟨_,rfl,?_⟩,hx⟩
    constructor
    · intro h;exfalso;omega
    · intro hq
      obtain⟨j,hj⟩:=List.getElem?_of_mem hq
      have:=(List.getElem?_eq_some_iff.1 hj).1
      exact absurd rfl (hall j (by omega) x hj)
theorem contains_any (l:List Int) (x:Int) (v:Value) (w:World) (hv:Sl w v l):Calls Tryz.prog 116 #[v,int x] w (Rt fun u w'=>u=.bool (decide (x∈l))∧Ext w w'):=by
  refine calls_E (n:=9) (args:=[v,int x]) Tryz.func116 rfl Tryz.ntmps116 (by simp) ?_
  have c1:=index_any l x v w hv
  (repeat' (first|(refine EL_call Z Z (entersF Z Z en81) c1 (fun vC wC hC=>?_);obtain⟨⟨z,rfl,hz⟩,xC⟩:=hC)|(refine at_EL ?_;first|refine eN ?_|refine eV Z Z (zA Z Z) ?_|refine eV Z Z (zB Z Z) ?_|(refine at_bin ?_;first|refine eD Z Z (zP Z Z Z) (fun hh=>?_) (fun hh=>?_)))|(refine at_K ?_;first|refine K_then ?_)|(refine at_E ?_;first|refine E_seq ?_|refine E_region ?_|refine E_ret ?_)))
  all_goals exact ret_1 Z Z ⟨by congr 1;symm;first|exact decide_eq_true (hz.1 ‹_›)|exact decide_eq_false (fun e=>‹¬ _› (hz.2 e)),xC⟩
theorem has_any (l:List Int) (x:Int) (v:Value) (w:World) (hv:Sl w v l):Calls Tryz.prog 85 #[v,int x] w (Rt fun u w'=>u=.bool (decide (x∈l))∧Ext w w'):=by
  refine calls_E (n:=8) (args:=[v,int x]) Tryz.func85 rfl Tryz.ntmps85 (by simp) ?_
  have c1:=contains_any l x v w hv
  (repeat' (first|(refine EL_call Z Z (entersF Z Z en116) c1 (fun vC wC hC=>?_);obtain⟨rfl,xC⟩:=hC)|(refine at_EL ?_;first|refine eN ?_|refine eV Z Z (zA Z Z) ?_|refine eV Z Z (zB Z Z) ?_)|(refine at_K ?_;first|refine K_then ?_)|(refine at_E ?_;first|refine E_seq ?_|refine E_region ?_|refine E_ret ?_)))
  all_goals exact ret_1 Z Z ⟨rfl,xC⟩
end Go.Proofs.YtjicdgejhkgpgaaGreatDoor
namespace Go.Proofs.YtjicdgejhkgpgaaGreatDoor
open Go.RowKit Go.En
theorem same_end {α:Type} {xs ys:List α} (hl:xs.length=ys.length) (h:∀ j,j<xs.length→xs[j]?=ys[j]?):xs=ys:=List.ext_getElem? fun j=>by
  by_cases hj:j<xs.length
  · exact h j hj
  · rw [List.getElem?_eq_none (by omega),List.getElem?_eq_none (by omega)]
theorem same_no {α:Type} {xs ys:List α} {i:Nat} {x y:α} (hx:xs[i]?=some x) (hy:ys[i]?=some y) (h:¬ x=y):¬ xs=ys:=fun e=>by
  subst e;rw [hx] at hy;cases hy;exact h rfl
theorem same_nx {α:Type} {xs ys:List α} {i:Nat} {x y:α} (hx:xs[i]?=some x) (hy:ys[i]?=some y) (h:x=y) (hall:∀ j,j<i→xs[j]?=ys[j]?):∀ j,j<i+1→xs[j]?=ys[j]?:=fun j hj=>by
  by_cases hj2:j<i
  · exact hall j hj2
  · obtain rfl:j=i:=by omega
    rw [hx,hy,h]
theorem txt_elem {G:Nat→Prop} {w:World} {b off n cap:Nat} {xs:List Txt} (h:SlG G w (.slice (some ⟨b,off,none⟩) n cap) xs) {i:Nat} {x:Txt} (hx:xs[i]?=some x):w.cell? ⟨b,off+i*1,none⟩=some (str x.l):=by
  obtain⟨cs,h1,h2⟩:=h.elem hx
  rw [show cs=[str x.l] from h1] at h2
  exact h2.one
attribute [local irreducible] E EL K Val Enters Rt Calls bodyPost Code.wp RQ
theorem r1same_any (xs ys : List Int) (u v : Value) (w : World) (hu : Sl w u xs) (hv : Sl w v ys) : Calls Tryz.prog 21 #[u, v] w (Rt fun r w' => r = .bool (decide (xs = ys)) ∧ Ext w w') := by
  refine calls_E (n:=26) (args:=[u,v]) Tryz.func21 rfl Tryz.ntmps21 (by simp) ?_
  have hu0:=hu
  have hv0:=hv
  obtain⟨a,cap,rfl,hc,hm,hp⟩:=hu.sl
  obtain⟨a',cap',rfl,hc',hm',hp'⟩:=hv.sl
  by_cases hl:xs.length=ys.length
  · (repeat' (first|(refine at_EL ?_;first|refine eN ?_|refine eV Z Z (zA Z Z) ?_|refine eV Z Z (zB Z Z) ?_|(refine at_bin ?_;first|refine eD Z Z (zQ Z Z Z) (fun hh=>?_) (fun hh=>?_))|(refine at_call ?_;first|refine eV Z Z (zK Z Z) ?_))|(refine at_K ?_;first|refine K_then ?_|refine K_then_ret ?_)|(refine at_E ?_;first|refine E_seq ?_|refine E_region ?_|refine E_cond_t Z ?_|refine E_cond_f Z ?_|refine E_block ?_|refine E_skip ?_|refine E_ret ?_)))
    all_goals (first|(exfalso;omega)|skip)
    refine E_loop (ι:=Nat) (fun i=>[(0,.slice a xs.length cap),(1,.slice a' ys.length cap'),(12,int xs.length),(13,int i)])
      (fun i wr=>i≤xs.length∧Ext w wr∧∀ j,j<i→xs[j]?=ys[j]?) (fun i=>xs.length-i) 0
      ⟨rfl,rfl,rfl,rfl,trivial⟩ ⟨Nat.zero_le _,Ext.refl _,fun j hj=>by omega⟩ ?_
    rintro i wr ⟨hi,hx,hall⟩
    by_cases hlt:i<xs.length
    · obtain⟨b,off,rfl⟩:=hp (by omega)
      obtain⟨b',off',rfl⟩:=hp' (by omega)
      obtain⟨x,hxx⟩:∃ x,xs[i]?=some x:=⟨_,List.getElem?_eq_getElem hlt⟩
      obtain⟨y,hyy⟩:∃ y,ys[i]?=some y:=⟨_,List.getElem?_eq_getElem (by omega)⟩
      have hcx:=int_elem (hu0.ext hx) hxx
      have hcy:=int_elem (hv0.ext hx) hyy
      by_cases hxy:x=y
      · (repeat' (first|refine yV Z Z (fun _ _ _=>val_indexAddr (m:=i) Z Z Z Z (by omega)) ?_|refine yV Z Z (fun wq _ xq=>val_load Z Z Z (xq.cell hcx)) ?_|refine yV Z Z (fun wq _ xq=>val_load Z Z Z (xq.cell hcy)) ?_|(refine at_EL ?_;first|refine eN ?_|refine eV Z Z (zA Z Z) ?_|refine eV Z Z (zB Z Z) ?_|(refine at_bin ?_;first|refine eD Z Z (zL Z Z Z) (fun hh=>?_) (fun hh=>?_)|refine eV Z Z (zU Z Z Z (by omega) (by omega)) ?_))|(refine at_K ?_;first|refine K_then ?_|refine K_in ?_|refine K_then_ret ?_|refine K_then_exit ?_|refine K_in_ret ?_|refine K_in_exit ?_)|(refine at_E ?_;first|refine E_seq ?_|refine E_region ?_|refine E_cond_t Z ?_|refine E_cond_f Z ?_|refine E_block ?_|refine E_skip ?_|refine E_ret ?_|refine E_exit ?_|refine E_dq mixedOk (by kernel_rfl) Z ?_)|(refine at_RQ ?_;first|refine yN Z (fun wq xq=>?_)|refine yV Z Z (fun _ _ _=>zA Z Z) ?_|(refine at_binR ?_;first|refine yD Z Z (fun _ _ _=>zQ Z Z Z) (fun hh=>?_) (fun hh=>?_)))))
        all_goals (first|(exfalso;omega)|skip)
        all_goals exact K_rnd (i+1) ⟨rfl,rfl,rfl,rfl,trivial⟩ ⟨by omega,by first|exact hx.trans xq|exact hx,same_nx hxx hyy hxy hall⟩ (by omega)
      · (repeat' (first|refine yV Z Z (fun _ _ _=>val_indexAddr (m:=i) Z Z Z Z (by omega)) ?_|refine yV Z Z (fun wq _ xq=>val_load Z Z Z (xq.cell hcx)) ?_|refine yV Z Z (fun wq _ xq=>val_load Z Z Z (xq.cell hcy)) ?_|(refine at_EL ?_;first|refine eN ?_|refine eV Z Z (zA Z Z) ?_|refine eV Z Z (zB Z Z) ?_|(refine at_bin ?_;first|refine eD Z Z (zL Z Z Z) (fun hh=>?_) (fun hh=>?_)|refine eV Z Z (zU Z Z Z (by omega) (by omega)) ?_))|(refine at_K ?_;first|refine K_then ?_|refine K_in ?_|refine K_then_ret ?_|refine K_then_exit ?_|refine K_in_ret ?_|refine K_in_exit ?_)|(refine at_E ?_;first|refine E_seq ?_|refine E_region ?_|refine E_cond_t Z ?_|refine E_cond_f Z ?_|refine E_block ?_|refine E_skip ?_|refine E_ret ?_|refine E_exit ?_|refine E_dq mixedOk (by kernel_rfl) Z ?_)|(refine at_RQ ?_;first|refine yN Z (fun wq xq=>?_)|refine yV Z Z (fun _ _ _=>zA Z Z) ?_|(refine at_binR ?_;first|refine yD Z Z (fun _ _ _=>zQ Z Z Z) (fun hh=>?_) (fun hh=>?_)))))
        all_goals (first|(exfalso;omega)|skip)
        all_goals exact ret_1 Z Z ⟨by rw [decide_eq_false (same_no hxx hyy hxy)],by first|exact hx.trans xq|exact hx⟩
    · (repeat' (first|(refine at_EL ?_;first|refine eN ?_|refine eV Z Z (zA Z Z) ?_|refine eV Z Z (zB Z Z) ?_|(refine at_bin ?_;first|refine eD Z Z (zL Z Z Z) (fun hh=>?_) (fun hh=>?_)))|(refine at_K ?_;first|refine K_then ?_|refine K_then_exit ?_|refine K_in_exit ?_)|(refine at_E ?_;first|refine E_seq ?_|refine E_region ?_|refine E_cond_t Z ?_|refine E_cond_f Z ?_|refine E_block ?_|refine E_skip ?_|refine E_ret ?_|refine E_exit ?_)))
      all_goals (first|(exfalso;omega)|skip)
      exact ret_1 Z Z ⟨by rw [decide_eq_true (same_end hl fun j hj=>hall j (by omega))],hx⟩
  · (repeat' (first|(refine at_EL ?_;first|refine eN ?_|refine eV Z Z (zA Z Z) ?_|refine eV Z Z (zB Z Z) ?_|(refine at_bin ?_;first|refine eD Z Z (zQ Z Z Z) (fun hh=>?_) (fun hh=>?_))|(refine at_call ?_;first|refine eV Z Z (zK Z Z) ?_))|(refine at_K ?_;first|refine K_then ?_|refine K_then_ret ?_)|(refine at_E ?_;first|refine E_seq ?_|refine E_region ?_|refine E_cond_t Z ?_|refine E_cond_f Z ?_|refine E_block ?_|refine E_skip ?_|refine E_ret ?_)))
    all_goals (first|(exfalso;omega)|skip)
    exact ret_1 Z Z ⟨by rw [decide_eq_false (fun e=>hl (by rw [e]))],Ext.refl _⟩
theorem r1has_any (l : List Int) (x : Int) (v : Value) (w : World) (hv : Sl w v l) : Calls Tryz.prog 33 #[v, int x] w (Rt fun u w' => u = .bool (decide (x ∈ l)) ∧ Ext w w') := by
  refine calls_E (n:=18) (args:=[v,int x]) Tryz.func33 rfl Tryz.ntmps33 (by simp) ?_
  have hv0:=hv
  obtain⟨a,cap,rfl,hc,hm,hp⟩:=hv.sl
  (repeat' (first|(refine at_EL ?_;first|refine eN ?_|refine eV Z Z (zA Z Z) ?_|refine eV Z Z (zB Z Z) ?_|(refine at_call ?_;first|refine eV Z Z (zK Z Z) ?_))|(refine at_K ?_;first|refine K_then ?_)|(refine at_E ?_;first|refine E_seq ?_|refine E_region ?_|refine E_block ?_)))
  refine E_loop (ι:=Nat) (fun i=>[(0,.slice a l.length cap),(1,int x),(7,int l.length),(8,int i)])
    (fun i wr=>i≤l.length∧Ext w wr∧∀ j,j<i→∀ y,l[j]?=some y→y≠x) (fun i=>l.length-i) 0
    ⟨rfl,rfl,rfl,rfl,trivial⟩ ⟨Nat.zero_le _,Ext.refl _,fun j hj=>by omega⟩ ?_
  rintro i wr ⟨hi,hx,hall⟩
  by_cases hlt:i<l.length
  · obtain⟨b,off,rfl⟩:=hp (by omega)
    obtain⟨y,hyl⟩:∃ y,l[i]?=some y:=⟨_,List.getElem?_eq_getElem hlt⟩
    have hcx:=int_elem (hv0.ext hx) hyl
    (repeat' (first|refine eV Z Z (val_indexAddr (m:=i) Z Z Z Z hlt) ?_|refine eV Z Z (val_load Z Z Z hcx) ?_|(refine at_EL ?_;first|refine eN ?_|refine eV Z Z (zA Z Z) ?_|refine eV Z Z (zB Z Z) ?_|(refine at_bin ?_;first|refine eD Z Z (zL Z Z Z) (fun hh=>?_) (fun hh=>?_)|refine eD Z Z (zM Z Z Z) (fun hh=>?_) (fun hh=>?_)|refine eV Z Z (zU Z Z Z (by omega) (by omega)) ?_))|(refine at_K ?_;first|refine K_then ?_|refine K_in ?_|refine K_then_ret ?_|refine K_then_exit ?_|refine K_in_ret ?_|refine K_in_exit ?_)|(refine at_E ?_;first|refine E_seq ?_|refine E_region ?_|refine E_cond_t Z ?_|refine E_cond_f Z ?_|refine E_block ?_|refine E_skip ?_|refine E_ret ?_|refine E_exit ?_)))
    all_goals (first|(exfalso;omega)|skip)
    · refine ret_1 Z Z ⟨?_,hx⟩
      have he:y=x:=‹_›
      rw [decide_eq_true (he▸List.mem_of_getElem? hyl)]
    · exact K_rnd (i+1) ⟨rfl,rfl,rfl,rfl,trivial⟩ ⟨by omega,hx,fun j hj z hz=>by
        by_cases hj2:j<i
        · exact hall j hj2 z hz
        · obtain rfl:j=i:=by omega
          rw [hyl] at hz;cases hz
          exact fun e=>by omega⟩ (by omega)
  · (repeat' (first|(refine at_EL ?_;first|refine eN ?_|refine eV Z Z (zA Z Z) ?_|refine eV Z Z (zB Z Z) ?_|(refine at_bin ?_;first|refine eD Z Z (zL Z Z Z) (fun hh=>?_) (fun hh=>?_)))|(refine at_K ?_;first|refine K_then ?_|refine K_then_exit ?_|refine K_in_exit ?_)|(refine at_E ?_;first|refine E_seq ?_|refine E_region ?_|refine E_cond_t Z ?_|refine E_cond_f Z ?_|refine E_block ?_|refine E_skip ?_|refine E_ret ?_|refine E_exit ?_)))
    all_goals (first|(exfalso;omega)|skip)
    refine ret_1 Z Z ⟨?_,hx⟩
    rw [decide_eq_false fun hq=>?_]
    obtain⟨j,hj⟩:=List.getElem?_of_mem hq
    have:=(List.getElem?_eq_some_iff.1 hj).1
    exact hall j (by omega) x hj rfl
end Go.Proofs.YtjicdgejhkgpgaaGreatDoor
namespace Go.Proofs.YtjicdgejhkgpgaaGreatDoor
open Go.RowKit Go.En Go.Pv
attribute [local irreducible] E EL K Val Enters Rt Calls bodyPost Code.wp RQ
end Go.Proofs.YtjicdgejhkgpgaaGreatDoor
namespace Go.Proofs.YtjicdgejhkgpgaaGreatDoor
open Go.RowKit Go.En Go.Pv
theorem en_open {G:Nat→Prop} {w:World} {e:En} {X:List Value} (h:Rep.at_ G w e X):∃ a0 c0 a1 c1 a2 c2 a3 c3 a4 c4,X=[int e.id,.slice a0 e.form.length c0,int e.cls,.slice a1 e.alts.length c1,int e.main,.slice a2 e.senses.length c2,.slice a3 e.links.length c3,.slice a4 e.refs.length c4]∧SlG G w (.slice a0 e.form.length c0) e.form∧SlG G w (.slice a1 e.alts.length c1) e.alts∧SlG G w (.slice a2 e.senses.length c2) e.senses∧SlG G w (.slice a3 e.links.length c3) e.links∧SlG G w (.slice a4 e.refs.length c4) e.refs:=by
  obtain⟨formv,altsv,sensesv,linksv,refsv,rfl,h0,h1,h2,h3,h4⟩:=h
  obtain⟨a0,c0,rfl,_,_,_⟩:=h0.sl
  obtain⟨a1,c1,rfl,_,_,_⟩:=h1.sl
  obtain⟨a2,c2,rfl,_,_,_⟩:=h2.sl
  obtain⟨a3,c3,rfl,_,_,_⟩:=h3.sl
  obtain⟨a4,c4,rfl,_,_,_⟩:=h4.sl
  exact⟨a0,c0,a1,c1,a2,c2,a3,c3,a4,c4,rfl,h0,h1,h2,h3,h4⟩
attribute [local irreducible] E EL K Val Enters Rt Calls bodyPost Code.wp RQ
end Go.Proofs.YtjicdgejhkgpgaaGreatDoor
namespace Go.En
open Go.RowKit
class Flat (α:Type) [Rep α]:Prop where
  flat:∀(G G':Nat→Prop) (w w':World) (x:α) (cs:List Value),Rep.at_ G w x cs→Rep.at_ G' w' x cs
theorem AtsG.flat' {α:Type} [Rep α] [Flat α] {G G':Nat→Prop} {w w':World} {xs:List α} {css:List (List Value)} (h:AtsG G w xs css):AtsG G' w' xs css:=AllAt.mono (fun _ _ h=>Flat.flat _ _ _ _ _ _ h) h
instance:Flat Int:=⟨fun _ _ _ _ _ _ h=>h⟩
instance:Flat Txt:=⟨fun _ _ _ _ _ _ h=>h⟩
section
variable {P : Program} {n : Nat} {ops rest : List Oper} {Q : Post} {L : List (Nat × Value)} {w : World} {o : Oper}
theorem EL_cpy {α:Type} [Rep α] [Flat α] {d:Nat} {t e:TypeId} {s x:Operand} {z:Value} {size bytes:Nat} [ut:UT P t (.slice e)] [ti:TI P e z size bytes] {G G':Nat→Prop} {u:World} {bS m c:Nat} {a:Option Addr} {ys:List α}
    (hs:SlG G u (.slice a m c) ys) (hx0:Ext u w) (hr:Row w bS e []) (hb:u.heap.size≤bS) (hG:∀ b,u.heap.size≤b→G' b) (hg:gst ops L o=some true) (hd:odst n o.dst=some d) (ho:o.op=.call { callee:=.builtin .append,args:=#[s,x],argTypes:=#[t,t] })
    (hsv:ev L s=some (.slice (some ⟨bS,0,none⟩) 0 0)) (hx:ev L x=some (.slice a m c)) (hz:z.cells.size=size) (hsz:Nat.beq size (Rep.sz α)=true) (hmax:ys.length*bytes≤140737488355328)
    (k:∀ v' w',SlG G' w' v' ys→Ext u w'→EL P n ops Q rest ((d,v')::L) w'):EL P n ops Q (o::rest) L w:=by
  have e0:=Nat.eq_of_beq_eq_true hsz
  subst e0
  have hm:m=ys.length:=by obtain⟨_,_,e,_,_,_⟩:=hs.sl;cases e;rfl
  subst hm
  obtain⟨css,s1,s2⟩:=hs.css
  have hl:=AtsG.flat s1
  have hle:ys.length≤140737488355328:=by obtain⟨_,_,_,_,h,_⟩:=hs.sl;exact h
  have hp:0<Rep.sz α:=Rep.pos
  refine EL_appO (w0:=u) (news:=css.flatten) (q:=ys.length) (c:=c) (own_row (n:=0) (size:=Rep.sz α) hr (by simp) hb (by omega)) hx0 (fun h0=>?_) hg hd ho hsv hx hl (AtsG.ones s1) hz (Nat.ble_eq_true_of_le hp) (by simpa using hmax) (by omega) (fun vJ wJ oJ xJ kJ hJ=>?_)
  · obtain⟨b,so,e,_,hat⟩:=s2 (by rw [hl];exact Nat.mul_pos h0 hp)
    exact⟨b,so,e,hat.ext hx0⟩
  · exact k vJ wJ (own_SlG (B:=u.heap.size) (css:=css) (by simpa using oJ) (AtsG.flat' s1) hG rfl hle) xJ
end
def Gq (Gx:Nat→Prop) (ov:Value):Nat→Prop:=fun b=>Gx b∧Nb ov b
def Grow {α:Type} [Rep α] (Gx:Nat→Prop) (u0:World) (e:TypeId) (xs:List α) (ov:Value) (w:World):Prop:=
  Ext u0 w∧∃ css,w.ownsRow u0.heap.size e (Rep.sz α) ov xs.length css.flatten∧AtsG (Gq Gx ov) w xs css
section
variable {α : Type} [Rep α] {Gx : Nat → Prop} {u0 w w' : World} {e : TypeId} {xs : List α} {ov : Value}
theorem Grow.nil {b:Nat} (hr:Row w b e []) (x:Ext u0 w) (hb:u0.heap.size≤b):Grow (α:=α) Gx u0 e [] (.slice (some ⟨b,0,none⟩) 0 0) w:=
  ⟨x,[],own_row (n:=0) (size:=Rep.sz α) hr (by simp) hb (by omega),trivial⟩
theorem Grow.none:Grow (α:=α) Gx w e [] (.slice none 0 0) w:=⟨Ext.refl _,[],⟨by simp,.inl ⟨rfl,rfl⟩⟩,trivial⟩
theorem Grow.x (h:Grow Gx u0 e xs ov w):Ext u0 w:=h.1
theorem Grow.ext (h:Grow Gx u0 e xs ov w) (x:Ext w w'):Grow Gx u0 e xs ov w':=by
  obtain⟨h1,css,h2,h3⟩:=h
  exact⟨h1.trans x,css,own_ext h2 x,AtsG.ext h3 x⟩
theorem Grow.nbn (h:Grow Gx u0 e xs ov w) {b:Nat} (hb:w.heap.size≤b):Nb ov b:=fun e'=>by
  obtain⟨_,css,h2,_⟩:=h
  have:=(h2.lt b e'.symm).2;omega
theorem Grow.sl (h:Grow Gx u0 e xs ov w) (hg:∀ b,u0.heap.size≤b→Gx b) (hm:xs.length≤140737488355328):SlG Gx w ov xs:=by
  obtain⟨h1,css,h2,h3⟩:=h
  exact own_SlG h2 (AtsG.wk h3 fun b hb=>hb.1) hg rfl hm
theorem EL_push {P:Program} {n:Nat} {ops rest:List Oper} {Q:Post} {L:List (Nat × Value)} {o:Oper} {d bS:Nat} {t:TypeId} {s y:Operand} {z:Value} {size bytes:Nat} {x:α} {X:List Value} [ut:UT P t (.slice e)] [ti:TI P e z size bytes]
    (h:Grow Gx u0 e xs ov w) (hr:Row w bS e X) (hx:Rep.at_ (Gq Gx ov) w x X) (hg:gst ops L o=some true) (hd:odst n o.dst=some d) (ho:o.op=.call { callee:=.builtin .append,args:=#[s,y],argTypes:=#[t,t] })
    (hsv:ev L s=some ov) (hy:ev L y=some (.slice (some ⟨bS,0,none⟩) 1 1)) (hz:z.cells.size=size) (hsz:Nat.beq size (Rep.sz α)=true) (hmax:(xs.length+1)*bytes≤140737488355328) (hmax':xs.length+1≤140737488355328)
    (k:∀ v' w',Grow Gx u0 e (xs++[x]) v' w'→EL P n ops Q rest ((d,v')::L) w'):EL P n ops Q (o::rest) L w:=by
  have e0:=Nat.eq_of_beq_eq_true hsz
  subst e0
  obtain⟨h1,css,h2,h3⟩:=h
  have hp:0<Rep.sz α:=Rep.pos
  have hl:X.length=Rep.sz α:=Rep.len hx
  refine EL_appO (w0:=u0) (news:=X) (q:=1) (c:=1) h2 h1 (fun _=>⟨bS,0,rfl,hr.at⟩) hg hd ho hsv hy (by simp [hl]) (Rep.one hx) hz (Nat.ble_eq_true_of_le hp) hmax (by omega) (fun vJ wJ oJ xJ kJ hJ=>?_)
  have mv:∀ b,Gq Gx ov b→b<w.heap.size→Gq Gx vJ b∧wJ.heap[b]?=w.heap[b]?:=fun b hb hlt=>⟨⟨hb.1,(Nb.mv kJ hJ b hb.2 hlt).1⟩,(Nb.mv kJ hJ b hb.2 hlt).2⟩
  refine k vJ wJ ⟨xJ,css++[X],?_,AllAt.append (AtsG.move h3 mv) (AllAt.one (Rep.move hx mv))⟩
  rw [List.flatten_append,List.length_append]
  simpa using oJ
end
end Go.En
namespace Go.Proofs.YtjicdgejhkgpgaaGreatDoor
open Go.RowKit Go.En Go.Pv
instance:Flat Sns:=⟨fun _ _ _ _ _ _ h=>h⟩
instance:Flat Lnk:=⟨fun _ _ _ _ _ _ h=>h⟩
instance:Flat Rf:=⟨fun _ _ _ _ _ _ h=>h⟩
instance:Flat Ph:=⟨fun _ _ _ _ _ _ h=>h⟩
instance:Flat Cls:=⟨fun _ _ _ _ _ _ h=>h⟩
instance:Flat Stp:=⟨fun _ _ _ _ _ _ h=>h⟩
def Gn (B bB bA:Nat):Nat→Prop:=fun b=>B≤b∧b≠bB∧b≠bA
attribute [local irreducible] E EL K Val Enters Rt Calls bodyPost Code.wp RQ
end Go.Proofs.YtjicdgejhkgpgaaGreatDoor
