/-
  Walks of align: the reference's Chain. Walks of align: the program's Chain. A region that draws its order, reads two structs and defines two variables of them in memory ('p, q := x[i], y[i]'): in every order. A region that draws its order and makes a variable of its own ('y := f(x)' where y's address is taken).
-/
import Derived.Test.YtjicdgejhkgpgaaGreatDoorYg
import Derived.Test.YtjicdgejhkgpgaaGreatDoorYb
set_option linter.all false
namespace Go.Proofs.YtjicdgejhkgpgaaGreatDoor
open Go.RowKit Go.En
def curN (ns:List Note) (id:Int):Note:=(getF ns id).getD zeroN
theorem getR_cur (ns:List Note) (id:Int):getR ns id=.tuple #[.agg (noteC (curN ns id)).toArray,.bool (getF ns id).isSome]:=by
  unfold getR curN
  cases getF ns id <;> rfl
attribute [local irreducible] E EL K Val Enters Rt Calls bodyPost Code.wp RQ
set_option maxRecDepth 8000 in
set_option maxHeartbeats 4000000 in
theorem refchain_any {d : Dc} (h : LightD d) (v : Value) (id : Int) (w : World) (hv : DcAt w v d) : Calls Tryz.prog 109 #[v, int id] w (Rt fun u w' => Ext w w' ∧ Sl w' u ((chainF d id).map (·.id))) := by
  have hd0:=hv
  have hT:=h.ntiers
  obtain⟨sv,tv,nv,rfl,hs,htv,hnv⟩:=hv
  refine calls_E (n:=38) (args:=[.agg #[int d.rid,str d.rname,int d.len,int d.day,sv,tv,nv],int id]) Tryz.func109 rfl Tryz.ntmps109 (by simp) ?_
  have htv0:=htv
  obtain⟨a,cap,rfl,hc,hm,hp⟩:=htv.sl
  refine E_seq ?_
  refine E_region ?_
  refine EL_box Z Z Z Z (fun bD wD xD hbD rD0=>?_)
  have rD1:Row wD bD 72 [int d.rid,str d.rname,int d.len,int d.day,sv,.slice a d.tiers.length cap,nv]:=rD0
  clear rD0
  have cg1:=get_any d _ id wD (hd0.ext xD)
  rw [getR_cur] at cg1
  (repeat' (first|refine eV Z Z (val_loadA Z Z Z rD1.at rfl) ?_|(refine at_EL ?_;first|refine eN ?_|refine eV Z Z (zA Z Z) ?_|refine eV Z Z (zB Z Z) ?_)|(refine at_K ?_;first|refine K_then ?_)|(refine at_E ?_;first|refine E_seq ?_|refine E_region ?_)))
  (repeat' (first|(refine EL_call Z Z (entersF Z Z en52) cg1 (fun vC wC hC=>?_);obtain⟨rfl,xC⟩:=hC)|(refine at_EL ?_;first|refine eV Z Z (zA Z Z) ?_|refine eV Z Z (zF Z Z Z) ?_)))
  refine EL_alloc Z Z Z (fun bP wP xP hbP rP0=>?_)
  refine EL_storeP (cs:=noteC (curN d.notes id)) rP0 xP (by omega) Z Z Z Z Z Z Z Z (Nat.le_refl _) (fun w3 rP1 x3 k3=>?_)
  have rP:Row w3 bP 80 (noteC (curN d.notes id)):=rP1
  have rD:=rD1.ext (xC.trans x3)
  have hX:=xD.trans (xC.trans x3)
  have hbP3:bP<w3.heap.size:=rP.lt
  clear rP0 rP1 k3 cg1
  (repeat' (first|(refine at_EL ?_;first|refine eN ?_|refine eV Z Z (zB Z Z) ?_)|(refine at_K ?_;first|refine K_then ?_)|(refine at_E ?_;first|refine E_seq ?_|refine E_region ?_|refine E_block ?_)))
  refine E_loop (ι:=Nat × Value × List Int × Int) (fun s=>[(2,.pointer (some ⟨bD,0,none⟩)),(5,s.2.1),(6,.pointer (some ⟨bP,0,none⟩)),(7,.bool (getF d.notes s.2.2.2).isSome),(8,int s.1)])
    (fun s wr=>s.1≤d.tiers.length+1∧Ext wC wr∧wr.ownsRow (bP+1) 3 1 s.2.1 s.2.2.1.length (s.2.2.1.map int)∧s.2.2.1.length=s.1∧Row wr bP 80 (noteC (curN d.notes s.2.2.2))∧s.2.2.1++(chainN d.notes (d.tiers.length+1-s.1) s.2.2.2).map (·.id)=(chainF d id).map (·.id)) (fun s=>d.tiers.length+1-s.1) (0,.slice none 0 0,[],id)
    ⟨rfl,rfl,rfl,rfl,rfl,trivial⟩ ⟨Nat.zero_le _,x3,World.ownsRow_nil _ _ _ _,rfl,rP,rfl⟩ ?_
  rintro⟨i,vO,acc,q⟩ wr ⟨hi,hx,hown,hal,rPr,hcat⟩
  dsimp only at hi hx hown hal rPr hcat ⊢
  have rDr:=(rD1.ext xC).ext hx
  have hret:∀ w',Ext wr w'→Sl w' vO acc:=fun w' xx=>own_Sl (css:=acc.map fun z=>[int z]) (by rw [ints_flat];exact own_ext hown xx) (ints_ats _ _) (by simp) (by omega)
  by_cases hlt:i≤d.tiers.length
  · cases hg:getF d.notes q with
    | none=>
      have he:acc=(chainF d id).map (·.id):=by
        rw [← hcat,show d.tiers.length+1-i=(d.tiers.length-i)+1 by omega]
        simp [chainN,hg]
      (repeat' (first|refine eV Z Z (val_load Z Z Z (rDr.cellAt rfl)) ?_|(refine at_EL ?_;first|refine eN ?_|refine eO Z Z ?_|refine eV Z Z (zA Z Z) ?_|refine eV Z Z (zB Z Z) ?_|(refine at_bin ?_;first|refine eD Z Z (zN Z Z Z) (fun hh=>?_) (fun hh=>?_))|(refine at_call ?_;first|refine eV Z Z (zK Z Z) ?_)|refine eV Z Z (zC Z Z Z) ?_|refine eV Z Z (zD Z Z Z) ?_|refine eV Z Z (zH Z Z) ?_)|(refine at_K ?_;first|refine K_then ?_|refine K_then_exit ?_|refine K_in_exit ?_)|(refine at_E ?_;first|refine E_seq ?_|refine E_region ?_|refine E_cond_f Z ?_|refine E_ret ?_|refine E_exit ?_)))
      all_goals (first|(exfalso;omega)|skip)
      all_goals exact ret_1 Z Z ⟨xD.trans (xC.trans hx),he▸hret wr (Ext.refl _)⟩
    | some p=>
      have hcp:curN d.notes q=p:=by unfold curN;rw [hg];rfl
      rw [hcp] at rPr
      have hlt0:∀ bb,vO.ownBlock=some bb→bP+1≤bb:=fun bb e=>(hown.lt bb e).1
      have hsz:bP<wr.heap.size:=rPr.lt
      (repeat' (first|refine eV Z Z (val_load Z Z Z (rDr.cellAt rfl)) ?_|refine eV Z Z (val_load Z Z Z (rPr.cellAt rfl)) ?_|(refine EL_append (news:=[int p.id]) Z Z Z Z (own_ext hown xS) Z rS.at rfl rfl rfl (by omega) (by omega) (by omega) (by have:=xS.size;omega) (fun vJ wJ oJ kJ=>?_))|(refine at_EL ?_;first|refine eN ?_|refine eO Z Z ?_|refine eV Z Z (zA Z Z) ?_|refine eV Z Z (zB Z Z) ?_|(refine at_bin ?_;first|refine eD Z Z (zN Z Z Z) (fun hh=>?_) (fun hh=>?_))|(refine at_call ?_;first|refine eV Z Z (zK Z Z) ?_)|refine eV Z Z (zC Z Z Z) ?_|refine eV Z Z (zD Z Z Z) ?_|refine eV Z Z (zH Z Z) ?_|refine eL Z Z Z Z Z Z Z Z (fun bS wS xS hbS rS=>?_))|(refine at_K ?_;first|refine K_then ?_|refine K_then_exit ?_|refine K_in_exit ?_)|(refine at_E ?_;first|refine E_seq ?_|refine E_region ?_|refine E_cond_t Z ?_|refine E_cond_f Z ?_|refine E_block ?_|refine E_skip ?_|refine E_ret ?_|refine E_exit ?_)))
      all_goals (first|(exfalso;omega)|skip)
      have rPJ:=kJ.row (rPr.ext xS) (fun e=>by have:=hlt0 _ e.symm;omega)
      have xJ:Ext wC wJ:=kJ.ext (hx.trans xS) (fun bb e=>by have:=hlt0 _ e;omega)
      have rDJ:=(rD1.ext xC).ext xJ
      (repeat' (first|refine eV Z Z (val_loadA Z Z Z rDJ.at rfl) ?_|refine eV Z Z (val_load Z Z Z (rPJ.cellAt rfl)) ?_|(refine at_EL ?_;first|refine eV Z Z (zH Z Z) ?_)))
      have cg2:=get_any d _ p.parent wJ (hd0.ext (xD.trans (xC.trans xJ)))
      rw [getR_cur] at cg2
      (repeat' (first|(refine EL_call Z Z (entersF Z Z en52) cg2 (fun vC wC2 hC=>?_);obtain⟨rfl,xC2⟩:=hC)|(refine at_EL ?_;first|refine eV Z Z (zA Z Z) ?_|refine eV Z Z (zF Z Z Z) ?_)))
      refine EL_storeP (cs:=noteC (curN d.notes p.parent)) (rPJ.ext xC2) (xJ.trans xC2) (by omega) Z Z Z Z Z Z Z Z (Nat.le_refl _) (fun w5 rP5 x5 k5=>?_)
      have rP5':Row w5 bP 80 (noteC (curN d.notes p.parent)):=rP5
      clear rP5
      have o5:=(own_ext oJ xC2).kept k5 (Or.inr fun e=>by have:=(oJ.lt bP e).1;omega)
      (repeat' (first|(refine at_EL ?_;first|refine eN ?_|refine eV Z Z (zA Z Z) ?_|refine eV Z Z (zB Z Z) ?_|(refine at_bin ?_;first|refine eV Z Z (zU Z Z Z (by omega) (by omega)) ?_))|(refine at_K ?_;first|refine K_then ?_|refine K_in ?_)|(refine at_E ?_;first|refine E_region ?_)))
      refine K_rnd (i+1,vJ,acc++[p.id],p.parent) ⟨rfl,rfl,rfl,rfl,rfl,trivial⟩ ⟨by dsimp only;omega,x5,by dsimp only;simpa using o5,by simp [hal],rP5',?_⟩ (by dsimp only;omega)
      dsimp only
      rw [← hcat,show d.tiers.length+1-i=(d.tiers.length-i)+1 by omega,show d.tiers.length+1-(i+1)=d.tiers.length-i by omega]
      simp [chainN,hg]
  · have he:acc=(chainF d id).map (·.id):=by
      rw [← hcat,show d.tiers.length+1-i=0 by omega]
      simp [chainN]
    (repeat' (first|refine eV Z Z (val_load Z Z Z (rDr.cellAt rfl)) ?_|(refine at_EL ?_;first|refine eN ?_|refine eO Z Z ?_|refine eV Z Z (zA Z Z) ?_|refine eV Z Z (zB Z Z) ?_|(refine at_bin ?_;first|refine eD Z Z (zN Z Z Z) (fun hh=>?_) (fun hh=>?_))|(refine at_call ?_;first|refine eV Z Z (zK Z Z) ?_)|refine eV Z Z (zC Z Z Z) ?_|refine eV Z Z (zD Z Z Z) ?_|refine eV Z Z (zH Z Z) ?_)|(refine at_K ?_;first|refine K_then ?_|refine K_then_exit ?_|refine K_in_exit ?_)|(refine at_E ?_;first|refine E_seq ?_|refine E_region ?_|refine E_cond_f Z ?_|refine E_ret ?_|refine E_exit ?_)))
    all_goals (first|(exfalso;omega)|skip)
    all_goals exact ret_1 Z Z ⟨xD.trans (xC.trans hx),he▸hret wr (Ext.refl _)⟩
end Go.Proofs.YtjicdgejhkgpgaaGreatDoor
namespace Go.Proofs.YtjicdgejhkgpgaaGreatDoor
open Go.RowKit Go.En
attribute [local irreducible] E EL K Val Enters Rt Calls bodyPost Code.wp RQ
end Go.Proofs.YtjicdgejhkgpgaaGreatDoor
namespace Go.En
open Go.RowKit
section
variable {P : Program} {n : Nat} {Q : Post} {ops : List Oper}
theorem any_J (J:(Nat→Prop)→Act→World→Prop) (hlow:chkLow ops=true) (hgd:∀ o∈ops,o.guard=none)
    (hstep:∀ C C' a w i o,J C a w→Clo ops C→¬ C i→ops[i]?=some o→(∀ e∈o.after,Region.binds .any e=true→C e.on)→(∀ j,C' j↔j=i∨C j)→∀ K Q',(∀ v w',J C' (a.put o.dst v) w'→K (a.put o.dst v) w')→o.wp P a w K Q')
    (hend:∀ C a w,(∀ j,j<ops.length→C j)→J C a w→Q .normal a w) :
    ∀(fuel:Nat) (listed:Array Bool) (a:Act) (w:World),listed.size=ops.length→Clo ops (LsD listed)→J (LsD listed) a w→unl ops.length listed=fuel→wpAny P .any ops.toArray Q fuel listed a w:=by
  have hleast:∀(listed:Array Bool),listed.size=ops.length→(¬ ∀ j,j<ops.length→LsD listed j)→∃ i,i<ops.length∧i∈Region.ready .any ops.toArray listed:=by
    intro listed hl hn
    have:∃ i,i<ops.length∧¬ LsD listed i:=by
      apply Classical.byContradiction
      intro h
      exact hn fun j hj=>Classical.byContradiction fun hj'=>h ⟨j,hj,hj'⟩
    obtain⟨i,h1,h2,h3⟩:=least_not (fun i=>by unfold LsD;infer_instance) ops.length this
    exact⟨i,h1,(ready_mem hl).2 ⟨h2,_,List.getElem?_eq_getElem h1,fun e he hb=>h3 _ (chkLow_ok hlow (List.getElem?_eq_getElem h1) he hb)⟩⟩
  intro fuel
  induction fuel with
  | zero=>
    intro listed a w hl hc hj hu
    have hall:∀ j,j<ops.length→LsD listed j:=by
      intro j hj
      apply Classical.byContradiction
      intro hn
      have:=unl_set (N:=ops.length) hj hl hn
      omega
    refine⟨?_,hend _ a w hall hj⟩
    rw [List.eq_nil_iff_forall_not_mem]
    intro i hi
    obtain⟨h1,o,ho,_⟩:=(ready_mem hl).1 hi
    exact h1 (hall i (List.getElem?_eq_some_iff.1 ho).1)
  | succ fuel ih=>
    intro listed a w hl hc hj hu
    refine⟨fun h0=>?_,fun i hi=>?_⟩
    · refine hend _ a w (Classical.byContradiction fun hn=>?_) hj
      obtain⟨i,_,hi⟩:=hleast listed hl hn
      rw [h0] at hi;cases hi
    obtain⟨hun,o,ho,hed⟩:=(ready_mem hl).1 hi
    have hilt:=(List.getElem?_eq_some_iff.1 ho).1
    have hoa:ops.toArray[i]?=some o:=by simpa using ho
    have hset:∀ j,LsD (listed.setIfInBounds i true) j↔(j=i∨LsD listed j):=fun j=>by
      unfold LsD
      by_cases hij:i=j
      · subst hij;simp [hl,hilt]
      · rw [getD_set_ne false hij];constructor
        · exact .inr
        · rintro(h|h)
          · exact absurd h.symm hij
          · exact h
    unfold wpOp
    simp only [hoa]
    have hw:Region.wanted o (yielded ops.toArray a.tmps)=true:=by unfold Region.wanted;rw [hgd o (List.mem_of_getElem? ho)]
    rw [if_pos hw]
    refine .inl (hstep _ _ a w i o hj hc hun ho (fun e he hb=>hed e he hb) hset _ _ fun v w' hv=>?_)
    refine ih _ _ _ (by simpa using hl) ?_ hv ?_
    · intro k q hq hk e he hb
      rw [hset] at hk ⊢
      rcases hk with rfl|hk
      · rw [ho] at hq;cases hq;exact .inr (hed e he hb)
      · exact .inr (hc k q hq hk e he hb)
    · have:=unl_set (N:=ops.length) hilt hl hun
      omega
theorem ev_of {L:List (Nat × Value)} {a:Act} {x:Operand} {v:Value} (h:∀ s u,x=.tmp s→lk L s=some u→a.tmps[s]?=some u) (hx:ev L x=some v):a.eval x=v:=by
  cases x with
  | tmp t=>simp only [En.ev] at hx;have:=h t v rfl hx;simp [Act.eval,Array.getD_eq_getD_getElem?,this]
  | const u=>simpa [En.ev,Act.eval] using hx
  | global g=>simpa [En.ev,Act.eval] using hx
  | func f=>simpa [En.ev,Act.eval] using hx
theorem lk_append {L M:List (Nat × Value)} {s:Nat} {v:Value} (h:lk (L++M) s=some v):lk L s=some v∨lk M s=some v:=by
  induction L with
  | nil=>exact .inr h
  | cons x r ih=>
    obtain⟨k,u⟩:=x
    simp only [List.cons_append,lk] at h ⊢
    cases hb:Nat.beq k s with
    | true=>rw [hb] at h;simp at h ⊢;exact .inl h
    | false=>rw [hb] at h;simp at h ⊢;exact ih h
theorem lk_get {L:List (Nat × Value)} {s:Nat} {v:Value} (h:lk L s=some v):∃ j:Nat,L[j]?=some (s,v):=by
  induction L with
  | nil=>simp [lk] at h
  | cons x r ih=>
    obtain⟨k,u⟩:=x
    simp only [lk] at h
    cases hb:Nat.beq k s with
    | true=>
      rw [hb] at h;simp at h
      have:=Nat.eq_of_beq_eq_true hb
      subst this;subst h
      exact⟨0,rfl⟩
    | false=>
      rw [hb] at h;simp at h
      obtain⟨j,hj⟩:=ih h
      exact⟨j+1,by simpa using hj⟩
def VSeq (P:Program) (L:List (Nat × Value)) (w0:World):List Oper→List (Nat × Value)→Prop
  | o::r,x::xs=>(∀ w,Ext w0 w→Val P L w o x.2)∧VSeq P L w0 r xs
  | _,[]=>True
  | [],_::_=>False
theorem VSeq.get {L:List (Nat × Value)} {w0:World}:∀ {l:List Oper} {xs:List (Nat × Value)},VSeq P L w0 l xs→∀ {i:Nat} {x:Nat × Value} {o:Oper},xs[i]?=some x→l[i]?=some o→∀ w,Ext w0 w→Val P L w o x.2
  | _::_,_::_,h,0,_,_,hx,ho=>by simp at hx ho;subst hx;subst ho;exact h.1
  | _::_,_::_,h,i+1,_,_,hx,ho=>VSeq.get h.2 (by simpa using hx) (by simpa using ho)
  | _,[],_,_,_,_,hx,_=>by simp at hx
  | [],_::_,h,_,_,_,_,_=>h.elim
structure JP (n:Nat) (L0 Lr:List (Nat × Value)) (w0:World) (m p q:Nat) (t:TypeId) (Zc X Y:List Value) (C:Nat→Prop) (a:Act) (w:World):Prop where
  size:a.tmps.size=n
  nod:a.defers=[]
  ext:Ext w0 w
  base:∀ s v,lk L0 s=some v→a.tmps[s]?=some v
  reads:∀ j s v,C j→Lr[j]?=some (s,v)→a.tmps[s]?=some v
  hp:C m→∃ b,a.tmps[p]?=some (.pointer (some ⟨b,0,none⟩))∧w0.heap.size≤b∧(C (m+2)→Row w b t X)∧(¬ C (m+2)→Row w b t Zc)
  hq:C (m+1)→∃ b,a.tmps[q]?=some (.pointer (some ⟨b,0,none⟩))∧w0.heap.size≤b∧(C (m+3)→Row w b t Y)∧(¬ C (m+3)→Row w b t Zc)
  ne:C m→C (m+1)→a.tmps[p]?≠a.tmps[q]?
theorem put_ne {a:Act} {d:Option Tmp} {v:Value} {s:Nat} (h:d≠some s):(a.put d v).tmps[s]?=a.tmps[s]?:=by
  cases d with
  | none=>rfl
  | some d=>exact Array.getElem?_setIfInBounds_ne (fun e=>h (by rw [e]))
theorem put_eq {a:Act} {d:Nat} {v:Value} (h:d<a.tmps.size):(a.put (some d) v).tmps[d]?=some v:=by
  simp only [Act.put];exact Array.getElem?_setIfInBounds_self_of_lt h
theorem put_size {a:Act} {d:Option Tmp} {v:Value}:(a.put d v).tmps.size=a.tmps.size:=by cases d <;> simp [Act.put]
theorem put_nod {a:Act} {d:Option Tmp} {v:Value}:(a.put d v).defers=a.defers:=by cases d <;> rfl
theorem run_alloc {t:TypeId} {z:Value} {size bytes:Nat} [TI P t z size bytes] {o:Oper} (ho:o.op=.alloc t) (ρ:Operand→Value) (w:World):(execOp ρ o).run P w=.ok (.value (.pointer (some ⟨w.heap.size,0,none⟩))) (w.alloc (.cells z.cells t)):=by
  obtain⟨i,hi,hz,_⟩:=run_ti (P:=P) (t:=t) w
  simp [execOp,ho,Instr.alloc,newVar,newRow,newObj,zeroValue,go_sem,hi,hz]
  rfl
theorem run_storeA {t:TypeId} {z:Value} {size bytes:Nat} [TI P t z size bytes] {o:Oper} {x y:Operand} {b:Nat} {cs X:List Value} (ho:o.op=.store t x y) {ρ:Operand→Value} {w:World} (hx:ρ x=.pointer (some ⟨b,0,none⟩)) (hy:ρ y=.agg X.toArray)
    (hX:X.length=size) (h1:X.all Value.oneCell'=true) (hr:Row w b t cs) (hl:cs.length=size):∃ w',(execOp ρ o).run P w=.ok .skip w'∧Row w' b t X∧Kb (some b) w w'∧w'.heap.size=w.heap.size:=by
  have h:=run_storeCells_at (P:=P) b 0 t X 0 cs.toArray w hr (by simp [hX,hl]) (fun u hu=>List.all_eq_true.1 h1 u hu)
  simp only [Nat.add_zero,Nat.zero_add] at h
  have h4:=run_sizeOf (P:=P) (t:=t) w
  refine⟨w.setRow b (cs.take 0++X++cs.drop X.length).toArray,?_,?_,⟨rfl,rfl,rfl,by simp,fun k hk hne=>setRow_other w b k _ (fun e=>hne (by rw [e]))⟩,by simp⟩
  · simp only [execOp,ho,hx,hy,Instr.storeAt,Instr.sureAddr,storeVar,Sem.run_bind,Sem.run_pure,Result.andThen_ok,h4,Value.cells]
    rw [if_neg (by simp [hX])]
    simp only [h,Result.andThen_ok]
  · have e:(cs.take 0++X++cs.drop X.length)=X:=by rw [List.take_zero,List.nil_append,List.drop_eq_nil_of_le (by omega),List.append_nil]
    rw [e]
    exact setRow_heap w b cs.toArray X.toArray t (0,0) hr
def chkFwd (ops:List Oper):Bool:=ops.zipIdx.all fun p=>(p.1.looksAt ops.toArray).all fun s=>ops.zipIdx.all fun q=>match q.1.dst with|some d=>!(Nat.beq d s)||Nat.blt q.2 p.2|none=>true
theorem chkFwd_ok {ops:List Oper} (h:chkFwd ops=true) {i j:Nat} {o q:Oper} (ho:ops[i]?=some o) (hq:ops[j]?=some q) {s:Nat} (hs:s∈o.looksAt ops.toArray) (hd:q.dst=some s):j<i:=by
  have h1:=List.all_eq_true.1 h _ (zip_mem ho)
  have h2:=List.all_eq_true.1 h1 s hs
  have h3:=List.all_eq_true.1 h2 _ (zip_mem hq)
  simp only [hd,Nat.beq_refl,Bool.not_true,Bool.false_or] at h3
  exact Nat.le_of_ble_eq_true h3
theorem E_pair {id:Nat} {L0 Lr:List (Nat × Value)} {w0:World} {m p q sx sy:Nat} {t:TypeId} {z:Value} {size bytes:Nat} {X Y:List Value} [TI P t z size bytes]
    (hm:P.follows .mixedOrders=true) (hc:(chkLow ops&&chkReads ops ops.length&&chkDst ops ops.length&&chkFwd ops)=true) (hlen:ops.length=m+4) (hgd:ops.all (fun o=>o.guard.isNone)=true)
    (hLr:(ops.take m).map (·.dst)=Lr.map fun x=>some x.1) (h0:ops[m]?.map (fun o=>(o.op,o.dst))=some (.alloc t,some p)) (h1:ops[m+1]?.map (fun o=>(o.op,o.dst))=some (.alloc t,some q))
    (h2:ops[m+2]?.map (fun o=>(o.op,o.dst))=some (.store t (.tmp p) (.tmp sx),none)) (h3:ops[m+3]?.map (fun o=>(o.op,o.dst))=some (.store t (.tmp q) (.tmp sy),none))
    (hds:ops.all (fun o=>okd n o.dst)=true) (hdis:ops.all (fun o=>match o.dst with|some d=>L0.all (fun x=>!(Nat.beq x.1 d))|none=>true)=true)
    (hX:lk Lr sx=some (.agg X.toArray)) (hY:lk Lr sy=some (.agg Y.toArray)) (hXs:X.length=size) (hYs:Y.length=size) (hX1:X.all Value.oneCell'=true) (hY1:Y.all Value.oneCell'=true) (hz:z.cells.size=size)
    (hV:VSeq P (L0++Lr) w0 ops Lr)
    (k:∀ b c w,Ext w0 w→w0.heap.size≤b→w0.heap.size≤c→b≠c→Row w b t X→Row w c t Y→K n Q .normal ((p,.pointer (some ⟨b,0,none⟩))::(q,.pointer (some ⟨c,0,none⟩))::L0) w):E P n (.region id ops.toArray true) Q L0 w0:=by
  intro a ha
  simp only [Bool.and_eq_true] at hc
  obtain⟨⟨⟨hlow,hreads⟩,hdst⟩,hfwd⟩:=hc
  have hrl:Lr.length=m:=by
    have:=congrArg List.length hLr
    simp at this;omega
  have op_of:∀ {i:Nat} {x:Op × Option Tmp},ops[i]?.map (fun o=>(o.op,o.dst))=some x→∀ {o},ops[i]?=some o→o.op=x.1∧o.dst=x.2:=fun {i x} hx {o} ho=>by
    rw [ho] at hx;simp at hx;rw [← hx];exact⟨rfl,rfl⟩
  have rd_dst:∀ {j:Nat} {s:Nat} {v:Value},Lr[j]?=some (s,v)→∃ o,ops[j]?=some o∧o.dst=some s:=fun {j s v} hj=>by
    have hjl:=(List.getElem?_eq_some_iff.1 hj).1
    have e:=congrArg (·[j]?) hLr
    simp only [List.getElem?_map,hj,Option.map_some] at e
    rw [List.getElem?_take_of_lt (by omega)] at e
    cases ho:ops[j]? with
    | none=>rw [ho] at e;cases e
    | some o=>rw [ho] at e;exact⟨o,rfl,by simpa using e⟩
  have dst_j:∀ {i j:Nat} {o o':Oper} {s:Nat},ops[i]?=some o→ops[j]?=some o'→o.dst=some s→o'.dst=some s→i=j:=fun ho ho' hd hd'=>
    chkDst_ok hdst ho (List.getElem?_eq_some_iff.1 ho).1 ho' (List.getElem?_eq_some_iff.1 ho').1 hd hd'
  have nin:∀ {i:Nat} {o:Oper} {s:Nat},ops[i]?=some o→o.dst=some s→lk L0 s=none:=fun {i o s} ho hd=>by
    have:=List.all_eq_true.1 hdis o (List.mem_of_getElem? ho)
    rw [hd] at this
    simp only [List.all_eq_true,Bool.not_eq_true'] at this
    cases hl:lk L0 s with
    | none=>rfl
    | some v=>
      obtain⟨j,hj⟩:=lk_get hl
      have:=this _ (List.mem_of_getElem? hj)
      simp at this
  have o0:∃ o,ops[m]?=some o:=⟨_,List.getElem?_eq_getElem (by omega)⟩
  have o1:∃ o,ops[m+1]?=some o:=⟨_,List.getElem?_eq_getElem (by omega)⟩
  obtain⟨oa,hoa⟩:=o0
  obtain⟨ob,hob⟩:=o1
  obtain⟨ha1,ha2⟩:=op_of h0 hoa
  obtain⟨hb1,hb2⟩:=op_of h1 hob
  dsimp only at ha1 ha2 hb1 hb2
  have hpn:p<n:=by have:=List.all_eq_true.1 hds oa (List.mem_of_getElem? hoa);rw [ha2] at this;exact Nat.le_of_ble_eq_true this
  have hqn:q<n:=by have:=List.all_eq_true.1 hds ob (List.mem_of_getElem? hob);rw [hb2] at this;exact Nat.le_of_ble_eq_true this
  have hpq:p≠q:=fun e=>by subst e;have:=dst_j hoa hob ha2 hb2;omega
  have hzl:z.cells.toList.length=size:=by simpa using hz
  have hlook:∀ {C:Nat→Prop} {i j:Nat} {o o':Oper} {s:Nat},Clo ops C→ops[i]?=some o→(∀ e∈o.after,Region.binds .any e=true→C e.on)→.tmp s∈o.op.operands→ops[j]?=some o'→o'.dst=some s→C j:=by
    intro C i j o o' s hcl ho hed hs hj hd
    have hr:=chkReads_ok hreads ho (List.getElem?_eq_some_iff.1 ho).1 hj (List.getElem?_eq_some_iff.1 hj).1 (looks_op hs) hd
    exact(hr.1 (chkFwd_ok hfwd ho hj (looks_op hs) hd)).clo hcl (fun o2 ho2=>by rw [ho] at ho2;cases ho2;exact hed)
  refine wp_region_any hm ?_
  rw [show ops.toArray.size=ops.length by simp]
  have hfl:∀ i,¬ LsD (Array.replicate ops.length false) i:=fun i=>by
    unfold LsD;simp [Array.getElem?_replicate];split <;> simp
  refine any_J (J:=JP n L0 Lr w0 m p q t z.cells.toList X Y) hlow (fun o ho=>by have:=List.all_eq_true.1 hgd o ho;simpa using this) ?_ ?_ _ _ a _ (by simp) (fun i o _ hi=>absurd hi (hfl i))
    ⟨ha.size,ha.nod,ext_drew w0,ha.get,fun j s v hj=>absurd hj (hfl j),fun hj=>absurd hj (hfl _),fun hj=>absurd hj (hfl _),fun hj=>absurd hj (hfl _)⟩ (by
      have:=unl_prefix (N:=ops.length) (Nat.zero_le _) (listed:=Array.replicate ops.length false) (fun i=>⟨fun h=>absurd h (hfl i),fun h=>absurd h (Nat.not_lt_zero _)⟩)
      omega)
  · intro C C' a w i o I hcl hi ho hed hC' K Q' hK
    have hil:=(List.getElem?_eq_some_iff.1 ho).1
    have hsz:∀ {d:Nat},d<n→d<a.tmps.size:=fun h=>by rw [I.size];exact h
    have stay:∀ {s:Nat} {v v':Value},o.dst≠some s→a.tmps[s]?=some v→(a.put o.dst v').tmps[s]?=some v:=fun hne h=>by rw [put_ne hne];exact h
    by_cases him:i<m
    ·
      obtain⟨⟨s,v⟩,hx⟩:∃ x,Lr[i]?=some x:=⟨_,List.getElem?_eq_getElem (by omega)⟩
      obtain⟨o',ho',hd⟩:=rd_dst hx
      rw [ho] at ho';cases ho'
      have hsn:s<n:=by have:=List.all_eq_true.1 hds o (List.mem_of_getElem? ho);rw [hd] at this;exact Nat.le_of_ble_eq_true this
      have hag:Agree (L0++Lr) o a.eval:=fun x hxo u hu=>ev_of (fun s' u' he hl=>by
        subst he
        rcases lk_append hl with hl|hl
        · exact I.base _ _ hl
        · obtain⟨j,hj⟩:=lk_get hl
          obtain⟨o2,ho2,hd2⟩:=rd_dst hj
          exact I.reads j _ _ (hlook hcl ho hed hxo ho2 hd2) hj) hu
      have hrun:=hV.get hx ho w I.ext a.eval hag
      unfold Oper.wp
      rw [hrun]
      refine hK v w ⟨by rw [put_size];exact I.size,by rw [put_nod];exact I.nod,I.ext,fun s' u hl=>?_,fun j s' u hj hju=>?_,fun hcm=>?_,fun hcm=>?_,fun hcm hcm1=>?_⟩
      · refine stay (fun e=>?_) (I.base _ _ hl)
        rw [nin ho e] at hl;cases hl
      · by_cases hji:j=i
        · subst hji
          rw [hx] at hju;cases hju
          rw [hd];exact put_eq (hsz hsn)
        · obtain⟨o2,ho2,hd2⟩:=rd_dst hju
          exact stay (fun e=>hji (dst_j ho2 ho hd2 e)) (I.reads j _ _ (((hC' j).1 hj).resolve_left hji) hju)
      · obtain⟨b,e1,e2,e3,e4⟩:=I.hp (((hC' m).1 hcm).resolve_left (by omega))
        exact⟨b,stay (fun e=>by have:=dst_j ho hoa e ha2;omega) e1,e2,fun h=>e3 (((hC' _).1 h).resolve_left (by omega)),fun h=>e4 fun h'=>h ((hC' _).2 (.inr h'))⟩
      · obtain⟨b,e1,e2,e3,e4⟩:=I.hq (((hC' _).1 hcm).resolve_left (by omega))
        exact⟨b,stay (fun e=>by have:=dst_j ho hob e hb2;omega) e1,e2,fun h=>e3 (((hC' _).1 h).resolve_left (by omega)),fun h=>e4 fun h'=>h ((hC' _).2 (.inr h'))⟩
      · have:=I.ne (((hC' _).1 hcm).resolve_left (by omega)) (((hC' _).1 hcm1).resolve_left (by omega))
        rw [put_ne (fun e=>by have:=dst_j ho hoa e ha2;omega),put_ne (fun e=>by have:=dst_j ho hob e hb2;omega)]
        exact this
    by_cases hi0:i=m
    ·
      subst hi0
      rw [hoa] at ho;cases ho
      have hrun:=run_alloc (P:=P) ha1 a.eval w
      have hx:=ext_alloc w (.cells z.cells t)
      unfold Oper.wp
      rw [hrun]
      refine hK _ _ ⟨by rw [put_size];exact I.size,by rw [put_nod];exact I.nod,I.ext.trans hx,fun s' u hl=>?_,fun j s' u hj hju=>?_,fun hcm=>?_,fun hcm=>?_,fun hcm hcm1=>?_⟩
      · refine stay (fun e=>?_) (I.base _ _ hl)
        rw [nin hoa e] at hl;cases hl
      · obtain⟨o2,ho2,hd2⟩:=rd_dst hju
        have hji:j≠i:=by have:=(List.getElem?_eq_some_iff.1 hju).1;omega
        exact stay (fun e=>hji (dst_j ho2 hoa hd2 e)) (I.reads j _ _ (((hC' j).1 hj).resolve_left hji) hju)
      · refine⟨w.heap.size,by rw [ha2];exact put_eq (hsz hpn),I.ext.size,fun h=>?_,fun _=>row_alloc _ _ _⟩
        exfalso
        have h2c:=((hC' _).1 h).resolve_left (by omega)
        obtain⟨oc,hoc⟩:∃ o,ops[i+2]?=some o:=⟨_,List.getElem?_eq_getElem (by omega)⟩
        obtain⟨hc1,_⟩:=op_of h2 hoc
        exact hi (hlook hcl hoc (fun e he hb=>hcl _ _ hoc h2c e he hb) (by rw [hc1];simp [Op.operands]) hoa ha2)
      · obtain⟨b,e1,e2,e3,e4⟩:=I.hq (((hC' _).1 hcm).resolve_left (by omega))
        exact⟨b,stay (fun e=>by rw [ha2] at e;cases e;exact hpq rfl) e1,e2,fun h=>(e3 (((hC' _).1 h).resolve_left (by omega))).ext hx,fun h=>(e4 fun h'=>h ((hC' _).2 (.inr h'))).ext hx⟩
      · obtain⟨b,e1,e2,e3,e4⟩:=I.hq (((hC' _).1 hcm1).resolve_left (by omega))
        have hbl:b<w.heap.size:=by
          by_cases h:C (i+3)
          · exact(e3 h).lt
          · exact(e4 h).lt
        rw [ha2,put_eq (hsz hpn),← ha2,stay (fun e=>by rw [ha2] at e;cases e;exact hpq rfl) e1]
        intro e;cases e;omega
    by_cases hi1:i=m+1
    · subst hi1
      rw [hob] at ho;cases ho
      have hrun:=run_alloc (P:=P) hb1 a.eval w
      have hx:=ext_alloc w (.cells z.cells t)
      unfold Oper.wp
      rw [hrun]
      refine hK _ _ ⟨by rw [put_size];exact I.size,by rw [put_nod];exact I.nod,I.ext.trans hx,fun s' u hl=>?_,fun j s' u hj hju=>?_,fun hcm=>?_,fun hcm=>?_,fun hcm hcm1=>?_⟩
      · refine stay (fun e=>?_) (I.base _ _ hl)
        rw [nin hob e] at hl;cases hl
      · obtain⟨o2,ho2,hd2⟩:=rd_dst hju
        have hji:j≠m+1:=by have:=(List.getElem?_eq_some_iff.1 hju).1;omega
        exact stay (fun e=>hji (dst_j ho2 hob hd2 e)) (I.reads j _ _ (((hC' j).1 hj).resolve_left hji) hju)
      · obtain⟨b,e1,e2,e3,e4⟩:=I.hp (((hC' _).1 hcm).resolve_left (by omega))
        exact⟨b,stay (fun e=>by rw [hb2] at e;cases e;exact hpq rfl) e1,e2,fun h=>(e3 (((hC' _).1 h).resolve_left (by omega))).ext hx,fun h=>(e4 fun h'=>h ((hC' _).2 (.inr h'))).ext hx⟩
      · refine⟨w.heap.size,by rw [hb2];exact put_eq (hsz hqn),I.ext.size,fun h=>?_,fun _=>row_alloc _ _ _⟩
        exfalso
        have h2c:=((hC' _).1 h).resolve_left (by omega)
        obtain⟨oc,hoc⟩:∃ o,ops[m+3]?=some o:=⟨_,List.getElem?_eq_getElem (by omega)⟩
        obtain⟨hc1,_⟩:=op_of h3 hoc
        exact hi (hlook hcl hoc (fun e he hb=>hcl _ _ hoc h2c e he hb) (by rw [hc1];simp [Op.operands]) hob hb2)
      · obtain⟨b,e1,e2,e3,e4⟩:=I.hp (((hC' _).1 hcm).resolve_left (by omega))
        have hbl:b<w.heap.size:=by
          by_cases h:C (m+2)
          · exact(e3 h).lt
          · exact(e4 h).lt
        rw [hb2,put_eq (hsz hqn),← hb2,stay (fun e=>by rw [hb2] at e;cases e;exact hpq rfl) e1]
        intro e;cases e;omega
    have hst:∀ {s u:Nat} {V:List Value},o.op=.store t (.tmp u) (.tmp s)→lk Lr s=some (.agg V.toArray)→a.eval (.tmp s)=.agg V.toArray:=fun {s u V} hop hl=>by
      refine ev_of (x:=.tmp s) (L:=Lr) (fun s' u' he hl'=>?_) hl
      cases he
      obtain⟨j,hj⟩:=lk_get hl'
      obtain⟨o2,ho2,hd2⟩:=rd_dst hj
      exact I.reads j _ _ (hlook hcl ho hed (by rw [hop];simp [Op.operands]) ho2 hd2) hj
    by_cases hi2:i=m+2
    · subst hi2
      obtain⟨hop,hdn⟩:=op_of h2 ho
      dsimp only at hop hdn
      have hcm:C m:=hlook hcl ho hed (by rw [hop];simp [Op.operands]) hoa ha2
      obtain⟨b,e1,e2,e3,e4⟩:=I.hp hcm
      have hpv:a.eval (.tmp p)=.pointer (some ⟨b,0,none⟩):=by simp [Act.eval,Array.getD_eq_getD_getElem?,e1]
      obtain⟨w',hrun,r1,k1,hsz1⟩:=run_storeA (P:=P) hop (ρ:=a.eval) (w:=w) hpv (hst hop hX) hXs hX1 (e4 hi) hzl
      unfold Oper.wp
      rw [hrun]
      refine hK _ _ ?_
      rw [hdn]
      refine⟨I.size,I.nod,k1.ext I.ext (fun b' hb'=>by cases hb';exact e2),I.base,fun j s' u hj hju=>?_,fun _=>⟨b,e1,e2,fun _=>r1,fun h=>absurd ((hC' _).2 (.inl rfl)) h⟩,fun hc1=>?_,fun _ hc1=>I.ne hcm (((hC' _).1 hc1).resolve_left (by omega))⟩
      · have hji:j≠m+2:=by have:=(List.getElem?_eq_some_iff.1 hju).1;omega
        exact I.reads j _ _ (((hC' j).1 hj).resolve_left hji) hju
      · have hcm1:=((hC' _).1 hc1).resolve_left (by omega)
        obtain⟨c,f1,f2,f3,f4⟩:=I.hq hcm1
        have hne:some c≠some b:=fun e=>by cases e;exact I.ne hcm hcm1 (by rw [e1,f1])
        exact⟨c,f1,f2,fun h=>k1.row (f3 (((hC' _).1 h).resolve_left (by omega))) hne,fun h=>k1.row (f4 fun h'=>h ((hC' _).2 (.inr h'))) hne⟩
    · have hi3:i=m+3:=by omega
      subst hi3
      obtain⟨hop,hdn⟩:=op_of h3 ho
      dsimp only at hop hdn
      have hcm1:C (m+1):=hlook hcl ho hed (by rw [hop];simp [Op.operands]) hob hb2
      obtain⟨c,e1,e2,e3,e4⟩:=I.hq hcm1
      have hpv:a.eval (.tmp q)=.pointer (some ⟨c,0,none⟩):=by simp [Act.eval,Array.getD_eq_getD_getElem?,e1]
      obtain⟨w',hrun,r1,k1,hsz1⟩:=run_storeA (P:=P) hop (ρ:=a.eval) (w:=w) hpv (hst hop hY) hYs hY1 (e4 hi) hzl
      unfold Oper.wp
      rw [hrun]
      refine hK _ _ ?_
      rw [hdn]
      refine⟨I.size,I.nod,k1.ext I.ext (fun b' hb'=>by cases hb';exact e2),I.base,fun j s' u hj hju=>?_,fun hc1=>?_,fun _=>⟨c,e1,e2,fun _=>r1,fun h=>absurd ((hC' _).2 (.inl rfl)) h⟩,fun hc0 _=>I.ne (((hC' _).1 hc0).resolve_left (by omega)) hcm1⟩
      · have hji:j≠m+3:=by have:=(List.getElem?_eq_some_iff.1 hju).1;omega
        exact I.reads j _ _ (((hC' j).1 hj).resolve_left hji) hju
      · have hcm:=((hC' _).1 hc1).resolve_left (by omega)
        obtain⟨b,f1,f2,f3,f4⟩:=I.hp hcm
        have hne:some b≠some c:=fun e=>by cases e;exact I.ne hcm hcm1 (by rw [e1,f1])
        exact⟨b,f1,f2,fun h=>k1.row (f3 (((hC' _).1 h).resolve_left (by omega))) hne,fun h=>k1.row (f4 fun h'=>h ((hC' _).2 (.inr h'))) hne⟩
  · intro C a w hall I
    obtain⟨b,e1,e2,e3,_⟩:=I.hp (hall _ (by omega))
    obtain⟨c,f1,f2,f3,_⟩:=I.hq (hall _ (by omega))
    refine k b c w I.ext e2 f2 (fun e=>?_) (e3 (hall _ (by omega))) (f3 (hall _ (by omega))) a ⟨I.size,I.nod,fun s v hs=>?_⟩
    · exact I.ne (hall _ (by omega)) (hall _ (by omega)) (by rw [e1,f1,e])
    · simp only [lk] at hs
      cases hb:Nat.beq p s with
      | true=>
        rw [hb] at hs;simp at hs
        have:=Nat.eq_of_beq_eq_true hb
        subst this;rw [e1,hs]
      | false=>
        rw [hb] at hs
        simp only [cond_false] at hs
        cases hb2:Nat.beq q s with
        | true=>
          rw [hb2] at hs;simp at hs
          have:=Nat.eq_of_beq_eq_true hb2
          subst this;rw [f1,hs]
        | false=>
          rw [hb2] at hs
          exact I.base s v hs
end
end Go.En
namespace Go.En
open Go.RowKit
section
variable {P : Program} {n : Nat} {Q : Post} {ops : List Oper}
theorem E_dm {id:Nat} {L:List (Nat × Value)} {w:World} (m:Nat) (hm:P.follows .mixedOrders=true) (hc:chk ops m=true) (hdm:domb n L=true) (h:RQ P n ops w Q (ops.take m) (ops.drop m) (vG L)):E P n (.region id ops.toArray true) Q L w:=by
  refine E_dr m hm hc hdm ?_
  unfold RQ at h
  have hml:m≤ops.length:=by
    simp only [chk,Bool.and_eq_true] at hc
    exact Nat.le_of_ble_eq_true hc.1.1.1.1
  rw [List.take_append_drop,List.length_take,Nat.min_eq_left hml] at h
  exact h
theorem RQ_alloc {w0:World} {o:Oper} {rest tl:List Oper} {G:List (Nat × Ent)} {d:Nat} {t:TypeId} {z:Value} {size bytes:Nat} [TI P t z size bytes] (hg:ggst ops G o=some true) (hd:odst n o.dst=some d) (ho:o.op=.alloc t)
    (k:RQ P n ops w0 Q rest tl ((d,.r (fun u w=>∃ b,u=.pointer (some ⟨b,0,none⟩)∧w0.heap.size≤b∧Row w b t z.cells.toList))::G)):RQ P n ops w0 Q (o::rest) tl G:=
  RW_op (T:=.r (fun u w=>∃ b,u=.pointer (some ⟨b,0,none⟩)∧w0.heap.size≤b∧Row w b t z.cells.toList)) hg (odst_eq hd).2 (fun _ _ _ _ xe h=>by obtain⟨b,e,h1,h2⟩:=h;exact⟨b,e,h1,h2.ext xe⟩)
    (fun w _ hw _ ρ _=>.inl ⟨_,_,run_alloc ho ρ w,⟨w.heap.size,rfl,hw.size,row_alloc _ _ _⟩,ext_alloc _ _⟩) (by rw [(odst_eq hd).1];exact k)
end
end Go.En
