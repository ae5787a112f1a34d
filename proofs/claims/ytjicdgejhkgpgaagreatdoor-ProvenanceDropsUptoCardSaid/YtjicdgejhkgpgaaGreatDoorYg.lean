/-
  Own text of the proof.
-/
import Derived.Test.YtjicdgejhkgpgaaGreatDoorG
import Derived.Test.YtjicdgejhkgpgaaGreatDoorYf
set_option linter.all false
set_option maxHeartbeats 4000000
set_option maxRecDepth 8000
namespace Go.En
open Go.RowKit
section
variable {P : Program} {n : Nat} {Q : Post} {ops : List Oper}
theorem C6n (J:(Nat→Prop)→Act→World→Prop) (hlow:Z1 ops=true) (hgd:∀ o∈ops,o.guard=none)
    (hstep:∀ C C' a w i o,J C a w→Clo ops C→¬ C i→ops[i]?=some o→(∀ e∈o.after,Region.binds .any e=true→C e.on)→(∀ j,C' j↔j=i∨C j)→∀ K Q',(∀ v w',J C' (a.put o.dst v) w'→K (a.put o.dst v) w')→o.wp P a w K Q')
    (hend:∀ C a w,(∀ j,j<ops.length→C j)→J C a w→Q .normal a w) :
    ∀(fuel:Nat) (listed:Array Bool) (a:Act) (w:World),listed.size=ops.length→Clo ops (LsD listed)→J (LsD listed) a w→unl ops.length listed=fuel→wpAny P .any ops.toArray Q fuel listed a w:=by
  have hleast:∀(listed:Array Bool),listed.size=ops.length→(¬ ∀ j,j<ops.length→LsD listed j)→∃ i,i<ops.length∧i∈Region.ready .any ops.toArray listed:=by
    intro listed hl hn
    have:∃ i,i<ops.length∧¬ LsD listed i:=by
      apply Classical.byContradiction
      intro h
      exact hn fun j hj=>Classical.byContradiction fun hj'=>h ⟨j,hj,hj'⟩
    obtain⟨i,h1,h2,h3⟩:=W8 (fun i=>by unfold LsD;infer_instance) ops.length this
    exact⟨i,h1,(G5 hl).2 ⟨h2,_,List.getElem?_eq_getElem h1,fun e he hb=>h3 _ (O6 hlow (List.getElem?_eq_getElem h1) he hb)⟩⟩
  intro fuel
  induction fuel with
  | zero=>
    intro listed a w hl hc hj hu
    have hall:∀ j,j<ops.length→LsD listed j:=by
      intro j hj
      apply Classical.byContradiction
      intro hn
      have:=T2 (N:=ops.length) hj hl hn
      omega
    refine⟨?_,hend _ a w hall hj⟩
    rw [List.eq_nil_iff_forall_not_mem]
    intro i hi
    obtain⟨h1,o,ho,_⟩:=(G5 hl).1 hi
    exact h1 (hall i (List.getElem?_eq_some_iff.1 ho).1)
  | succ fuel ih=>
    intro listed a w hl hc hj hu
    refine⟨fun h0=>?_,fun i hi=>?_⟩
    · refine hend _ a w (Classical.byContradiction fun hn=>?_) hj
      obtain⟨i,_,hi⟩:=hleast listed hl hn
      rw [h0] at hi;cases hi
    obtain⟨hun,o,ho,hed⟩:=(G5 hl).1 hi
    have hilt:=(List.getElem?_eq_some_iff.1 ho).1
    have hoa:ops.toArray[i]?=some o:=by simpa using ho
    have hset:∀ j,LsD (listed.setIfInBounds i true) j↔(j=i∨LsD listed j):=fun j=>by
      unfold LsD
      by_cases hij:i=j
      · subst hij;simp [hl,hilt]
      · rw [getD_set_ne false hij];constructor
        · exact .inr
        · rintro(h|h)
          · exact absurd h.symm hij
          · exact h
    unfold wpOp
    simp only [hoa]
    have hw:Region.wanted o (yielded ops.toArray a.tmps)=true:=by unfold Region.wanted;rw [hgd o (List.mem_of_getElem? ho)]
    rw [if_pos hw]
    refine .inl (hstep _ _ a w i o hj hc hun ho (fun e he hb=>hed e he hb) hset _ _ fun v w' hv=>?_)
    refine ih _ _ _ (by simpa using hl) ?_ hv ?_
    · intro k q hq hk e he hb
      rw [hset] at hk ⊢
      rcases hk with rfl|hk
      · rw [ho] at hq;cases hq;exact .inr (hed e he hb)
      · exact .inr (hc k q hq hk e he hb)
    · have:=T2 (N:=ops.length) hilt hl hun
      omega
theorem ev_of {L:List (Nat × Value)} {a:Act} {x:Operand} {v:Value} (h:∀ s u,x=.tmp s→lk L s=some u→a.tmps[s]?=some u) (hx:ev L x=some v):a.eval x=v:=by
  cases x with
  | tmp t=>simp only [En.ev] at hx;have:=h t v rfl hx;simp [Act.eval,Array.getD_eq_getD_getElem?,this]
  | const u=>simpa [En.ev,Act.eval] using hx
  | global g=>simpa [En.ev,Act.eval] using hx
  | func f=>simpa [En.ev,Act.eval] using hx
theorem lk_get {L:List (Nat × Value)} {s:Nat} {v:Value} (h:lk L s=some v):∃ j:Nat,L[j]?=some (s,v):=by
  induction L with
  | nil=>simp [lk] at h
  | cons x r ih=>
    obtain⟨k,u⟩:=x
    simp only [lk] at h
    cases hb:Nat.beq k s with
    | true=>
      rw [hb] at h;simp at h
      have:=Nat.eq_of_beq_eq_true hb
      subst this;subst h
      exact⟨0,rfl⟩
    | false=>
      rw [hb] at h;simp at h
      obtain⟨j,hj⟩:=ih h
      exact⟨j+1,by simpa using hj⟩
structure JP (n:Nat) (L0 Lr:List (Nat × Value)) (w0:World) (m p q:Nat) (t:TypeId) (Zc X Y:List Value) (C:Nat→Prop) (a:Act) (w:World):Prop where
  size:a.tmps.size=n
  nod:a.defers=[]
  ext:Ext w0 w
  base:∀ s v,lk L0 s=some v→a.tmps[s]?=some v
  reads:∀ j s v,C j→Lr[j]?=some (s,v)→a.tmps[s]?=some v
  hp:C m→∃ b,a.tmps[p]?=some (.pointer (some ⟨b,0,none⟩))∧w0.heap.size≤b∧(C (m+2)→Row w b t X)∧(¬ C (m+2)→Row w b t Zc)
  hq:C (m+1)→∃ b,a.tmps[q]?=some (.pointer (some ⟨b,0,none⟩))∧w0.heap.size≤b∧(C (m+3)→Row w b t Y)∧(¬ C (m+3)→Row w b t Zc)
  ne:C m→C (m+1)→a.tmps[p]?≠a.tmps[q]?
theorem A0h {a:Act} {d:Option Tmp} {v:Value} {s:Nat} (h:d≠some s):(a.put d v).tmps[s]?=a.tmps[s]?:=by
  cases d with
  | none=>rfl
  | some d=>exact Array.getElem?_setIfInBounds_ne (fun e=>h (by rw [e]))
theorem A6p {a:Act} {d:Nat} {v:Value} (h:d<a.tmps.size):(a.put (some d) v).tmps[d]?=some v:=by
  simp only [Act.put];exact Array.getElem?_setIfInBounds_self_of_lt h
theorem R7 {a:Act} {d:Option Tmp} {v:Value}:(a.put d v).tmps.size=a.tmps.size:=by cases d <;> simp [Act.put]
theorem X7 {a:Act} {d:Option Tmp} {v:Value}:(a.put d v).defers=a.defers:=by cases d <;> rfl
theorem A9k {t:TypeId} {z:Value} {size bytes:Nat} [TI P t z size bytes] {o:Oper} (ho:o.op=.alloc t) (ρ:Operand→Value) (w:World):(execOp ρ o).run P w=.ok (.value (.pointer (some ⟨w.heap.size,0,none⟩))) (w.alloc (.cells z.cells t)):=by
  obtain⟨i,hi,hz,_⟩:=Q1 (P:=P) (t:=t) w
  simp [execOp,ho,Instr.alloc,newVar,newRow,newObj,zeroValue,go_sem,hi,hz]
  rfl
theorem B7g {t:TypeId} {z:Value} {size bytes:Nat} [TI P t z size bytes] {o:Oper} {x y:Operand} {b:Nat} {cs X:List Value} (ho:o.op=.store t x y) {ρ:Operand→Value} {w:World} (hx:ρ x=.pointer (some ⟨b,0,none⟩)) (hy:ρ y=.agg X.toArray)
    (hX:X.length=size) (h1:X.all Value.oneCell'=true) (hr:Row w b t cs) (hl:cs.length=size):∃ w',(execOp ρ o).run P w=.ok .skip w'∧Row w' b t X∧Kb (some b) w w'∧w'.heap.size=w.heap.size:=by
  have h:=run_storeCells_at (P:=P) b 0 t X 0 cs.toArray w hr (by simp [hX,hl]) (fun u hu=>List.all_eq_true.1 h1 u hu)
  simp only [Nat.add_zero,Nat.zero_add] at h
  have h4:=M3 (P:=P) (t:=t) w
  refine⟨w.setRow b (cs.take 0++X++cs.drop X.length).toArray,?_,?_,⟨rfl,rfl,rfl,by simp,fun k hk hne=>setRow_other w b k _ (fun e=>hne (by rw [e]))⟩,by simp⟩
  · simp only [execOp,ho,hx,hy,Instr.storeAt,Instr.sureAddr,storeVar,Sem.run_bind,Sem.run_pure,Result.andThen_ok,h4,Value.cells]
    rw [if_neg (by simp [hX])]
    simp only [h,Result.andThen_ok]
  · have e:(cs.take 0++X++cs.drop X.length)=X:=by rw [List.take_zero,List.nil_append,List.drop_eq_nil_of_le (by omega),List.append_nil]
    rw [e]
    exact setRow_heap w b cs.toArray X.toArray t (0,0) hr
end
end Go.En
namespace Go.En
open Go.RowKit
section
variable {P : Program} {n : Nat} {Q : Post} {ops : List Oper}
theorem E_dm {id:Nat} {L:List (Nat × Value)} {w:World} (m:Nat) (hm:P.follows .mixedOrders=true) (hc:chk ops m=true) (hdm:domb n L=true) (h:RQ P n ops w Q (ops.take m) (ops.drop m) (vG L)):E P n (.region id ops.toArray true) Q L w:=by
  refine E_dr m hm hc hdm ?_
  unfold RQ at h
  have hml:m≤ops.length:=by
    simp only [chk,Bool.and_eq_true] at hc
    exact Nat.le_of_ble_eq_true hc.1.1.1.1
  rw [List.take_append_drop,List.length_take,Nat.min_eq_left hml] at h
  exact h
theorem B5w {w0:World} {o:Oper} {rest tl:List Oper} {G:List (Nat × Ent)} {d:Nat} {t:TypeId} {z:Value} {size bytes:Nat} [TI P t z size bytes] (hg:ggst ops G o=some true) (hd:odst n o.dst=some d) (ho:o.op=.alloc t)
    (k:RQ P n ops w0 Q rest tl ((d,.r (fun u w=>∃ b,u=.pointer (some ⟨b,0,none⟩)∧w0.heap.size≤b∧Row w b t z.cells.toList))::G)):RQ P n ops w0 Q (o::rest) tl G:=
  A0v (T:=.r (fun u w=>∃ b,u=.pointer (some ⟨b,0,none⟩)∧w0.heap.size≤b∧Row w b t z.cells.toList)) hg (C9 hd).2 (fun _ _ _ _ xe h=>by obtain⟨b,e,h1,h2⟩:=h;exact⟨b,e,h1,h2.ext xe⟩)
    (fun w _ hw _ ρ _=>.inl ⟨_,_,A9k ho ρ w,⟨w.heap.size,rfl,hw.size,K1 _ _ _⟩,H5 _ _⟩) (by rw [(C9 hd).1];exact k)
end
end Go.En
namespace Go.En
open Go.RowKit
section
variable {P : Program} {n : Nat} {Q : Post} {ops : List Oper}
theorem B1f {L : List (Nat × Value)} {w : World} {o : Oper} {t e : TypeId} {z : Value} {size bytes len : Nat} {ps : List (Nat × Operand)} {vs cs : List Value} [UT P t (.slice e)] [TI P e z size bytes] (ho : o.op = .buildSlice t len ps.toArray)
    (hps:evs L 0 ps=some vs) (hv:vs.all (fun v=>Nat.beq v.cells.size size)=true) (hl:Nat.beq vs.length len=true) (hsm:Nat.ble (len*size) 16777216=true) (hcs:(vs.map fun v=>v.cells.toList).flatten=cs) {ρ:Operand→Value} (ha:Agree L o ρ) :
    (execOp ρ o).run P w=.ok (.value (.slice (some ⟨w.heap.size,0,none⟩) len len)) (w.alloc (.cells cs.toArray e)):=by
  have hps':=B8g L ps 0 vs hps
  have hp:(ps.map fun p=>(p.1,ρ p.2))=(vs.zipIdx).map fun p=>(p.2,p.1):=by
    have hx:∀ p∈ps,∀ v,ev L p.2=some v→ρ p.2=v:=fun p hm v hv=>ha.ev (by rw [ho];simp [Op.operands];exact⟨p.1,hm⟩) hv
    clear ho hps
    generalize 0=j at hps' ⊢
    clear hl hv hcs ha
    induction ps generalizing vs j with
    | nil=>cases vs with|nil=>rfl|cons _ _=>simp at hps'
    | cons p r ih=>
      cases vs with
      | nil=>simp at hps'
      | cons v vr=>
        simp only [List.map_cons,List.zipIdx_cons,List.cons.injEq,Prod.mk.injEq] at hps' ⊢
        exact⟨⟨hps'.1.1,hx p (by simp) v hps'.1.2⟩,ih (fun q hm u hu=>hx q (by simp [hm]) u hu) (j+1) hps'.2⟩
  have:=A0c (P:=P) (t:=t) (w:=w) (vs:=vs) (len:=len) (size:=size) (fun v hm=>Nat.eq_of_beq_eq_true (List.all_eq_true.1 hv v hm)) (Nat.eq_of_beq_eq_true hl) (Nat.le_of_ble_eq_true hsm)
  rw [hcs] at this
  simp only [execOp,ho,List.map_toArray,hp]
  rw [Sem.run_bind,this]
  rfl
theorem B9e {w0:World} {o:Oper} {rest tl:List Oper} {G:List (Nat × Ent)} {d:Nat} {t e:TypeId} {z:Value} {size bytes len:Nat} {ps:List (Nat × Operand)} {vs cs:List Value} [UT P t (.slice e)] [TI P e z size bytes] (hg:ggst ops G o=some true) (hd:odst n o.dst=some d) (ho:o.op=.buildSlice t len ps.toArray)
    (hps:∀ δ,evs (mat δ G) 0 ps=some vs) (hv:vs.all (fun v=>Nat.beq v.cells.size size)=true) (hl:Nat.beq vs.length len=true) (hsm:Nat.ble (len*size) 16777216=true) (hcs:(vs.map fun v=>v.cells.toList).flatten=cs)
    (k:RQ P n ops w0 Q rest tl ((d,.r (fun u w=>∃ b,u=.slice (some ⟨b,0,none⟩) len len∧w0.heap.size≤b∧Row w b e cs))::G)):RQ P n ops w0 Q (o::rest) tl G:=
  A0v (T:=.r (fun u w=>∃ b,u=.slice (some ⟨b,0,none⟩) len len∧w0.heap.size≤b∧Row w b e cs)) hg (C9 hd).2 (fun _ _ _ _ xe h=>by obtain⟨b,e,h1,h2⟩:=h;exact⟨b,e,h1,h2.ext xe⟩)
    (fun w δ hw _ ρ ha=>.inl ⟨_,_,B1f ho (hps δ) hv hl hsm hcs ha,⟨w.heap.size,rfl,hw.size,by have:=K1 w e cs.toArray;exact this⟩,H5 _ _⟩) (by rw [(C9 hd).1];exact k)
end
end Go.En
namespace Go.Proofs.YtjicdgejhkgpgaaGreatDoor
section
open Go.RowKit Go.En
def ordI (a b:Note):Int:=orI [cmpI a.parent b.parent,cmpI a.frm b.frm,cmpI a.rank b.rank]
theorem B4e (a b:Note):decide (ordI a b<0)=ordB a b:=by
  have go:∀ x y z:Int,orI [x,y,z]=if x≠0 then x else if y≠0 then y else z:=by
    intro x y z
    unfold orI
    by_cases hx:x=0
    · by_cases hy:y=0
      · by_cases hz:z=0 <;> simp [List.find?,hx,hy,hz]
      · simp [List.find?,hx,hy]
    · simp [List.find?,hx]
  unfold ordI ordB
  rw [go]
  unfold cmpI
  by_cases h1:a.parent<b.parent <;> by_cases h2:b.parent<a.parent <;> by_cases h3:a.frm<b.frm <;> by_cases h4:b.frm<a.frm <;> by_cases h5:a.rank<b.rank <;> by_cases h6:b.rank<a.rank <;> simp only [h1,h2,h3,h4,h5,h6,if_true,if_false] <;>(try omega) <;> simp <;> omega
attribute [local irreducible] E EL K Val Enters Rt Calls bodyPost Code.wp RQ
theorem C2e (l : List Int) (x : Int) (v : Value) (w : World) (hv : Sl w v l) : Calls Tryz.prog 81 #[v, int x] w (Rt fun u w' => (∃ z : Int, u = int z ∧ (0 ≤ z ↔ x ∈ l)) ∧ Ext w w') := by
  refine A6 (n:=19) (args:=[v,int x]) Tryz.func81 rfl Tryz.ntmps81 (by simp) ?_
  have hv0:=hv
  obtain⟨a,cap,rfl,hc,hm,hp⟩:=hv.sl
  (repeat' (first|refine Sy ?_))
  refine B0 (ι:=Nat) (fun i=>[(0,.slice a l.length cap),(1,int x),(7,int l.length),(8,int i)])
    (fun i wr=>i≤l.length∧Ext w wr∧∀ j,j<i→∀ y,l[j]?=some y→y≠x) (fun i=>l.length-i) 0
    ⟨rfl,rfl,rfl,rfl,trivial⟩ ⟨Nat.zero_le _,Ext.refl _,fun j hj=>by omega⟩ ?_
  rintro i wr ⟨hi,hx,hall⟩
  by_cases hlt:i<l.length
  · obtain⟨b,off,rfl⟩:=hp (by omega)
    obtain⟨y,hyl⟩:∃ y,l[i]?=some y:=⟨_,List.getElem?_eq_getElem hlt⟩
    have hcx:=int_elem (hv0.ext hx) hyl
    (repeat' (first|refine eV Z Z (A0 (m:=i) Z Z Z Z hlt) ?_|refine eV Z Z (A7 Z Z Z hcx) ?_|refine Sy ?_|refine Dy (fun hh=>?_) fun hh=>?_))
    all_goals (first|(exfalso;omega)|skip)
    · refine A4 Z Z ⟨⟨_,rfl,?_⟩,hx⟩
      have he:x=y:=‹_›
      exact⟨fun _=>he▸List.mem_of_getElem? hyl,fun _=>by omega⟩
    · exact B3 (i+1) ⟨rfl,rfl,rfl,rfl,trivial⟩ ⟨by omega,hx,fun j hj z hz=>by
        by_cases hj2:j<i
        · exact hall j hj2 z hz
        · obtain rfl:j=i:=by omega
          rw [hyl] at hz;cases hz
          exact fun e=>by omega⟩ (by omega)
  · (repeat' (first|refine Sy ?_|refine Dy (fun hh=>?_) fun hh=>?_))
    all_goals (first|(exfalso;omega)|skip)
    refine A4 Z Z ⟨⟨_,rfl,?_⟩,hx⟩
    constructor
    · intro h;exfalso;omega
    · intro hq
      obtain⟨j,hj⟩:=List.getElem?_of_mem hq
      have:=(List.getElem?_eq_some_iff.1 hj).1
      exact absurd rfl (hall j (by omega) x hj)
theorem B2h (l:List Int) (x:Int) (v:Value) (w:World) (hv:Sl w v l):Calls Tryz.prog 116 #[v,int x] w (Rt fun u w'=>u=.bool (decide (x∈l))∧Ext w w'):=by
  refine A6 (n:=9) (args:=[v,int x]) Tryz.func116 rfl Tryz.ntmps116 (by simp) ?_
  have c1:=C2e l x v w hv
  (repeat' (first|(refine A8 Z Z (A5 Z Z en81) c1 (fun vC wC hC=>?_);obtain⟨⟨z,rfl,hz⟩,xC⟩:=hC)|refine Sy ?_|refine Dy (fun hh=>?_) fun hh=>?_))
  all_goals exact A4 Z Z ⟨by congr 1;symm;first|exact decide_eq_true (hz.1 ‹_›)|exact decide_eq_false (fun e=>‹¬ _› (hz.2 e)),xC⟩
theorem C0j (l:List Int) (x:Int) (v:Value) (w:World) (hv:Sl w v l):Calls Tryz.prog 85 #[v,int x] w (Rt fun u w'=>u=.bool (decide (x∈l))∧Ext w w'):=by
  refine A6 (n:=8) (args:=[v,int x]) Tryz.func85 rfl Tryz.ntmps85 (by simp) ?_
  have c1:=B2h l x v w hv
  (repeat' (first|(refine cqC c1 en116 fun wC xC=>?_)|refine Sy ?_))
  all_goals exact A4 Z Z ⟨rfl,xC⟩
theorem A9o (x y:Note) (w:World):Calls Tryz.prog 112 #[.agg (B9 x).toArray,.agg (B9 y).toArray] w (Rt fun u w'=>u=int (ordI x y)∧Ext w w'):=by
  refine A6 (n:=24) (args:=[.agg (B9 x).toArray,.agg (B9 y).toArray]) Tryz.func112 rfl Tryz.ntmps112 (by simp) ?_
  refine B4 ?_
  refine A9 ?_
  refine C6 Z Z Z Z (fun bX wX xX hbX rX0=>?_)
  refine C6 Z Z Z Z (fun bY wY xY hbY rY0=>?_)
  have rX:Row wY bX 80 (B9 x):=rX0.ext xY
  have rY:Row wY bY 80 (B9 y):=rY0
  have hX:=xX.trans xY
  clear rX0 rY0
  (repeat' ((fail_if_success (refine B4 (x:=(Code.region 1 _ _)) ?_));first|refine Sy ?_))
  refine B4 ?_
  refine E.sub (M:=[(2,.pointer (some ⟨bX,0,none⟩)),(3,.pointer (some ⟨bY,0,none⟩))]) ⟨rfl,rfl,trivial⟩ ?_
  refine E_dm 20 B5 (by kernel_rfl) Z ?_
  (repeat' (first|refine yV Z Z (fun wq _ xq=>A7 Z Z Z ((rX.ext xq).cellAt rfl)) ?_|refine yV Z Z (fun wq _ xq=>A7 Z Z Z ((rY.ext xq).cellAt rfl)) ?_|refine C4 Z Z (fun _ _ _=>A5 Z Z en145) (fun wq _=>B5p _ _ wq) ?_|refine B9e Z Z Z (fun _=>rfl) Z Z Z Z ?_|refine H2 (fun δ=>#[δ 22]) Z Z (fun _ _ _=>A5 Z Z en144) (fun wq δ xq hs=>by obtain⟨bb,he,_,hr⟩:=hs 22 rfl _ rfl;rw [he];exact or_any [cmpI x.parent y.parent,cmpI x.frm y.frm,cmpI x.rank y.rank] _ wq (R5 (css:=[[int (cmpI x.parent y.parent)],[int (cmpI x.frm y.frm)],[int (cmpI x.rank y.rank)] ]) hr (H1 _ [cmpI x.parent y.parent,cmpI x.frm y.frm,cmpI x.rank y.rank]) (Nat.le_refl _) (by simp))) ?_|refine J4 (fun wq δ xq hR=>?_)|refine Sy ?_|refine yqZ ?_))
  exact A4 Z Z ⟨rfl,hX.trans xq⟩
end
section
open Go.RowKit Go.En
theorem A6h {α:Type} {xs ys:List α} (hl:xs.length=ys.length) (h:∀ j,j<xs.length→xs[j]?=ys[j]?):xs=ys:=List.ext_getElem? fun j=>by
  by_cases hj:j<xs.length
  · exact h j hj
  · rw [List.getElem?_eq_none (by omega),List.getElem?_eq_none (by omega)]
theorem B1d {α:Type} {xs ys:List α} {i:Nat} {x y:α} (hx:xs[i]?=some x) (hy:ys[i]?=some y) (h:¬ x=y):¬ xs=ys:=fun e=>by
  subst e;rw [hx] at hy;cases hy;exact h rfl
theorem B1c {α:Type} {xs ys:List α} {i:Nat} {x y:α} (hx:xs[i]?=some x) (hy:ys[i]?=some y) (h:x=y) (hall:∀ j,j<i→xs[j]?=ys[j]?):∀ j,j<i+1→xs[j]?=ys[j]?:=fun j hj=>by
  by_cases hj2:j<i
  · exact hall j hj2
  · obtain rfl:j=i:=by omega
    rw [hx,hy,h]
theorem txt_elem {G:Nat→Prop} {w:World} {b off n cap:Nat} {xs:List Txt} (h:SlG G w (.slice (some ⟨b,off,none⟩) n cap) xs) {i:Nat} {x:Txt} (hx:xs[i]?=some x):w.cell? ⟨b,off+i*1,none⟩=some (str x.l):=by
  obtain⟨cs,h1,h2⟩:=h.elem hx
  rw [show cs=[str x.l] from h1] at h2
  exact h2.one
attribute [local irreducible] E EL K Val Enters Rt Calls bodyPost Code.wp RQ
theorem R6 (xs ys : List Int) (u v : Value) (w : World) (hu : Sl w u xs) (hv : Sl w v ys) : Calls Tryz.prog 21 #[u, v] w (Rt fun r w' => r = .bool (decide (xs = ys)) ∧ Ext w w') := by
  refine A6 (n:=26) (args:=[u,v]) Tryz.func21 rfl Tryz.ntmps21 (by simp) ?_
  have hu0:=hu
  have hv0:=hv
  obtain⟨a,cap,rfl,hc,hm,hp⟩:=hu.sl
  obtain⟨a',cap',rfl,hc',hm',hp'⟩:=hv.sl
  by_cases hl:xs.length=ys.length
  · (repeat' (first|refine Sy ?_|refine Dy (fun hh=>?_) fun hh=>?_))
    all_goals (first|(exfalso;omega)|skip)
    refine B0 (ι:=Nat) (fun i=>[(0,.slice a xs.length cap),(1,.slice a' ys.length cap'),(12,int xs.length),(13,int i)])
      (fun i wr=>i≤xs.length∧Ext w wr∧∀ j,j<i→xs[j]?=ys[j]?) (fun i=>xs.length-i) 0
      ⟨rfl,rfl,rfl,rfl,trivial⟩ ⟨Nat.zero_le _,Ext.refl _,fun j hj=>by omega⟩ ?_
    rintro i wr ⟨hi,hx,hall⟩
    by_cases hlt:i<xs.length
    · obtain⟨b,off,rfl⟩:=hp (by omega)
      obtain⟨b',off',rfl⟩:=hp' (by omega)
      obtain⟨x,hxx⟩:∃ x,xs[i]?=some x:=⟨_,List.getElem?_eq_getElem hlt⟩
      obtain⟨y,hyy⟩:∃ y,ys[i]?=some y:=⟨_,List.getElem?_eq_getElem (by omega)⟩
      have hcx:=int_elem (hu0.ext hx) hxx
      have hcy:=int_elem (hv0.ext hx) hyy
      by_cases hxy:x=y
      · (repeat' (first|refine yV Z Z (fun _ _ _=>A0 (m:=i) Z Z Z Z (by omega)) ?_|refine yV Z Z (fun wq _ xq=>A7 Z Z Z (xq.cell hcx)) ?_|refine yV Z Z (fun wq _ xq=>A7 Z Z Z (xq.cell hcy)) ?_|refine Sy ?_|refine Dy (fun hh=>?_) fun hh=>?_|refine yqZ ?_|refine yqX (fun hh=>?_) fun hh=>?_|refine E_dq B5 (by kernel_rfl) Z ?_|refine yN Z (fun wq xq=>?_)))
        all_goals (first|(exfalso;omega)|skip)
        all_goals exact B3 (i+1) ⟨rfl,rfl,rfl,rfl,trivial⟩ ⟨by omega,by first|exact hx.trans xq|exact hx,B1c hxx hyy hxy hall⟩ (by omega)
      · (repeat' (first|refine yV Z Z (fun _ _ _=>A0 (m:=i) Z Z Z Z (by omega)) ?_|refine yV Z Z (fun wq _ xq=>A7 Z Z Z (xq.cell hcx)) ?_|refine yV Z Z (fun wq _ xq=>A7 Z Z Z (xq.cell hcy)) ?_|refine Sy ?_|refine Dy (fun hh=>?_) fun hh=>?_|refine yqZ ?_|refine yqX (fun hh=>?_) fun hh=>?_|refine E_dq B5 (by kernel_rfl) Z ?_|refine yN Z (fun wq xq=>?_)))
        all_goals (first|(exfalso;omega)|skip)
        all_goals exact A4 Z Z ⟨by rw [decide_eq_false (B1d hxx hyy hxy)],by first|exact hx.trans xq|exact hx⟩
    · (repeat' (first|refine Sy ?_|refine Dy (fun hh=>?_) fun hh=>?_))
      all_goals (first|(exfalso;omega)|skip)
      exact A4 Z Z ⟨by rw [decide_eq_true (A6h hl fun j hj=>hall j (by omega))],hx⟩
  · (repeat' (first|refine Sy ?_|refine Dy (fun hh=>?_) fun hh=>?_))
    all_goals (first|(exfalso;omega)|skip)
    exact A4 Z Z ⟨by rw [decide_eq_false (fun e=>hl (by rw [e]))],Ext.refl _⟩
theorem C1s (l : List Int) (x : Int) (v : Value) (w : World) (hv : Sl w v l) : Calls Tryz.prog 33 #[v, int x] w (Rt fun u w' => u = .bool (decide (x ∈ l)) ∧ Ext w w') := by
  refine A6 (n:=18) (args:=[v,int x]) Tryz.func33 rfl Tryz.ntmps33 (by simp) ?_
  have hv0:=hv
  obtain⟨a,cap,rfl,hc,hm,hp⟩:=hv.sl
  (repeat' (first|refine Sy ?_))
  refine B0 (ι:=Nat) (fun i=>[(0,.slice a l.length cap),(1,int x),(7,int l.length),(8,int i)])
    (fun i wr=>i≤l.length∧Ext w wr∧∀ j,j<i→∀ y,l[j]?=some y→y≠x) (fun i=>l.length-i) 0
    ⟨rfl,rfl,rfl,rfl,trivial⟩ ⟨Nat.zero_le _,Ext.refl _,fun j hj=>by omega⟩ ?_
  rintro i wr ⟨hi,hx,hall⟩
  by_cases hlt:i<l.length
  · obtain⟨b,off,rfl⟩:=hp (by omega)
    obtain⟨y,hyl⟩:∃ y,l[i]?=some y:=⟨_,List.getElem?_eq_getElem hlt⟩
    have hcx:=int_elem (hv0.ext hx) hyl
    (repeat' (first|refine eV Z Z (A0 (m:=i) Z Z Z Z hlt) ?_|refine eV Z Z (A7 Z Z Z hcx) ?_|refine Sy ?_|refine Dy (fun hh=>?_) fun hh=>?_))
    all_goals (first|(exfalso;omega)|skip)
    · refine A4 Z Z ⟨?_,hx⟩
      have he:y=x:=‹_›
      rw [decide_eq_true (he▸List.mem_of_getElem? hyl)]
    · exact B3 (i+1) ⟨rfl,rfl,rfl,rfl,trivial⟩ ⟨by omega,hx,fun j hj z hz=>by
        by_cases hj2:j<i
        · exact hall j hj2 z hz
        · obtain rfl:j=i:=by omega
          rw [hyl] at hz;cases hz
          exact fun e=>by omega⟩ (by omega)
  · (repeat' (first|refine Sy ?_|refine Dy (fun hh=>?_) fun hh=>?_))
    all_goals (first|(exfalso;omega)|skip)
    refine A4 Z Z ⟨?_,hx⟩
    rw [decide_eq_false fun hq=>?_]
    obtain⟨j,hj⟩:=List.getElem?_of_mem hq
    have:=(List.getElem?_eq_some_iff.1 hj).1
    exact hall j (by omega) x hj rfl
end
section
open Go.RowKit Go.En Go.Pv
def Z2 (segs:List Ph) (ws:List Int):Int:=if ws.length=0 then 4 else if 24<ws.length then 5 else if ws.all (isB segs) then 0 else 19
theorem B6d {segs : List Ph} {ws : List Int} (h : Z2 segs ws = 0) : ∀ x ∈ ws, 1 ≤ x ∧ x ≤ (segs.length : Int) := by
  unfold Z2 at h
  split at h
  · cases h
  · split at h
    · cases h
    · split at h
      · rename_i h3
        rw [List.all_eq_true] at h3
        intro x hx
        have:=h3 x hx
        unfold isB at this
        simpa using this
      · cases h
attribute [local irreducible] E EL K Val Enters Rt Calls bodyPost Code.wp RQ
theorem A4e (segs:List Ph) (ws:List Int) (pv wv:Value) (w:World) (hp:Sl w pv segs) (hw:Sl w wv ws):Calls Tryz.prog 221 #[.agg #[pv],wv] w (Rt fun u w'=>u=int (Z2 segs ws)∧Ext w w'):=by
  have hw0:=hw
  have hp0:=hp
  obtain⟨a,c,rfl,_,hm,hpp⟩:=hw.sl
  refine A6 (n:=25) (args:=[.agg #[pv],.slice a ws.length c]) Tryz.func221 rfl Tryz.ntmps221 (by simp) ?_
  have hX:=Ext.refl w
  (repeat' (first|(refine C2 Z Z Z Z (fun bX wX xX hbX rX=>?_);replace hX:=hX.trans xX;replace hw0:=hw0.ext xX;replace hp0:=hp0.ext xX)|refine Sy ?_|refine Dy (fun hh=>?_) fun hh=>?_))
  all_goals (try (exfalso;omega))
  all_goals first
    | exact A4 Z Z ⟨by congr 1;unfold Z2;rw [if_pos (by omega)],hX⟩
    | exact A4 Z Z ⟨by congr 1;unfold Z2;rw [if_neg (by omega),if_pos (by omega)],hX⟩
    | skip
  have hE:Z2 segs ws=if ws.all (isB segs) then 0 else 19:=by unfold Z2;rw [if_neg (by omega),if_neg (by omega)]
  refine B0 (ι:=Nat) (fun i=>[(1,.slice a ws.length c),(2,.pointer (some ⟨bX,0,none⟩)),(13,int ws.length),(14,int i)]) (fun i wr=>i≤ws.length∧Ext wX wr∧∀(j:Nat) (x:Int),j<i→ws[j]?=some x→isB segs x=true) (fun i=>ws.length-i) 0
    ⟨rfl,rfl,rfl,rfl,trivial⟩ ⟨Nat.zero_le _,Ext.refl _,fun _ _ h=>absurd h (by omega)⟩ ?_
  rintro i wr ⟨hi,hx,hall⟩
  replace rX:=rX.ext hx;replace hX:=hX.trans hx;replace hp0:=hp0.ext hx;replace hw0:=hw0.ext hx
  by_cases hlt:i<ws.length
  · obtain⟨b,off,rfl⟩:=hpp (by omega)
    obtain⟨x,hxi⟩:∃ x,ws[i]?=some x:=⟨_,List.getElem?_eq_getElem hlt⟩
    have hat:=(Go.Pv.int_elem hw0 hxi).one
    obtain⟨b1,hb1⟩:∃ b,isB segs x=b:=⟨_,rfl⟩
    have c1:=fun wz (xz:Ext wr wz)=>A3v segs pv x wz (hp0.ext xz)
    rw [hb1] at c1
    cases b1
    all_goals (repeat' (first|refine yV Z Z (fun _ _ _=>A0 (m:=i) Z Z Z (by first|rfl|omega) (by omega)) ?_|refine C4 Z Z (fun _ _ _=>A5 Z Z C5r) (c1) ?_|refine Sy ?_|refine Dy (fun hh=>?_) fun hh=>?_|refine yqY ?_|refine yqZ ?_|refine E_dq B5 (by kernel_rfl) Z ?_|refine yN Z (fun wq xq=>?_)))
    all_goals (try (exfalso;omega))
    · have:ws.all (isB segs)=false:=by rw [List.all_eq_false];exact⟨x,List.mem_of_getElem? hxi,by simp [hb1]⟩
      rw [hE,this]
      exact A4 Z Z ⟨rfl,hX.trans xq⟩
    · refine B3 (i+1) ⟨rfl,rfl,rfl,rfl,trivial⟩ ⟨by omega,hx.trans xq,fun j y hj hy=>?_⟩ (by omega)
      by_cases e:j=i
      · subst e;rw [hxi] at hy;cases hy;exact hb1
      · exact hall j y (by omega) hy
  · have:ws.all (isB segs)=true:=by
      rw [List.all_eq_true];intro x hx
      obtain⟨j,hj⟩:=List.getElem?_of_mem hx
      exact hall j x (by have:=(List.getElem?_eq_some_iff.1 hj).1;omega) hj
    (repeat' (first|refine Sy ?_|refine Dy (fun hh=>?_) fun hh=>?_))
    all_goals (try (exfalso;omega))
    rw [hE,this]
    exact A4 Z Z ⟨rfl,hX⟩
theorem B1y (s:List UInt8) (hs:s.length≤1048576) (w:World):Calls Tryz.prog 237 #[str s] w (Rt fun u w'=>(∃ b,u=.bool b)∧Ext w w'):=by
  refine A6 (n:=22) (args:=[str s]) Tryz.func237 rfl Tryz.ntmps237 (by simp) ?_
  (repeat' (first|refine Sy ?_))
  refine B0 (ι:=Nat) (fun i=>[(0,str s),(3,int i)]) (fun i wr=>i≤s.length∧Ext w wr) (fun i=>s.length-i) 0
    ⟨rfl,rfl,trivial⟩ ⟨Nat.zero_le _,Ext.refl _⟩ ?_
  rintro i wr ⟨hi,hx⟩
  by_cases hlt:i<s.length
  · obtain⟨c,hc⟩:∃ c,s[i]?=some c:=⟨_,List.getElem?_eq_getElem hlt⟩
    (repeat' (first|refine eV Z Z (J1 Z Z Z Z hc) ?_|refine Sy ?_|refine Dy (fun hh=>?_) fun hh=>?_))
    all_goals (try (exfalso;omega))
    all_goals first
      | exact A4 Z Z ⟨⟨_,rfl⟩,hx⟩
      | exact B3 (i+1) ⟨rfl,rfl,trivial⟩ ⟨by omega,hx⟩ (by omega)
  · obtain rfl:i=s.length:=by omega
    (repeat' (first|(refine cqC (A0n s hs _) en96 fun wC xC=>?_)|refine Sy ?_|refine Dy (fun hh=>?_) fun hh=>?_))
    all_goals (try (exfalso;omega))
    exact A4 Z Z ⟨⟨_,rfl⟩,hx.trans xC⟩
theorem B7z (l:List Sns) (s:List UInt8) (v:Value) (w:World) (hv:Sl w v l):Calls Tryz.prog 238 #[v,str s] w (Rt fun u w'=>(∃ b,u=.bool b)∧Ext w w'):=by
  have hv0:=hv
  obtain⟨a,c,rfl,_,hm,hpp⟩:=hv.sl
  refine A6 (n:=19) (args:=[.slice a l.length c,str s]) Tryz.func238 rfl Tryz.ntmps238 (by simp) ?_
  (repeat' (first|refine Sy ?_))
  refine B0 (ι:=Nat) (fun i=>[(0,.slice a l.length c),(1,str s),(5,int i)]) (fun i wr=>i≤l.length∧Ext w wr) (fun i=>l.length-i) 0
    ⟨rfl,rfl,rfl,trivial⟩ ⟨Nat.zero_le _,Ext.refl _⟩ ?_
  rintro i wr ⟨hi,hx⟩
  by_cases hlt:i<l.length
  · obtain⟨b,off,rfl⟩:=hpp (by omega)
    obtain⟨x,hxi⟩:∃ x,l[i]?=some x:=⟨_,List.getElem?_eq_getElem hlt⟩
    have hat:=B3o (hv0.ext hx) hxi
    (repeat' (first|refine eV Z Z (A0 (m:=i) Z Z Z (by first|rfl|omega) (by omega)) ?_|refine Ly ?_|refine Dy (fun hh=>?_) fun hh=>?_))
    all_goals (try (exfalso;omega))
    all_goals first
      | exact A4 Z Z ⟨⟨_,rfl⟩,hx⟩
      | exact B3 (i+1) ⟨rfl,rfl,rfl,trivial⟩ ⟨by omega,hx⟩ (by omega)
  · (repeat' (first|refine Sy ?_|refine Dy (fun hh=>?_) fun hh=>?_))
    all_goals (try (exfalso;omega))
    exact A4 Z Z ⟨⟨_,rfl⟩,hx⟩
theorem B1b (l:List Sns) (x:Sns) (hg:x.gloss.length≤1048576) (v:Value) (w:World) (hv:Sl w v l):Calls Tryz.prog 222 #[v,.agg #[str x.gloss,str x.dfn] ] w (Rt fun u w'=>(∃ e:Int,u=int e)∧Ext w w'):=by
  refine A6 (n:=20) (args:=[v,.agg #[str x.gloss,str x.dfn] ]) Tryz.func222 rfl Tryz.ntmps222 (by simp) ?_
  have hX:=Ext.refl w
  (repeat' (first|(refine C2 Z Z Z Z (fun bX wX xX hbX rX=>?_);replace hX:=hX.trans xX;replace hv:=hv.ext xX)|(refine A8 Z Z (A5 Z Z en237) (B1y x.gloss hg _) (fun vC wC hC=>?_);obtain⟨⟨b,rfl⟩,xC⟩:=hC;replace hX:=hX.trans xC;replace hv:=hv.ext xC;replace rX:=rX.ext xC) <;> cases b|(refine A8 Z Z (A5 Z Z en97) (B3k x.dfn _) (fun vC wC hC=>?_);obtain⟨⟨e,rfl,_⟩,xC⟩:=hC;replace hX:=hX.trans xC;replace hv:=hv.ext xC;replace rX:=rX.ext xC)|(refine A8 Z Z (A5 Z Z en238) (B7z l x.gloss v _ hv) (fun vC wC hC=>?_);obtain⟨⟨b,rfl⟩,xC⟩:=hC;replace hX:=hX.trans xC;replace hv:=hv.ext xC;replace rX:=rX.ext xC) <;> cases b|refine Ly ?_|refine Dy (fun hh=>?_) fun hh=>?_))
  all_goals exact A4 Z Z ⟨⟨_,rfl⟩,hX⟩
end
end Go.Proofs.YtjicdgejhkgpgaaGreatDoor