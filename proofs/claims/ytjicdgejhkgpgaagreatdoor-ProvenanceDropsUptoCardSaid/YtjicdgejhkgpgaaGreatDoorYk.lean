/-
  Own text of the proof.
-/
import Derived.Test.YtjicdgejhkgpgaaGreatDoorYj
import Derived.Test.YtjicdgejhkgpgaaGreatDoorYe
import Derived.Test.YtjicdgejhkgpgaaGreatDoorYf
import Derived.Test.YtjicdgejhkgpgaaGreatDoorYg
set_option linter.all false
namespace Go.En
open Go.RowKit
section
variable {P : Program} {n : Nat} {Q : Post} {ops : List Oper}
inductive Pd where
  | v (s:Nat) (x:Value)
  | r (d:Option Nat) (s:Nat) (R:(Nat→Prop)→Value→World→Prop) (con:List Nat)
def Pd.dst:Pd→Option Nat
  | .v s _=>some s
  | .r d _ _ _=>d
def Pd.slot:Pd→Nat
  | .v s _=>s
  | .r _ s _ _=>s
def Pd.con:Pd→List Nat
  | .v _ _=>[]
  | .r _ _ _ c=>c
def Pd.isV:Pd→Bool
  | .v _ _=>true
  | .r ..=>false
def frV:List (Nat × Value)→List Pd→List (Nat × Value)
  | L,[]=>L
  | L,.v s x::r=>frV ((s,x)::L) r
  | L,.r ..::r=>frV L r
theorem B2c : ∀ {its : List Pd} {L : List (Nat × Value)} {s : Nat} {u : Value}, lk (frV L its) s = some u → (∃ j : Nat, its[j]? = some (Pd.v s u)) ∨ lk L s = some u
  | [],_,_,_,h=>.inr h
  | .v t x::r,L,s,u,h=>by
    rcases B2c (its:=r) h with⟨j,hj⟩|h1
    · exact .inl ⟨j+1,by simpa using hj⟩
    · rw [lk] at h1
      cases hb:Nat.beq t s with
      | true=>
        rw [hb] at h1
        have:=Nat.eq_of_beq_eq_true hb
        subst this
        simp at h1;subst h1
        exact .inl ⟨0,rfl⟩
      | false=>rw [hb] at h1;exact .inr (by simpa using h1)
  | .r d t R c::r,L,s,u,h=>by
    rcases B2c (its:=r) h with⟨j,hj⟩|h1
    · exact .inl ⟨j+1,by simpa using hj⟩
    · exact .inr h1
def sk (its:List Pd):List (Option Nat × Nat × Bool × List Nat):=its.map fun p=>(p.dst,p.slot,p.isV,p.con)
abbrev SK:=List (Option Nat × Nat × Bool × List Nat)
def A1m (k:SK) (i:Nat):Option Nat:=(k.getD i (none,0,true,[])).1
def D6 (k:SK) (i:Nat):Nat:=(k.getD i (none,0,true,[])).2.1
def B4t (k:SK) (i:Nat):Bool:=(k.getD i (none,0,true,[])).2.2.1
def X1 (k:SK) (i:Nat):List Nat:=(k.getD i (none,0,true,[])).2.2.2
theorem A9i {its:List Pd} {i:Nat} {p:Pd} (h:its[i]?=some p):A1m (sk its) i=p.dst∧D6 (sk its) i=p.slot∧B4t (sk its) i=p.isV∧X1 (sk its) i=p.con:=by
  have:(sk its).getD i (none,0,true,[])=(p.dst,p.slot,p.isV,p.con):=by
    rw [List.getD_eq_getElem?_getD,sk,List.getElem?_map,h];rfl
  unfold A1m D6 B4t X1
  rw [this];exact⟨rfl,rfl,rfl,rfl⟩
def planB (n:Nat) (ops:List Oper) (k:SK) (bs:List Nat) (fin:List Nat):Bool:=
  decide (k.length=ops.length)&&(decide (∀ i,i<ops.length→some (A1m k i)=ops[i]?.map (·.dst))&&
  (decide (∀ i,i<ops.length→∀ j,j<ops.length→i=j∨A1m k i≠some (D6 k j)∨(A1m k j=none∧i∈X1 k j))&&
  (decide (∀ i,i<ops.length→∀ s∈bs,A1m k i≠some s)&&
  (decide (∀ i,i<ops.length→∀ j∈X1 k i,((bf ops).getD i 0).testBit j=true∧B4t k j=false∧j<ops.length)&&
  (decide (∀ i,i<ops.length→∀ m,m<ops.length→i=m∨∀ j∈X1 k i,j∉X1 k m)&&
  (decide (∀ i,i<ops.length→A1m k i=none∨A1m k i=some (D6 k i))&&
  (decide (∀ i,i<ops.length→D6 k i<n)&&
  decide (∀ j∈fin,j<ops.length∧B4t k j=false∧∀ m,m<ops.length→j∉X1 k m))))))))
def conL (k:SK) (δ:Nat→Value) (con:List Nat):List (Nat × Value):=con.map fun j=>(D6 k j,δ (D6 k j))
theorem B2i {k:SK} {δ:Nat→Value} {L:List (Nat × Value)}:∀ {con:List Nat} {s:Nat} {u:Value},lk (conL k δ con++L) s=some u→(u=δ s∧∃ j∈con,D6 k j=s)∨lk L s=some u
  | [],_,_,h=>.inr h
  | j :: r, s, u, h => by
    have h':lk ((D6 k j,δ (D6 k j))::(conL k δ r++L)) s=some u:=h
    rw [lk] at h'
    cases hb:Nat.beq (D6 k j) s with
    | true=>
      rw [hb] at h'
      have:=Nat.eq_of_beq_eq_true hb
      subst this
      simp at h'
      exact .inl ⟨h'.symm,j,List.mem_cons_self,rfl⟩
    | false=>
      rw [hb] at h'
      rcases B2i (con:=r) h' with⟨h1,m,hm,h2⟩|h1
      · exact .inl ⟨h1,m,List.mem_cons_of_mem _ hm,h2⟩
      · exact .inr h1
def Mv (w0:World) (R:(Nat→Prop)→Value→World→Prop):Prop:=∀ G u w w',R G u w→Ext w0 w→Ext w0 w'→w.heap.size≤w'.heap.size→(∀ b,G b→b<w.heap.size→w'.heap[b]?=w.heap[b]?)→R G u w'
def Ri (its:List Pd) (i:Nat) (G:Nat→Prop) (u:Value) (w:World):Prop:=match its[i]? with|some (.r _ _ R _)=>R G u w|_=>True
theorem B5u {its:List Pd} {i:Nat} {d:Option Nat} {s:Nat} {R:(Nat→Prop)→Value→World→Prop} {c:List Nat} (h:its[i]?=some (.r d s R c)) (G:Nat→Prop) (u:Value) (w:World):Ri its i G u w=R G u w:=by
  unfold Ri;rw [h]
def StepR (P:Program) (L:List (Nat × Value)) (w:World) (o:Oper) (S:Value→World→Prop):Prop:=
  (∃ v w',(∀ ρ,Agree L o ρ→(execOp ρ o).run P w=.ok (.value v) w')∧S v w')∨(∃ w',o.dst=none∧(∀ ρ,Agree L o ρ→(execOp ρ o).run P w=.ok .skip w')∧S undef w')∨(∃ f args,Enters P L w o f args∧Calls P f args w (Rt S))
def A4c (P : Program) (Lb : List (Nat × Value)) (w0 : World) (its : List Pd) (i : Nat) (o : Oper) (d : Option Nat) (s : Nat) (R : (Nat → Prop) → Value → World → Prop) (con : List Nat) : Prop :=
  Mv w0 R∧∀(w:World) (δ:Nat→Value) (Gs:Nat→Nat→Prop),Ext w0 w→(∀ j∈con,Ri its j (Gs j) (δ (D6 (sk its) j)) w∧∀ b,Gs j b→w0.heap.size≤b∧b<w.heap.size)→(∀ j∈con,∀ m∈con,j≠m→∀ b,Gs j b→¬ Gs m b)→
    StepR P (conL (sk its) δ con++frV Lb (its.take i)) w o (fun u w'=>Ext w0 w'∧w.heap.size≤w'.heap.size∧(∀ b,b<w.heap.size→(∀ j∈con,¬ Gs j b)→w'.heap[b]?=w.heap[b]?)∧
      ∃ G',R G' (if d.isSome then u else δ s) w'∧∀ b,G' b→w0.heap.size≤b∧b<w'.heap.size∧(w.heap.size≤b∨∃ j∈con,Gs j b))
def RSq (P:Program) (Lb:List (Nat × Value)) (w0:World) (its:List Pd):Nat→List Oper→List Pd→Prop
  | i,o::r,.v _ x::xs=>VC P (frV Lb (its.take i)) w0 o x∧RSq P Lb w0 its (i+1) r xs
  | i,o::r,.r d s R con::xs=>A4c P Lb w0 its i o d s R con∧RSq P Lb w0 its (i+1) r xs
  | _,[],[]=>True
  | _,_,_=>False
theorem RSq.get {Lb:List (Nat × Value)} {w0:World} {its:List Pd}:∀ {k:Nat} {os:List Oper} {xs:List Pd},RSq P Lb w0 its k os xs→∀ {i:Nat} {o:Oper} {p:Pd},os[i]?=some o→xs[i]?=some p→
    match p with | .v _ x=>VC P (frV Lb (its.take (k+i))) w0 o x | .r d s R con=>A4c P Lb w0 its (k+i) o d s R con
  | k,o::r,.v s x::xs,h,0,o',p,ho,hp=>by simp at ho hp;subst ho;subst hp;exact h.1
  | k,o::r,.r d s R con::xs,h,0,o',p,ho,hp=>by simp at ho hp;subst ho;subst hp;exact h.1
  | k,o::r,.v s x::xs,h,i+1,o',p,ho,hp=>by
    have:=RSq.get (k:=k+1) h.2 (i:=i) (by simpa using ho) (by simpa using hp)
    rwa [show k+1+i=k+(i+1) by omega] at this
  | k,o::r,.r d s R con::xs,h,i+1,o',p,ho,hp=>by
    have:=RSq.get (k:=k+1) h.2 (i:=i) (by simpa using ho) (by simpa using hp)
    rwa [show k+1+i=k+(i+1) by omega] at this
  | _,[],_,_,_,_,_,ho,_=>by simp at ho
  | _,_::_,[],h,_,_,_,_,_=>h.elim
def Live (m:Nat) (k:SK) (C:Nat→Prop) (i:Nat):Prop:=i<m∧C i∧B4t k i=false∧∀ j,j<m→C j→i∉X1 k j
structure JR (n:Nat) (Lb:List (Nat × Value)) (w0:World) (its:List Pd) (ops:List Oper) (C:Nat→Prop) (a:Act) (w:World):Prop where
  size:a.tmps.size=n
  nod:a.defers=[]
  ext:Ext w0 w
  base:∀ s v,lk Lb s=some v→a.tmps[s]?=some v
  vals:∀ i s x,C i→its[i]?=some (.v s x)→a.tmps[s]?=some x
  res:∃ Gs:Nat→Nat→Prop,(∀ i,Live ops.length (sk its) C i→Ri its i (Gs i) (a.tmps.getD (D6 (sk its) i) undef) w∧∀ b,Gs i b→w0.heap.size≤b∧b<w.heap.size)∧
    ∀ i j,Live ops.length (sk its) C i→Live ops.length (sk its) C j→i≠j→∀ b,Gs i b→¬ Gs j b
theorem B4z {a:Act} {d:Option Tmp} {v:Value} {s:Nat} (h:d≠some s):(a.put d v).tmps.getD s undef=a.tmps.getD s undef:=by
  rw [Array.getD_eq_getD_getElem?,A0h h,← Array.getD_eq_getD_getElem?]
theorem E_res {id:Nat} {Lb:List (Nat × Value)} {w0:World} (its:List Pd) (fin:List Nat) (hm:P.follows .mixedOrders=true) (hc:(Z1 ops&&S5 ops ops.length)=true) (hgd:ops.all (fun o=>o.guard.isNone)=true)
    (hp:planB n ops (sk its) (Lb.map Prod.fst) fin=true) (hV:RSq P Lb w0 its 0 ops its)
    (k:∀(w:World) (δ:Nat→Value) (Gs:Nat→Nat→Prop),Ext w0 w→(∀ i∈fin,Ri its i (Gs i) (δ (D6 (sk its) i)) w∧∀ b,Gs i b→w0.heap.size≤b∧b<w.heap.size)→(∀ i∈fin,∀ j∈fin,i≠j→∀ b,Gs i b→¬ Gs j b)→K n Q .normal (conL (sk its) δ fin++frV Lb its) w) :
    E P n (.region id ops.toArray true) Q Lb w0:=by
  intro a ha
  simp only [Bool.and_eq_true] at hc
  obtain⟨hlow,hreads⟩:=hc
  simp only [planB,Bool.and_eq_true,decide_eq_true_eq] at hp
  obtain⟨p1,p2,p3',p4,p5,p6',p7,p8,p9⟩:=hp
  have p3:∀ i,i<ops.length→∀ j,j<ops.length→i≠j→A1m (sk its) i=some (D6 (sk its) j)→A1m (sk its) j=none∧i∈X1 (sk its) j:=fun i hi j hj hne he=>by
    rcases p3' i hi j hj with h|h|h
    · exact absurd h hne
    · exact absurd he h
    · exact h
  have p6:∀ i,i<ops.length→∀ m,m<ops.length→i≠m→∀ j∈X1 (sk its) i,j∉X1 (sk its) m:=fun i hi m hm hne=>by
    rcases p6' i hi m hm with h|h
    · exact absurd h hne
    · exact h
  have hlen:its.length=ops.length:=by rw [← p1];simp [sk]
  have item:∀ {i:Nat} {o:Oper},ops[i]?=some o→∃ p,its[i]?=some p∧o.dst=p.dst:=fun {i o} ho=>by
    have hi:=(List.getElem?_eq_some_iff.1 ho).1
    obtain⟨p,hp⟩:∃ p,its[i]?=some p:=⟨_,List.getElem?_eq_getElem (by omega)⟩
    refine⟨p,hp,?_⟩
    have:=p2 i hi
    rw [ho,Option.map_some,(A9i hp).1] at this
    exact(Option.some.inj this).symm
  have op_at:∀ {i:Nat} {p:Pd},its[i]?=some p→∃ o,ops[i]?=some o∧o.dst=p.dst:=fun {i p} hp=>by
    have hi:=(List.getElem?_eq_some_iff.1 hp).1
    obtain⟨o,ho⟩:∃ o,ops[i]?=some o:=⟨_,List.getElem?_eq_getElem (by omega)⟩
    obtain⟨p',hp',hd⟩:=item ho
    rw [hp] at hp';cases hp'
    exact⟨o,ho,hd⟩
  have hbs:∀ {s:Nat} {v:Value},lk Lb s=some v→s∈Lb.map Prod.fst:=fun h=>by
    obtain⟨j,hj⟩:=lk_get h
    exact List.mem_map.2 ⟨_,List.mem_of_getElem? hj,rfl⟩
  refine wp_region_any hm ?_
  rw [show ops.toArray.size=ops.length by simp]
  have hfl:∀ i,¬ LsD (Array.replicate ops.length false) i:=fun i=>by
    unfold LsD;simp [Array.getElem?_replicate];split <;> simp
  refine C6n (J:=JR n Lb w0 its ops) hlow (fun o ho=>by have:=List.all_eq_true.1 hgd o ho;simpa using this) ?_ ?_ _ _ a _ (by simp) (fun i o _ hi=>absurd hi (hfl i))
    ⟨ha.size,ha.nod,P9 w0,fun s v hs=>ha.get s v hs,fun i s x hi=>absurd hi (hfl i),⟨fun _ _=>False,fun i h=>absurd h.2.1 (hfl i),fun i j h=>absurd h.2.1 (hfl i)⟩⟩ (by
      have:=J7 (N:=ops.length) (Nat.zero_le _) (listed:=Array.replicate ops.length false) (fun i=>⟨fun h=>absurd h (hfl i),fun h=>absurd h (Nat.not_lt_zero _)⟩)
      omega)
  · intro C C' a w i o I hcl hi ho hed hC' K Q' hK
    have hil:=(List.getElem?_eq_some_iff.1 ho).1
    have hreach:∀ {j:Nat},Rch ops i j→C j:=fun hr=>hr.clo hcl (fun o2 ho2=>by rw [ho] at ho2;cases ho2;exact hed)
    have hbit:∀ {j:Nat},((bf ops).getD i 0).testBit j=true→C j:=fun h=>hreach (A0t h)
    have hnbit:∀ {j:Nat},C j→((bf ops).getD j 0).testBit i=true→False:=fun {j} hj h=>hi ((A0t h).clo hcl (fun o3 ho3 e he hb=>hcl _ _ ho3 hj e he hb))
    obtain⟨p,hpi,hdp⟩:=item ho
    obtain⟨k1,k2,k3,k4⟩:=A9i hpi
    have hfr:∀ {t:Nat} {u:Value},.tmp t∈o.op.operands→lk (frV Lb (its.take i)) t=some u→a.tmps[t]?=some u:=fun {t u} hx hl=>by
      rcases B2c hl with⟨j,hj⟩|h1
      · have hji:j<i:=by have:=(List.getElem?_eq_some_iff.1 hj).1;simp at this;omega
        rw [List.getElem?_take_of_lt hji] at hj
        obtain⟨o2,ho2,hd2⟩:=op_at hj
        have hr:=H9 hreads ho hil ho2 (List.getElem?_eq_some_iff.1 ho2).1 (P4 hx) hd2
        exact I.vals j t u (hreach (hr.1 hji)) hj
      · exact I.base t u h1
    have hag:∀ {M:List (Nat × Value)},(∀ t u,.tmp t∈o.op.operands→lk M t=some u→a.tmps.getD t undef=u)→Agree M o a.eval:=fun {M} h x hx u hu=>by
      cases x with
      | tmp t=>simp only [En.ev] at hu;exact h t u hx hu
      | const u'=>simpa [En.ev,Act.eval] using hu
      | global g=>simpa [En.ev,Act.eval] using hu
      | func f=>simpa [En.ev,Act.eval] using hu
    have hgetD:∀ {t:Nat} {u:Value},a.tmps[t]?=some u→a.tmps.getD t undef=u:=fun h=>by rw [Array.getD_eq_getD_getElem?,h];rfl
    have hslot:∀ {s:Nat},o.dst=some s→s<a.tmps.size:=fun {s} hs=>by
      rw [I.size]
      have h7:=p7 i hil
      have h8:=p8 i hil
      rw [k1,← hdp,hs] at h7
      rcases h7 with h7|h7
      · cases h7
      · have:=Option.some.inj h7;omega
    have hbase:∀(u:Value) s v,lk Lb s=some v→(a.put o.dst u).tmps[s]?=some v:=fun u s v hs=>by
      rw [A0h (fun e=>p4 i hil s (hbs hs) (by rw [k1,← hdp];exact e))]
      exact I.base s v hs
    have hC1:C' i:=(hC' i).2 (.inl rfl)
    have hC2:∀ {j:Nat},C j→C' j:=fun h=>(hC' _).2 (.inr h)
    have hvals:∀(u:Value),(∀ s x,p=Pd.v s x→u=x)→∀ j s x,C' j→its[j]?=some (Pd.v s x)→(a.put o.dst u).tmps[s]?=some x:=fun u hu j s x hj hjs=>by
      by_cases e:j=i
      · subst e
        rw [hpi] at hjs
        have hpe:=Option.some.inj hjs
        have hd:o.dst=some s:=by rw [hdp,hpe];rfl
        rw [hd,hu s x hpe]
        exact A6p (hslot hd)
      · have hjl:j<ops.length:=by have:=(List.getElem?_eq_some_iff.1 hjs).1;omega
        obtain⟨m1,m2,_,_⟩:=A9i hjs
        rw [A0h (fun e2=>by
          have:=(p3 i hil j hjl (fun e3=>e e3.symm) (by rw [k1,← hdp,e2,m2];rfl)).1
          rw [m1] at this;cases this)]
        exact I.vals j s x (((hC' j).1 hj).resolve_left e) hjs
    obtain⟨Gs,hG1,hG2⟩:=I.res
    have hget:=RSq.get hV ho hpi
    rw [Nat.zero_add] at hget
    have hMv:∀(j:Nat) d s R c,its[j]?=some (Pd.r d s R c)→Mv w0 R:=fun j d s R c hj=>by
      obtain⟨o2,ho2,_⟩:=op_at hj
      have:=RSq.get hV ho2 hj
      exact this.1
    have hstay:∀ {j:Nat} {u:Value} {w':World},Live ops.length (sk its) C j→j≠i→(o.dst≠some (D6 (sk its) j))→Ext w0 w'→w.heap.size≤w'.heap.size→(∀ b,Gs j b→w'.heap[b]?=w.heap[b]?)→
        Ri its j (Gs j) ((a.put o.dst u).tmps.getD (D6 (sk its) j) undef) w'∧∀ b,Gs j b→w0.heap.size≤b∧b<w'.heap.size:=fun {j u w'} hj hji hds hx hs hsame=>by
      obtain⟨g1,g2⟩:=hG1 j hj
      refine⟨?_,fun b hb=>⟨(g2 b hb).1,by have:=(g2 b hb).2;omega⟩⟩
      rw [B4z hds]
      obtain⟨q,hq⟩:∃ q,its[j]?=some q:=⟨_,List.getElem?_eq_getElem (by have:=hj.1;omega)⟩
      cases q with
      | v s x=>unfold Ri;rw [hq];trivial
      | r d s R c=>
        rw [B5u hq] at g1 ⊢
        exact hMv j d s R c hq _ _ _ _ g1 I.ext hx hs (fun b hb _=>hsame b hb)
    cases p with
    | v s x =>
      have hd:o.dst=some s:=hdp
      have hcon:X1 (sk its) i=[]:=k4
      have hlive:∀ {j},Live ops.length (sk its) C' j→Live ops.length (sk its) C j∧j≠i:=fun {j} h=>by
        have hji:j≠i:=fun e=>by subst e;have:=h.2.2.1;rw [k3] at this;cases this
        exact⟨⟨h.1,((hC' j).1 h.2.1).resolve_left hji,h.2.2.1,fun m hm hcm=>h.2.2.2 m hm (hC2 hcm)⟩,hji⟩
      have hds:∀ {j},Live ops.length (sk its) C j→j≠i→o.dst≠some (D6 (sk its) j):=fun {j} h hji e=>by
        have:=p3 i hil j h.1 (fun e=>hji e.symm) (by rw [k1,← hdp];exact e)
        have h5:=(p5 j h.1 i this.2).2.1
        rw [k3] at h5;cases h5
      have fin_:∀(w':World),Ext w w'→JR n Lb w0 its ops C' (a.put o.dst x) w':=fun w' xw=>
        ⟨by rw [R7];exact I.size,by rw [X7];exact I.nod,I.ext.trans xw,hbase x,hvals x (fun s' x' e=>by cases e;rfl),⟨Gs,fun j hj=>by
          obtain⟨h1,h2⟩:=hlive hj
          exact hstay h1 h2 (hds h1 h2) (I.ext.trans xw) xw.size (fun b hb=>xw.block ((hG1 j h1).2 b hb).2),fun j m hj hm=>hG2 j m (hlive hj).1 (hlive hm).1⟩⟩
      have hA:Agree (frV Lb (its.take i)) o a.eval:=hag fun t u hx hl=>hgetD (hfr hx hl)
      rcases hget with hval|⟨f,args,hent,hcall⟩
      · unfold Oper.wp
        rw [hval w I.ext a.eval hA]
        exact hK x w (fin_ w (Ext.refl w))
      · unfold Oper.wp
        rw [hent w I.ext a.eval hA,Oper.upon_enter]
        refine(hcall w I.ext).mono ?_
        rintro e w' ⟨v,rfl,rfl,xw⟩
        exact hK v w' (fin_ w' xw)
    | r d s R con =>
      have hcon:X1 (sk its) i=con:=k4
      have hconL:∀ j∈con,Live ops.length (sk its) C j:=fun j hj=>by
        obtain⟨h1,h2,h3⟩:=p5 i hil j (by rw [hcon];exact hj)
        refine⟨h3,hbit h1,h2,fun m hm hcm hin=>?_⟩
        by_cases e:m=i
        · subst e;exact hi hcm
        · exact p6 i hil m hm (fun e'=>e e'.symm) j (by rw [hcon];exact hj) hin
      have hlive:∀ {j},Live ops.length (sk its) C' j→j≠i→Live ops.length (sk its) C j∧j∉con:=fun {j} h hji=>
        ⟨⟨h.1,((hC' j).1 h.2.1).resolve_left hji,h.2.2.1,fun m hm hcm=>h.2.2.2 m hm (hC2 hcm)⟩,fun hin=>h.2.2.2 i hil hC1 (by rw [hcon];exact hin)⟩
      have hds:∀ {j},Live ops.length (sk its) C j→j≠i→o.dst≠some (D6 (sk its) j):=fun {j} h hji e=>by
        have:=p3 i hil j h.1 (fun e=>hji e.symm) (by rw [k1,← hdp];exact e)
        exact hnbit h.2.1 (p5 j h.1 i this.2).1
      obtain⟨_,hst⟩:=hget
      have hstep:=hst w (fun t=>a.tmps.getD t undef) Gs I.ext (fun j hj=>hG1 j (hconL j hj)) (fun j hj m hm hne=>hG2 j m (hconL j hj) (hconL m hm) hne)
      have hA:Agree (conL (sk its) (fun t=>a.tmps.getD t undef) con++frV Lb (its.take i)) o a.eval:=hag fun t u hx hl=>by
        rcases B2i hl with⟨h1,_⟩|h1
        · exact h1.symm
        · exact hgetD (hfr hx h1)
      have fin_ : ∀ (u : Value) (w' : World), (o.dst = none ∨ True) → (Ext w0 w' ∧ w.heap.size ≤ w'.heap.size ∧ (∀ b, b < w.heap.size → (∀ j ∈ con, ¬ Gs j b) → w'.heap[b]? = w.heap[b]?) ∧
          ∃ G',R G' (if d.isSome then u else a.tmps.getD s undef) w'∧∀ b,G' b→w0.heap.size≤b∧b<w'.heap.size∧(w.heap.size≤b∨∃ j∈con,Gs j b))→JR n Lb w0 its ops C' (a.put o.dst u) w':=by
        rintro u w' _ ⟨hx,hs,hsame,G',hR,hG'⟩
        refine⟨by rw [R7];exact I.size,by rw [X7];exact I.nod,hx,hbase u,hvals u (fun s' x' e=>by cases e),⟨fun j=>if j=i then G' else Gs j,fun j hj=>?_,fun j m hj hm hne b=>?_⟩⟩
        · dsimp only
          by_cases e:j=i
          · subst e
            rw [if_pos rfl]
            refine⟨?_,fun b hb=>⟨(hG' b hb).1,(hG' b hb).2.1⟩⟩
            rw [B5u hpi,k2]
            show R G' ((a.put o.dst u).tmps.getD s undef) w'
            cases d with
            | none=>
              rw [show o.dst=none from hdp]
              simpa [Act.put] using hR
            | some d0=>
              have h7:=p7 j hil
              rw [k1,k2] at h7
              have hd0:d0=s:=by
                rcases h7 with h7|h7
                · cases h7
                · exact Option.some.inj h7
              subst hd0
              have hd:o.dst=some d0:=hdp
              have:(a.put o.dst u).tmps.getD d0 undef=u:=by
                rw [hd,Array.getD_eq_getD_getElem?,A6p (hslot hd)];rfl
              rw [this]
              simpa using hR
          · rw [if_neg e]
            obtain⟨h1,h2⟩:=hlive hj e
            refine hstay h1 e (hds h1 e) hx hs (fun b hb=>hsame b ((hG1 j h1).2 b hb).2 (fun m hm hgm=>?_))
            exact hG2 j m h1 (hconL m hm) (fun e'=>h2 (e'▸hm)) b hb hgm
        · dsimp only
          by_cases e:j=i
          · subst e
            rw [if_pos rfl,if_neg (fun e'=>hne e'.symm)]
            intro hb hbm
            obtain⟨h1,h2⟩:=hlive hm (fun e'=>hne e'.symm)
            rcases (hG' b hb).2.2 with h|⟨q,hq,hgq⟩
            · have:=((hG1 m h1).2 b hbm).2;omega
            · exact hG2 m q h1 (hconL q hq) (fun e'=>h2 (e'▸hq)) b hbm hgq
          · rw [if_neg e]
            obtain⟨h1,h2⟩:=hlive hj e
            by_cases e2:m=i
            · subst e2
              rw [if_pos rfl]
              intro hb hbm
              rcases (hG' b hbm).2.2 with h|⟨q,hq,hgq⟩
              · have:=((hG1 j h1).2 b hb).2;omega
              · exact hG2 j q h1 (hconL q hq) (fun e'=>h2 (e'▸hq)) b hb hgq
            · rw [if_neg e2]
              exact hG2 j m h1 (hlive hm e2).1 hne b
      rcases hstep with⟨v,w',hrun,hS⟩|⟨w',hdn,hrun,hS⟩|⟨f,args,hent,hcall⟩
      · unfold Oper.wp
        rw [hrun a.eval hA]
        exact hK v w' (fin_ v w' (.inr trivial) hS)
      · unfold Oper.wp
        rw [hrun a.eval hA]
        exact hK undef w' (fin_ undef w' (.inl hdn) hS)
      · unfold Oper.wp
        rw [hent a.eval hA,Oper.upon_enter]
        refine hcall.mono ?_
        rintro e w' ⟨v,rfl,hS⟩
        exact hK v w' (fin_ v w' (.inr trivial) hS)
  · intro C a w hall I
    obtain⟨Gs,hG1,hG2⟩:=I.res
    have hlf:∀ i∈fin,Live ops.length (sk its) C i:=fun i hi=>by
      obtain⟨h1,h2,h3⟩:=p9 i hi
      exact⟨h1,hall i h1,h2,fun m hm _=>h3 m hm⟩
    refine k w (fun t=>a.tmps.getD t undef) Gs I.ext (fun i hi=>hG1 i (hlf i hi)) (fun i hi j hj hne=>hG2 i j (hlf i hi) (hlf j hj) hne) a ⟨I.size,I.nod,fun s v hs=>?_⟩
    rcases B2i hs with⟨h1,j,hj,h2⟩|h1
    · have hsn:s<a.tmps.size:=by rw [I.size,← h2];exact p8 j (p9 j hj).1
      rw [h1,Array.getD_eq_getD_getElem?,Array.getElem?_eq_getElem hsn];rfl
    · rcases B2c h1 with⟨j,hj⟩|h3
      · exact I.vals j s v (hall j (by have:=(List.getElem?_eq_some_iff.1 hj).1;omega)) hj
      · exact I.base s v h3
end
end Go.En
namespace Go.En
open Go.RowKit
section
variable {P : Program} {n : Nat} {Q : Post} {ops : List Oper}
theorem C4q {w w':World} {B:Nat} {e:TypeId} {sz:Nat} {v:Value} {m:Nat} {xs:List Value} (h:w.ownsRow B e sz v m xs) (hs:∀ b,v.ownBlock=some b→w'.heap[b]?=w.heap[b]?):w'.ownsRow B e sz v m xs:=by
  obtain⟨h1,h2⟩:=h
  refine⟨h1,?_⟩
  rcases h2 with h2|⟨g,cap,cur,rfl,h3,h4,h5⟩
  · exact .inl h2
  · exact .inr ⟨g,cap,cur,rfl,h3,by rw [hs g rfl];exact h4,h5⟩
def ROwn (B:Nat) (e:TypeId) (sz m:Nat) (xs:List Value):(Nat→Prop)→Value→World→Prop:=fun G u w=>w.ownsRow B e sz u m xs∧∀ b,u.ownBlock=some b→G b
theorem B1n {w0:World} {B:Nat} {e:TypeId} {sz m:Nat} {xs:List Value}:Mv w0 (ROwn B e sz m xs):=fun G u w w' h _ _ _ hs=>
  ⟨C4q h.1 (fun b hb=>hs b (h.2 b hb) (h.1.lt b hb).2),h.2⟩
variable {w0 : World} {Lb : List (Nat × Value)} {its : List Pd} {i : Nat} {o : Oper}
theorem C3x {d:Nat} {t e:TypeId} {z:Value} {size bytes len:Nat} {ps:List (Nat × Operand)} {vs cs:List Value} [UT P t (.slice e)] [TI P e z size bytes] (ho:o.op=.buildSlice t len ps.toArray)
    (hps:evs (frV Lb (its.take i)) 0 ps=some vs) (hv:vs.all (fun v=>Nat.beq v.cells.size size)=true) (hl:Nat.beq vs.length len=true) (hsm:Nat.ble (len*size) 16777216=true) (hcs:(vs.map fun v=>v.cells.toList).flatten=cs) (hlen:cs.length=len*size) (hb:len≤9223372036854775807) :
    A4c P Lb w0 its i o (some d) d (ROwn w0.heap.size e size len cs) []:=
  ⟨B1n,fun w δ Gs hx _ _=>.inl ⟨.slice (some ⟨w.heap.size,0,none⟩) len len,w.alloc (.cells cs.toArray e),fun ρ ha=>B1f ho hps hv hl hsm hcs ha,hx.trans (H5 _ _),(H5 w (.cells cs.toArray e)).size,fun b hb _=>(H5 w (.cells cs.toArray e)).block hb,
    fun b=>b=w.heap.size,⟨K9 (by have:=K1 w e cs.toArray;exact this) hlen hx.size hb,fun b hb=>(Option.some.inj hb).symm⟩,fun b hb=>by
      subst hb
      refine⟨hx.size,?_,.inl (Nat.le_refl _)⟩
      have:=(K1 w e cs.toArray).lt;exact this⟩⟩
theorem B4b {w:World} {v v':Value} {G:Nat→Prop} (h1:v'.ownBlock=v.ownBlock∨v'.ownBlock=some w.heap.size) (hG:∀ b,v.ownBlock=some b→G b):∀ b,v'.ownBlock=some b→w.heap.size≤b∨G b:=fun b hb=>by
  rcases h1 with h1|h1
  · exact .inr (hG b (by rw [← h1];exact hb))
  · rw [h1] at hb;cases hb;exact .inl (Nat.le_refl _)
theorem st_app {d j sj m q c:Nat} {dj:Option Nat} {cj:List Nat} {t e:TypeId} {z:Value} {size bytes:Nat} {x:Operand} {xs news:List Value} {a:Option Addr} [ut:UT P t (.slice e)] [ti:TI P e z size bytes] (hj:its[j]?=some (.r dj sj (ROwn w0.heap.size e size m xs) cj))
    (ho:o.op=.call { callee:=.builtin .append,args:=#[.tmp sj,x],argTypes:=#[t,t] }) (hx:∀ δ,ev (conL (sk its) δ [j]++frV Lb (its.take i)) x=some (.slice a q c))
    (hnews:∀ w,Ext w0 w→0<q→∃ b off,a=some ⟨b,off,none⟩∧At w b off news) (hl:news.length=q*size) (h1:news.all Value.oneCell'=true) (hz:z.cells.size=size) (hsz:Nat.ble 1 size=true) (hmax:(m+q)*bytes≤140737488355328) (hmax':m+q≤9223372036854775807) :
    A4c P Lb w0 its i o (some d) d (ROwn w0.heap.size e size (m+q) (xs++news)) [j]:=by
  refine⟨B1n,fun w δ Gs hxw hres _=>?_⟩
  obtain⟨hR,hG⟩:=hres j (List.mem_singleton.2 rfl)
  have hsl:D6 (sk its) j=sj:=(A9i hj).2.1
  rw [B5u hj,hsl] at hR
  obtain⟨v',w',hrun,hown,hx',hk,hb⟩:=C0x (P:=P) t o.type (e:=e) c (a:=a) (q:=q) (news:=news) hR.1 hxw (hnews w hxw) hl h1 hz hsz hmax hmax'
  have hs:ev (conL (sk its) δ [j]++frV Lb (its.take i)) (.tmp sj)=some (δ sj):=by
    show lk ((D6 (sk its) j,δ (D6 (sk its) j))::_) sj=_
    rw [hsl,lk];simp
  refine .inl ⟨v',w',fun ρ ha=>A6e ho hs (hx δ) hrun ρ ha,hx',hk.size,fun b hb hn=>World.grownBy.block hk b hb (fun e=>hn j (List.mem_singleton.2 rfl) (hR.2 b e.symm)),fun b=>v'.ownBlock=some b,⟨hown,fun b hb=>hb⟩,fun b hbb=>?_⟩
  have:=hown.lt b hbb
  refine⟨this.1,this.2,?_⟩
  rcases B4b hb hR.2 b hbb with h|h
  · exact .inl h
  · exact .inr ⟨j,List.mem_singleton.2 rfl,h⟩
theorem st_app2 {d j l sj sl m q:Nat} {dj dl:Option Nat} {cj cl:List Nat} {t e:TypeId} {z:Value} {size bytes:Nat} {xs news:List Value} [ut:UT P t (.slice e)] [ti:TI P e z size bytes] (hj:its[j]?=some (.r dj sj (ROwn w0.heap.size e size m xs) cj)) (hl0:its[l]?=some (.r dl sl (ROwn w0.heap.size e size q news) cl))
    (ho:o.op=.call { callee:=.builtin .append,args:=#[.tmp sj,.tmp sl],argTypes:=#[t,t] }) (hne:sj≠sl) (h1:news.all Value.oneCell'=true) (hz:z.cells.size=size) (hsz:Nat.ble 1 size=true) (hmax:(m+q)*bytes≤140737488355328) (hmax':m+q≤9223372036854775807) :
    A4c P Lb w0 its i o (some d) d (ROwn w0.heap.size e size (m+q) (xs++news)) [j,l]:=by
  refine⟨B1n,fun w δ Gs hxw hres _=>?_⟩
  obtain⟨hR,hG⟩:=hres j (by simp)
  obtain⟨hR2,hG2⟩:=hres l (by simp)
  have hsl:D6 (sk its) j=sj:=(A9i hj).2.1
  have hsl2:D6 (sk its) l=sl:=(A9i hl0).2.1
  rw [B5u hj,hsl] at hR
  rw [B5u hl0,hsl2] at hR2
  obtain⟨a,c,hu,hat⟩:∃ a c,δ sl=.slice a q c∧(0<q→∃ b off,a=some ⟨b,off,none⟩∧At w b off news):=by
    rcases W0 hR2.1 with⟨e1,e2,_⟩|⟨b,cap,e1,_,_,_,e2⟩
    · exact⟨none,0,by rw [e1,e2],fun h=>by omega⟩
    · exact⟨_,cap,e1,fun _=>⟨b,0,rfl,e2⟩⟩
  obtain⟨v',w',hrun,hown,hx',hk,hb⟩:=C0x (P:=P) t o.type (e:=e) c (a:=a) (q:=q) (news:=news) hR.1 hxw hat hR2.1.1 h1 hz hsz hmax hmax'
  have hs:ev (conL (sk its) δ [j,l]++frV Lb (its.take i)) (.tmp sj)=some (δ sj):=by
    show lk ((D6 (sk its) j,δ (D6 (sk its) j))::_) sj=_
    rw [hsl,lk];simp
  have hs2:ev (conL (sk its) δ [j,l]++frV Lb (its.take i)) (.tmp sl)=some (.slice a q c):=by
    show lk ((D6 (sk its) j,δ (D6 (sk its) j))::(D6 (sk its) l,δ (D6 (sk its) l))::_) sl=_
    rw [hsl,hsl2,lk,lk]
    have:Nat.beq sj sl=false:=by
      cases hb:Nat.beq sj sl with
      | false=>rfl
      | true=>exact absurd (Nat.eq_of_beq_eq_true hb) hne
    rw [this];simp [hu]
  refine .inl ⟨v',w',fun ρ ha=>A6e ho hs hs2 hrun ρ ha,hx',hk.size,fun b hb hn=>World.grownBy.block hk b hb (fun e=>hn j (by simp) (hR.2 b e.symm)),fun b=>v'.ownBlock=some b,⟨hown,fun b hb=>hb⟩,fun b hbb=>?_⟩
  have:=hown.lt b hbb
  refine⟨this.1,this.2,?_⟩
  rcases B4b hb hR.2 b hbb with h|h
  · exact .inl h
  · exact .inr ⟨j,by simp,h⟩
theorem st_val {d:Nat} {R:(Nat→Prop)→Value→World→Prop} {con:List Nat} (hmv:Mv w0 R)
    (h:∀(w:World) (δ:Nat→Value) (Gs:Nat→Nat→Prop),Ext w0 w→(∀ j∈con,Ri its j (Gs j) (δ (D6 (sk its) j)) w)→∃ v,Val P (conL (sk its) δ con++frV Lb (its.take i)) w o v∧R (fun b=>∃ j∈con,Gs j b) v w) :
    A4c P Lb w0 its i o (some d) d R con:=
  ⟨hmv,fun w δ Gs hxw hres _=>by
    obtain⟨v,hv,hR⟩:=h w δ Gs hxw (fun j hj=>(hres j hj).1)
    exact .inl ⟨v,w,hv,hxw,Nat.le_refl _,fun _ _ _=>rfl,_,hR,fun b ⟨j,hj,hb⟩=>⟨((hres j hj).2 b hb).1,((hres j hj).2 b hb).2,.inr ⟨j,hj,hb⟩⟩⟩⟩
end
end Go.En
namespace Go.Proofs.YtjicdgejhkgpgaaGreatDoor
section
open Go.RowKit Go.En Go.Pv
def Kp (v v':Value) (w w':World):Prop:=Kb v.ownBlock w w'∧(v'.ownBlock=v.ownBlock∨∃ b,v'.ownBlock=some b∧w.heap.size≤b)
theorem Kp.trans {a b c:Value} {w w1 w2:World} (h:Kp a b w w1) (k:Kp b c w1 w2):Kp a c w w2:=by
  obtain⟨h1,h2⟩:=h
  obtain⟨k1,k2⟩:=k
  refine⟨⟨k1.os.trans h1.os,k1.tape.trans h1.tape,k1.output.trans h1.output,Nat.le_trans h1.size k1.size,fun q hq hne=>?_⟩,?_⟩
  · rw [World.grownBy.block k1 q (Nat.lt_of_lt_of_le hq h1.size) (by
      rcases h2 with h2|⟨b',e,hb⟩
      · rw [h2];exact hne
      · rw [e];intro e';cases e';omega)]
    exact World.grownBy.block h1 q hq hne
  · have hs:=h1.size
    rcases k2 with k2|⟨b',e,hb⟩
    · rw [k2];exact h2
    · exact .inr ⟨b',e,by omega⟩
theorem Kp.mv {v v':Value} {w w':World} (h:Kp v v' w w'):∀ b,Nb v b→b<w.heap.size→Nb v' b∧w'.heap[b]?=w.heap[b]?:=fun b hb hlt=>by
  refine⟨?_,World.grownBy.block h.1 b hlt hb⟩
  unfold Nb at*
  rcases h.2 with h2|⟨b',e,hb'⟩
  · rw [h2];exact hb
  · rw [e];intro e';cases e';omega
theorem Kp.row {v v':Value} {w w':World} (h:Kp v v' w w') {b:Nat} {e:TypeId} {cs:List Value} (hr:Row w b e cs) (hb:Nb v b):Row w' b e cs∧Nb v' b:=by
  obtain⟨h1,h2⟩:=h.mv b hb hr.lt
  exact⟨h2.trans hr,h1⟩
theorem Kp.size {v v':Value} {w w':World} (h:Kp v v' w w'):w.heap.size≤w'.heap.size:=h.1.size
attribute [local irreducible] E EL K Val Enters Rt Calls bodyPost Code.wp RQ
end
section
open Go.RowKit Go.En Go.Pv
attribute [local irreducible] E EL K Val Enters Rt Calls bodyPost Code.wp RQ
end
section
open Go.RowKit Go.En Go.Pv
attribute [local irreducible] E EL K Val Enters Rt Calls bodyPost Code.wp RQ
end
section
open Go.RowKit Go.En Go.Pv
attribute [local irreducible] E EL K Val Enters Rt Calls bodyPost Code.wp RQ
end
section
open Go.RowKit Go.En Go.Pv
theorem A6a {us : List Unt} (hg : ∀ u ∈ us, 1 ≤ u.graph.length) : ∀ (n k : Nat) (t : List UInt8), t.length ≤ n → t.length ≤ k → G3 us k t = G3 us n t
  | 0,0,_,_,_=>rfl
  | 0,k+1,t,h,_=>by
    have:t=[]:=List.length_eq_zero_iff.1 (by omega)
    subst this;rw [G3,G3,if_pos rfl]
  | n+1,0,t,_,h=>by
    have:t=[]:=List.length_eq_zero_iff.1 (by omega)
    subst this;rw [G3,G3,if_pos rfl]
  | n + 1, k + 1, t, h1, h2 => by
    rw [G3,G3]
    by_cases ht:t=[]
    · rw [if_pos ht,if_pos ht]
    · rw [if_neg ht,if_neg ht]
      have hpos:0<t.length:=List.length_pos_iff.2 ht
      cases A5c us t with
      | none=>rfl
      | some i=>
        dsimp only
        cases hi:us[i]? with
        | none=>rfl
        | some u=>
          dsimp only
          have hu:=hg u (List.mem_of_getElem? hi)
          have hd:(t.drop u.graph.length).length≤t.length-1:=by rw [List.length_drop];omega
          rw [A6a hg n k _ (by omega) (by omega)]
theorem B6r {us:List Unt} (hg:∀ u∈us,1≤u.graph.length) {t:List UInt8} {i:Nat} {u:Unt} (ht:t≠[]) (hb:A5c us t=some i) (hi:us[i]?=some u) :
    G3 us t.length t=((i:Int)::(G3 us (t.drop u.graph.length).length (t.drop u.graph.length)).1,u.graph.length+(G3 us (t.drop u.graph.length).length (t.drop u.graph.length)).2):=by
  have hpos:0<t.length:=List.length_pos_iff.2 ht
  obtain⟨m,hm⟩:∃ m,t.length=m+1:=⟨t.length-1,by omega⟩
  have hu:=hg u (List.mem_of_getElem? hi)
  have hf:=A6a hg (t.drop u.graph.length).length m (t.drop u.graph.length) (Nat.le_refl _) (by rw [List.length_drop];omega)
  rw [hm,G3,if_neg ht,hb]
  dsimp only
  rw [hi]
  dsimp only
  rw [hf]
theorem B6q {us:List Unt} {t:List UInt8} (h:t=[]∨A5c us t=none):G3 us t.length t=([],0):=by
  cases hl:t.length with
  | zero=>rfl
  | succ m=>
    rw [G3]
    rcases h with h|h
    · rw [if_pos h]
    · by_cases ht:t=[]
      · rw [if_pos ht]
      · rw [if_neg ht,h]
attribute [local irreducible] E EL K Val Enters Rt Calls bodyPost Code.wp RQ
end
end Go.Proofs.YtjicdgejhkgpgaaGreatDoor