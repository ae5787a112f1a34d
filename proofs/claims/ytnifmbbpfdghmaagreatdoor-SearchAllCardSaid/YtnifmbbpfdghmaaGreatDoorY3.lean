/-
  A region that draws its order, with operations that write or make memory one behind the other ('x[i], x[j] = x[j], x[i]', 'm[k] = append(m[k], v)'): in every order.
  'ss': those operations, in their order; 'ws q': the world when q of them are done; 'rg': of each other operation, when it can run. A region that draws its order, by what holds when some of its operations are done (a predicate of one's own). A region that draws its order: values read, a call, one variable made and filled ('x, ok := f(l[i])', x in memory): in every order. A map's update, as a step of a region that draws its order. Clear of a part of an own row; append of zeros onto nothing; cap; comparing a slice with nil.
-/
import Derived.Test.YtnifmbbpfdghmaaGreatDoorY1
import Derived.Lib.SliceRun
set_option linter.all false
namespace Go.En
open Go.RowKit
section
variable {P : Program} {n : Nat} {Q : Post} {ops : List Oper}
abbrev Rg:=Nat × Nat × Bool
def pushF (x:Option (Nat × Value)) (L:List (Nat × Value)):List (Nat × Value):=match x with|some y=>y::L|none=>L
def frame:List (Nat × Value)→List (Option (Nat × Value))→Nat→List (Nat × Value)
  | L,x::xs,i+1=>frame (pushF x L) xs i
  | L,_,_=>L
def VClause (P:Program) (ws:Nat→World) (L:List (Nat × Value)) (o:Oper) (x:Option (Nat × Value)) (g:Rg):Prop:=
  match g,x with
  | (lo,hi,true),some y=>∀ p,lo≤p→p≤hi→Val P L (ws p) o y.2
  | (_,_,true),none=>False
  | (q,_,false),some y=>∀ ρ,Agree L o ρ→(execOp ρ o).run P (ws q)=.ok (.value y.2) (ws (q+1))
  | (q,_,false),none=>∀ ρ,Agree L o ρ→(execOp ρ o).run P (ws q)=.ok .skip (ws (q+1))
def VQ (P:Program) (ws:Nat→World):List (Nat × Value)→List Oper→List (Option (Nat × Value))→List Rg→Prop
  | L,o::r,x::xs,g::gs=>VClause P ws L o x g∧VQ P ws (pushF x L) r xs gs
  | _,[],[],[]=>True
  | _,_,_,_=>False
theorem VQ.get {ws:Nat→World}:∀ {ops:List Oper} {L:List (Nat × Value)} {xs:List (Option (Nat × Value))} {gs:List Rg},VQ P ws L ops xs gs→∀ {i:Nat} {o:Oper},ops[i]?=some o→∃ x g,xs[i]?=some x∧gs[i]?=some g∧VClause P ws (frame L xs i) o x g
  | o::r,L,x::xs,g::gs,h,0,o',ho=>by
    simp at ho;subst ho
    exact⟨x,g,rfl,rfl,h.1⟩
  | o::r,L,x::xs,g::gs,h,i+1,o',ho=>by
    obtain⟨x',g',h1,h2,h3⟩:=VQ.get h.2 (i:=i) (by simpa using ho)
    exact⟨x',g',by simpa using h1,by simpa using h2,h3⟩
  | [],_,_,_,_,i,_,ho=>by simp at ho
  | _::_,_,[],_,h,_,_,_=>h.elim
  | _::_,_,_::_,[],h,_,_,_=>h.elim
theorem frame_lk : ∀ {xs : List (Option (Nat × Value))} {L : List (Nat × Value)} {i s : Nat} {v : Value}, lk (frame L xs i) s = some v → (∃ j, j < i ∧ xs[j]? = some (some (s, v))) ∨ (lk L s = some v ∧ ∀ j, j < i → ∀ u, xs[j]? ≠ some (some (s, u)))
  | [],L,i,s,v,h=>.inr ⟨by simpa [frame] using h,fun j _ u=>by simp⟩
  | x::xs,L,0,s,v,h=>.inr ⟨by simpa [frame] using h,fun j hj=>absurd hj (Nat.not_lt_zero _)⟩
  | x :: xs, L, i + 1, s, v, h => by
    rcases frame_lk (xs:=xs) (i:=i) (show lk (frame (pushF x L) xs i) s=some v from h) with⟨j,h1,h2⟩|⟨h1,h2⟩
    · exact .inl ⟨j+1,by omega,by simpa using h2⟩
    · cases x with
      | none=>exact .inr ⟨h1,fun j hj u=>by cases j with|zero=>simp|succ j=>simpa using h2 j (by omega) u⟩
      | some y=>
        obtain⟨k,z⟩:=y
        simp only [pushF,lk] at h1
        cases hb:Nat.beq k s with
        | true=>
          rw [hb] at h1;simp at h1
          have:=Nat.eq_of_beq_eq_true hb
          subst this;subst h1
          exact .inl ⟨0,by omega,rfl⟩
        | false=>
          rw [hb] at h1;simp at h1
          refine .inr ⟨h1,fun j hj u=>?_⟩
          cases j with
          | zero=>intro e;simp at e;rw [e.1] at hb;simp at hb
          | succ j=>simpa using h2 j (by omega) u
def rgOk (ops : List Oper) (ss : List Nat) (rg : List Rg) : Bool :=
  let b:=bf ops
  (List.range ops.length).all (fun i=>match rg.getD i (0,0,true) with
    | (lo,hi,true)=>Nat.ble lo ss.length&&(Nat.beq lo 0||(b.getD i 0).testBit (ss.getD (lo-1) 0))&&(Nat.ble ss.length hi||(b.getD (ss.getD hi 0) 0).testBit i)&&!(ss.any (Nat.beq i))
    | (q,_,false)=>Nat.blt q ss.length&&Nat.beq (ss.getD q 0) i)&&
  ss.all (fun i=>Nat.blt i ops.length)&&(List.range ss.length).all (fun q=>Nat.beq q 0||(b.getD (ss.getD q 0) 0).testBit (ss.getD (q-1) 0))
structure JS (n:Nat) (L0:List (Nat × Value)) (Lr:List (Option (Nat × Value))) (ss:List Nat) (ws:Nat→World) (ops:List Oper) (C:Nat→Prop) (a:Act) (w:World):Prop where
  size:a.tmps.size=n
  nod:a.defers=[]
  base:∀ s v,lk L0 s=some v→(∀ j o,C j→ops[j]?=some o→o.dst≠some s)→a.tmps[s]?=some v
  reads:∀ j s v,C j→Lr[j]?=some (some (s,v))→a.tmps[s]?=some v
  ph:∃ p,p≤ss.length∧(∀ q i,ss[q]?=some i→(C i↔q<p))∧w=ws p
theorem getD_of {α:Type} {l:List α} {i:Nat} {x d:α} (h:l[i]?=some x):l.getD i d=x:=by rw [List.getD_eq_getElem?_getD,h];rfl
theorem E_steps {id:Nat} {L0:List (Nat × Value)} {w0:World} (ws:Nat→World) (Lr:List (Option (Nat × Value))) (rg:List Rg) (ss:List Nat) (hm:P.follows .mixedOrders=true)
    (hc:(chkLow ops&&chkReads ops ops.length&&chkDst ops ops.length&&rgOk ops ss rg)=true) (hnd:ss.Nodup) (hgd:ops.all (fun o=>o.guard.isNone)=true) (hds:ops.all (fun o=>okd n o.dst)=true)
    (hLr:ops.map (·.dst)=Lr.map (Option.map Prod.fst)) (h0:ws 0=w0.drew) (hV:VQ P ws L0 ops Lr rg) (k:K n Q .normal (frame L0 Lr Lr.length) (ws ss.length)):E P n (.region id ops.toArray true) Q L0 w0:=by
  intro a ha
  simp only [Bool.and_eq_true] at hc
  obtain⟨⟨⟨hlow,hreads⟩,hdst⟩,hrg⟩:=hc
  simp only [rgOk,Bool.and_eq_true] at hrg
  obtain⟨⟨hrg1,hrg3⟩,hrg2⟩:=hrg
  have hlr:∀ {i:Nat} {o:Oper},ops[i]?=some o→∃ x,Lr[i]?=some x∧o.dst=x.map Prod.fst:=fun {i o} ho=>by
    have e:=congrArg (·[i]?) hLr
    simp only [List.getElem?_map,ho,Option.map_some] at e
    cases hx:Lr[i]? with
    | none=>rw [hx] at e;cases e
    | some x=>rw [hx] at e;exact⟨x,rfl,by simpa using e⟩
  have hll:Lr.length=ops.length:=by have:=congrArg List.length hLr;simpa using this.symm
  have rd_dst:∀ {j s:Nat} {v:Value},Lr[j]?=some (some (s,v))→∃ o,ops[j]?=some o∧o.dst=some s:=fun {j s v} hj=>by
    have hjl:=(List.getElem?_eq_some_iff.1 hj).1
    obtain⟨o,ho⟩:∃ o,ops[j]?=some o:=⟨_,List.getElem?_eq_getElem (by omega)⟩
    obtain⟨x,hx,hd⟩:=hlr ho
    rw [hj] at hx;cases hx
    exact⟨o,ho,hd⟩
  have dst_j:∀ {i j:Nat} {o o':Oper} {s:Nat},ops[i]?=some o→ops[j]?=some o'→o.dst=some s→o'.dst=some s→i=j:=fun ho ho' hd hd'=>
    chkDst_ok hdst ho (List.getElem?_eq_some_iff.1 ho).1 ho' (List.getElem?_eq_some_iff.1 ho').1 hd hd'
  refine wp_region_any hm ?_
  rw [show ops.toArray.size=ops.length by simp]
  have hfl:∀ i,¬ LsD (Array.replicate ops.length false) i:=fun i=>by
    unfold LsD;simp [Array.getElem?_replicate];split <;> simp
  refine any_J (J:=JS n L0 Lr ss ws ops) hlow (fun o ho=>by have:=List.all_eq_true.1 hgd o ho;simpa using this) ?_ ?_ _ _ a _ (by simp) (fun i o _ hi=>absurd hi (hfl i))
    ⟨ha.size,ha.nod,fun s v hs _=>ha.get s v hs,fun j s v hj=>absurd hj (hfl j),0,Nat.zero_le _,fun q i _=>⟨fun h=>absurd h (hfl i),fun h=>absurd h (Nat.not_lt_zero _)⟩,h0.symm⟩ (by
      have:=unl_prefix (N:=ops.length) (Nat.zero_le _) (listed:=Array.replicate ops.length false) (fun i=>⟨fun h=>absurd h (hfl i),fun h=>absurd h (Nat.not_lt_zero _)⟩)
      omega)
  · intro C C' a w i o I hcl hi ho hed hC' K Q' hK
    have hil:=(List.getElem?_eq_some_iff.1 ho).1
    obtain⟨p,hp1,hp2,hp3⟩:=I.ph
    subst hp3
    have hreach:∀ {j:Nat},Rch ops i j→C j:=fun hr=>hr.clo hcl (fun o2 ho2=>by rw [ho] at ho2;cases ho2;exact hed)
    have hag:Agree (frame L0 Lr i) o a.eval:=fun x hxo u hu=>ev_of (fun s u he hl=>by
      subst he
      rcases frame_lk hl with⟨j,h1,h2⟩|⟨h1,h2⟩
      · obtain⟨o2,ho2,hd2⟩:=rd_dst h2
        have hr:=chkReads_ok hreads ho hil ho2 (List.getElem?_eq_some_iff.1 ho2).1 (looks_op hxo) hd2
        exact I.reads j s u (hreach (hr.1 h1)) h2
      · refine I.base s u h1 (fun j o2 hj ho2 hd2=>?_)
        obtain⟨x2,hx2,hx3⟩:=hlr ho2
        rw [hd2] at hx3
        by_cases hji:j<i
        · cases x2 with
          | none=>cases hx3
          | some y=>
            obtain⟨s2,v2⟩:=y
            simp at hx3;subst hx3
            exact h2 j hji _ hx2
        · by_cases hje:j=i
          · subst hje;exact hi hj
          · have hr:=chkReads_ok hreads ho hil ho2 (List.getElem?_eq_some_iff.1 ho2).1 (looks_op hxo) hd2
            exact hi ((hr.2 (by omega)).clo hcl (fun o3 ho3 e he hb=>hcl _ _ ho3 hj e he hb))) hu
    obtain⟨x,g,hx,hg,hcl2⟩:=hV.get ho
    obtain⟨x',hx',hdx⟩:=hlr ho
    rw [hx] at hx';cases hx'
    have hgd2:=List.all_eq_true.1 hrg1 i (by simpa using hil)
    rw [getD_of hg] at hgd2
    have step:∀(v:Value) (w':World),(∀ y,x=some y→v=y.2)→(∃ p,p≤ss.length∧(∀ q i,ss[q]?=some i→(C' i↔q<p))∧w'=ws p)→JS n L0 Lr ss ws ops C' (a.put o.dst v) w':=by
      intro v w' hv hph
      have hsn:∀ {s:Nat},o.dst=some s→s<n:=fun hd=>by have:=List.all_eq_true.1 hds o (List.mem_of_getElem? ho);rw [hd] at this;exact Nat.le_of_ble_eq_true this
      refine⟨by rw [put_size];exact I.size,by rw [put_nod];exact I.nod,fun s u hs hno=>?_,fun j s u hj hju=>?_,hph⟩
      · rw [put_ne (hno i o ((hC' i).2 (.inl rfl)) ho)]
        exact I.base s u hs (fun j o2 hj ho2=>hno j o2 ((hC' j).2 (.inr hj)) ho2)
      · by_cases hji:j=i
        · subst hji
          rw [hx] at hju;cases hju
          rw [hdx,hv _ rfl]
          exact put_eq (by rw [I.size];exact hsn hdx)
        · obtain⟨o2,ho2,hd2⟩:=rd_dst hju
          rw [put_ne (fun e=>hji (dst_j ho2 ho hd2 e))]
          exact I.reads j s u (((hC' j).1 hj).resolve_left hji) hju
    obtain⟨lo,hi2,fl⟩:=g
    cases fl with
    | true=>
      simp only [Bool.and_eq_true,Bool.or_eq_true,Bool.not_eq_true'] at hgd2
      obtain⟨⟨⟨g1,g2⟩,g3⟩,g4⟩:=hgd2
      have g1':=Nat.le_of_ble_eq_true g1
      have hnotin:∀ q,ss[q]?≠some i:=fun q hq=>by
        have:ss.any (Nat.beq i)=true:=List.any_eq_true.2 ⟨i,List.mem_of_getElem? hq,Nat.beq_refl i⟩
        rw [this] at g4;cases g4
      have hlop:lo≤p:=by
        rcases g2 with g2|g2
        · have:=Nat.eq_of_beq_eq_true g2;omega
        · by_cases h00:lo=0
          · omega
          · obtain⟨z,hz⟩:∃ z,ss[lo-1]?=some z:=⟨_,List.getElem?_eq_getElem (by omega)⟩
            rw [getD_of hz] at g2
            have:=(hp2 _ _ hz).1 (hreach (bf_ok g2))
            omega
      have hphi:p≤hi2:=by
        rcases g3 with g3|g3
        · have:=Nat.le_of_ble_eq_true g3;omega
        · apply Classical.byContradiction
          intro hn
          obtain⟨z,hz⟩:∃ z,ss[hi2]?=some z:=⟨_,List.getElem?_eq_getElem (by omega)⟩
          rw [getD_of hz] at g3
          have hcz:=(hp2 _ _ hz).2 (by omega)
          exact hi ((bf_ok g3).clo hcl (fun o3 ho3 e he hb=>hcl _ _ ho3 hcz e he hb))
      cases x with
      | none=>exact hcl2.elim
      | some y=>
        have hrun:=hcl2 p hlop hphi a.eval hag
        unfold Oper.wp
        rw [hrun]
        refine hK y.2 (ws p) (step _ _ (fun y' e=>by cases e;rfl) ⟨p,hp1,fun q z hz=>?_,rfl⟩)
        rw [hC',← hp2 q z hz]
        exact⟨fun h=>h.resolve_left (fun e=>hnotin q (e▸hz)),.inr⟩
    | false =>
      simp only [Bool.and_eq_true] at hgd2
      obtain⟨g1,g2⟩:=hgd2
      have g1':lo<ss.length:=Nat.le_of_ble_eq_true g1
      have hq:ss[lo]?=some i:=by
        rw [List.getElem?_eq_getElem g1']
        have:=Nat.eq_of_beq_eq_true g2
        rw [List.getD_eq_getElem?_getD,List.getElem?_eq_getElem g1'] at this
        simpa using this
      have hpl:p=lo:=by
        have h1:¬ lo<p:=fun h=>hi ((hp2 _ _ hq).2 h)
        by_cases h00:lo=0
        · omega
        · have hb:=List.all_eq_true.1 hrg2 lo (by simpa using g1')
          simp only [Bool.or_eq_true] at hb
          rcases hb with hb|hb
          · exact absurd (Nat.eq_of_beq_eq_true hb) h00
          · obtain⟨z,hz⟩:∃ z,ss[lo-1]?=some z:=⟨_,List.getElem?_eq_getElem (by omega)⟩
            rw [getD_of hq,getD_of hz] at hb
            have:=(hp2 _ _ hz).1 (hreach (bf_ok hb))
            omega
      subst hpl
      have hph:∃ p',p'≤ss.length∧(∀ q i,ss[q]?=some i→(C' i↔q<p'))∧ws (p+1)=ws p':=by
        refine⟨p+1,g1',fun q z hz=>?_,rfl⟩
        rw [hC',hp2 q z hz]
        have hqz:z=i↔q=p:=by
          constructor
          · intro e
            subst e
            exact(List.getElem?_inj (List.getElem?_eq_some_iff.1 hz).1 hnd).1 (hz.trans hq.symm)
          · intro e
            subst e
            rw [hz] at hq;cases hq;rfl
        rw [hqz]
        omega
      cases x with
      | none=>
        have hrun:=hcl2 a.eval hag
        unfold Oper.wp
        rw [hrun]
        exact hK undef (ws (p+1)) (step _ _ (fun y' e=>by cases e) hph)
      | some y=>
        have hrun:=hcl2 a.eval hag
        unfold Oper.wp
        rw [hrun]
        exact hK y.2 (ws (p+1)) (step _ _ (fun y' e=>by cases e;rfl) hph)
  · intro C a w hall I
    obtain⟨p,hp1,hp2,hp3⟩:=I.ph
    have hpe:p=ss.length:=by
      apply Classical.byContradiction
      intro hn
      obtain⟨z,hz⟩:∃ z,ss[p]?=some z:=⟨_,List.getElem?_eq_getElem (by omega)⟩
      have hzl:z<ops.length:=by
        exact Nat.le_of_ble_eq_true (List.all_eq_true.1 hrg3 z (List.mem_of_getElem? hz))
      have:=(hp2 _ _ hz).1 (hall z hzl)
      omega
    subst hpe
    subst hp3
    refine k a ⟨I.size,I.nod,fun s v hs=>?_⟩
    rcases frame_lk hs with⟨j,h1,h2⟩|⟨h1,h2⟩
    · exact I.reads j s v (hall j (by omega)) h2
    · refine I.base s v h1 (fun j o2 hj ho2 hd2=>?_)
      obtain⟨x2,hx2,hx3⟩:=hlr ho2
      rw [hd2] at hx3
      cases x2 with
      | none=>cases hx3
      | some y=>
        obtain⟨s2,v2⟩:=y
        simp at hx3;subst hx3
        exact h2 j (by have:=(List.getElem?_eq_some_iff.1 hx2).1;omega) _ hx2
theorem step_store {L:List (Nat × Value)} {w:World} {o:Oper} {t:TypeId} {x y:Operand} {v z:Value} {size bytes:Nat} {b off:Nat} {e:TypeId} {cs:List Value} [TI P t z size bytes] (ho:o.op=.store t x y) (hx:ev L x=some (.pointer (some ⟨b,off,none⟩))) (hy:ev L y=some v)
    (hs:v.cells.size=size) (h1:v.cells.toList.all Value.oneCell'=true) (hr:Row w b e cs) (hl:off+size≤cs.length) :
    ∀ ρ,Agree L o ρ→(execOp ρ o).run P w=.ok .skip (w.setRow b (cs.take off++v.cells.toList++cs.drop (off+size)).toArray):=fun ρ ha=>by
  have h:=run_storeCells_at (P:=P) b off e v.cells.toList 0 cs.toArray w hr (by simp [hs];exact hl) (fun u hu=>List.all_eq_true.1 h1 u hu)
  simp only [Nat.add_zero] at h
  have a1:=ha.ev (by rw [ho];simp [Op.operands]) hx
  have a2:=ha.ev (by rw [ho];simp [Op.operands]) hy
  have h4:=run_sizeOf (P:=P) (t:=t) w
  simp only [execOp,ho,a1,a2,Instr.storeAt,Instr.sureAddr,storeVar,Sem.run_bind,Sem.run_pure,Result.andThen_ok,h4,hs]
  rw [if_neg (by simp)]
  have e1:(List.drop (off+v.cells.toList.length) cs)=List.drop (off+size) cs:=by rw [Array.length_toList,hs]
  simp only [h,Result.andThen_ok]
  simp [hs]
theorem step_store' {L:List (Nat × Value)} {w:World} {o:Oper} {t:TypeId} {x y:Operand} {v z:Value} {size bytes:Nat} {b off:Nat} {e:TypeId} {cs new cs':List Value} [TI P t z size bytes] (ho:o.op=.store t x y) (hx:ev L x=some (.pointer (some ⟨b,off,none⟩))) (hy:ev L y=some v)
    (hv:v.cells.toList=new) (hs:Nat.beq new.length size=true) (h1:new.all Value.oneCell'=true) (hr:Row w b e cs) (hl:off+size≤cs.length) (hcs:cs.take off++new++cs.drop (off+size)=cs') :
    ∀ ρ,Agree L o ρ→(execOp ρ o).run P w=.ok .skip (w.setRow b cs'.toArray):=by
  subst hcs
  subst hv
  exact step_store ho hx hy (by rw [← Nat.eq_of_beq_eq_true hs,Array.length_toList]) h1 hr hl
theorem set_row {w:World} {b:Nat} {e:TypeId} {cs:List Value} (cs':List Value) (hr:Row w b e cs):Row (w.setRow b cs'.toArray) b e cs'∧Kb (some b) w (w.setRow b cs'.toArray):=
  ⟨setRow_heap w b cs.toArray cs'.toArray e (0,0) hr,⟨rfl,rfl,rfl,by simp,fun k hk hne=>setRow_other w b k _ (fun e=>hne (by rw [e]))⟩⟩
theorem step_app {L:List (Nat × Value)} {w w':World} {o:Oper} {t:TypeId} {s x:Operand} {v v' u:Value} (ho:o.op=.call { callee:=.builtin .append,args:=#[s,x],argTypes:=#[t,t] }) (hs:ev L s=some v) (hx:ev L x=some u)
    (hr:(Builtin.append_ #[t,t] o.type #[v,u]).run P w=.ok v' w'):∀ ρ,Agree L o ρ→(execOp ρ o).run P w=.ok (.value v') w':=fun ρ ha=>by
  have a1:=ha.ev (by rw [ho];simp [Op.operands,Call.operands]) hs
  have a2:=ha.ev (by rw [ho];simp [Op.operands,Call.operands]) hx
  simp only [execOp,ho,resolve,invoke,builtin,Sem.run_bind,Sem.run_pure,Result.andThen_ok,List.map_toArray,List.map_cons,List.map_nil,a1,a2,hr]
end
end Go.En
namespace Go.En
open Go.RowKit
section
variable {P : Program} {n : Nat} {Q : Post} {ops : List Oper}
def upd (δ:Nat→Value) (d:Option Tmp) (v:Value):Nat→Value:=fun s=>if d=some s then v else δ s
def StepP (P:Program) (L:List (Nat × Value)) (w:World) (o:Oper) (v:Value) (w':World):Prop:=
  (∀ ρ,Agree L o ρ→(execOp ρ o).run P w=.ok (.value v) w')∨(o.dst=none∧∀ ρ,Agree L o ρ→(execOp ρ o).run P w=.ok .skip w')
theorem stepV {L:List (Nat × Value)} {w:World} {o:Oper} {v:Value} (h:Val P L w o v):StepP P L w o v w:=.inl h
theorem stepLit {L:List (Nat × Value)} {w:World} {o:Oper} {t e:TypeId} {z:Value} {size bytes len:Nat} {ps:List (Nat × Operand)} {vs cs:List Value} [UT P t (.slice e)] [TI P e z size bytes] (ho:o.op=.buildSlice t len ps.toArray)
    (hps:evs L 0 ps=some vs) (hv:vs.all (fun v=>Nat.beq v.cells.size size)=true) (hl:Nat.beq vs.length len=true) (hsm:Nat.ble (len*size) 16777216=true) (hcs:(vs.map fun v=>v.cells.toList).flatten=cs) :
    StepP P L w o (.slice (some ⟨w.heap.size,0,none⟩) len len) (w.alloc (.cells cs.toArray e)):=.inl fun _ ha=>run_lit ho hps hv hl hsm hcs ha
structure JU (n:Nat) (Φ:(Nat→Prop)→(Nat→Value)→World→Prop) (C:Nat→Prop) (a:Act) (w:World):Prop where
  size:a.tmps.size=n
  nod:a.defers=[]
  phi:Φ C (fun s=>a.tmps.getD s undef) w
theorem E_phi {id : Nat} {L0 : List (Nat × Value)} {w0 : World} (Φ : (Nat → Prop) → (Nat → Value) → World → Prop) (hm : P.follows .mixedOrders = true) (hc : chkLow ops = true) (hgd : ops.all (fun o => o.guard.isNone) = true) (hds : ops.all (fun o => okd n o.dst) = true)
    (h0:∀ δ,(∀ s v,lk L0 s=some v→δ s=v)→Φ (fun _=>False) δ w0.drew)
    (hstep:∀(C:Nat→Prop) (δ:Nat→Value) (w:World) (i:Nat) (o:Oper),ops[i]?=some o→¬ C i→(∀ j,((bf ops).getD i 0).testBit j=true→C j)→(∀ j,((bf ops).getD j 0).testBit i=true→¬ C j)→Φ C δ w→
      ∃ L v w',(∀ s u,lk L s=some u→δ s=u)∧StepP P L w o v w'∧∀ C',(∀ j,C' j↔j=i∨C j)→Φ C' (upd δ o.dst v) w')
    (hend:∀ C δ w,(∀ j,j<ops.length→C j)→Φ C δ w→∃ L,(∀ s v,lk L s=some v→s<n∧δ s=v)∧K n Q .normal L w):E P n (.region id ops.toArray true) Q L0 w0:=by
  intro a ha
  refine wp_region_any hm ?_
  rw [show ops.toArray.size=ops.length by simp]
  have hfl:∀ i,¬ LsD (Array.replicate ops.length false) i:=fun i=>by
    unfold LsD;simp [Array.getElem?_replicate];split <;> simp
  have hget:∀ {a:Act} {s:Nat} {v:Value},a.tmps[s]?=some v→a.tmps.getD s undef=v:=fun h=>by rw [Array.getD_eq_getD_getElem?,h];rfl
  have hfe:LsD (Array.replicate ops.length false)=fun _=>False:=funext fun i=>propext ⟨fun h=>hfl i h,fun h=>h.elim⟩
  refine any_J (J:=JU n Φ) hc (fun o ho=>by have:=List.all_eq_true.1 hgd o ho;simpa using this) ?_ ?_ _ _ a _ (by simp) (fun i o _ hi=>absurd hi (hfl i))
    ⟨ha.size,ha.nod,by rw [hfe];exact h0 _ fun s v hs=>hget (ha.get s v hs)⟩ (by
      have:=unl_prefix (N:=ops.length) (Nat.zero_le _) (listed:=Array.replicate ops.length false) (fun i=>⟨fun h=>absurd h (hfl i),fun h=>absurd h (Nat.not_lt_zero _)⟩)
      omega)
  · intro C C' a w i o I hcl hi ho hed hC' K Q' hK
    obtain⟨L,v,w',hL,hS,hΦ⟩:=hstep C (fun s=>a.tmps.getD s undef) w i o ho hi (fun j hb=>(bf_ok hb).clo hcl (fun o2 ho2=>by rw [ho] at ho2;cases ho2;exact hed))
      (fun j hb hj=>hi ((bf_ok hb).clo hcl (fun o3 ho3 e he hbb=>hcl _ _ ho3 hj e he hbb))) I.phi
    have hag:Agree L o a.eval:=fun x _ u hu=>by
      cases x with
      | tmp t=>simp only [En.ev] at hu;exact hL t u hu
      | const u'=>simpa [En.ev,Act.eval] using hu
      | global g=>simpa [En.ev,Act.eval] using hu
      | func f=>simpa [En.ev,Act.eval] using hu
    have hup:∀ u,(o.dst=none∨u=v)→(fun s=>(a.put o.dst u).tmps.getD s undef)=upd (fun s=>a.tmps.getD s undef) o.dst v:=fun u hu=>by
      funext s
      unfold upd
      by_cases hd:o.dst=some s
      · have hsn:s<n:=by have:=List.all_eq_true.1 hds o (List.mem_of_getElem? ho);rw [hd] at this;exact Nat.le_of_ble_eq_true this
        rw [if_pos hd,hd]
        rcases hu with hu|rfl
        · rw [hu] at hd;cases hd
        · exact hget (put_eq (by rw [I.size];exact hsn))
      · rw [if_neg hd]
        show(a.put o.dst u).tmps.getD s undef=a.tmps.getD s undef
        rw [Array.getD_eq_getD_getElem?,put_ne hd,← Array.getD_eq_getD_getElem?]
    rcases hS with hrun|⟨hd,hrun⟩
    · unfold Oper.wp
      rw [hrun _ hag]
      exact hK v w' ⟨by rw [put_size];exact I.size,by rw [put_nod];exact I.nod,by rw [hup v (.inr rfl)];exact hΦ C' hC'⟩
    · unfold Oper.wp
      rw [hrun _ hag]
      exact hK undef w' ⟨by rw [put_size];exact I.size,by rw [put_nod];exact I.nod,by rw [hup undef (.inl hd)];exact hΦ C' hC'⟩
  · intro C a w hall I
    obtain⟨L,hL,hK⟩:=hend C _ w hall I.phi
    refine hK a ⟨I.size,I.nod,fun s v hs=>?_⟩
    obtain⟨h1,h2⟩:=hL s v hs
    have hsa:s<a.tmps.size:=by rw [I.size];exact h1
    rw [Array.getD_eq_getD_getElem?,Array.getElem?_eq_getElem hsa] at h2
    rw [Array.getElem?_eq_getElem hsa]
    exact congrArg some h2
theorem app_exO {w : World} (t ty : TypeId) {e : TypeId} {z : Value} {size bytes : Nat} [ut : UT P t (.slice e)] [ti : TI P e z size bytes] {v : Value} {w0 : World} {m : Nat} {xs : List Value} {a : Option Addr} {q : Nat} (c : Nat) {news : List Value}
    (hown:w.ownsRow w0.heap.size e size v m xs) (x0:Ext w0 w) (hnews:0<q→∃ b off,a=some ⟨b,off,none⟩∧At w b off news) (hl:news.length=q*size)
    (h1:news.all Value.oneCell'=true) (hz:z.cells.size=size) (hsz:Nat.ble 1 size=true) (hmax:(m+q)*bytes≤140737488355328) (hmax':m+q≤9223372036854775807) :
    ∃ v' w',(Builtin.append_ #[t,t] ty #[v,.slice a q c]).run P w=.ok v' w'∧w'.ownsRow w0.heap.size e size v' (m+q) (xs++news)∧Ext w0 w'∧Kb v.ownBlock w w'∧(v'.ownBlock=v.ownBlock∨v'.ownBlock=some w.heap.size):=by
  obtain⟨i0,hi,hz0,hz1,hz2⟩:=info_parts ti.i
  cases a with
  | none=>
    have hq:q=0:=by
      by_cases h0:0<q
      · obtain⟨_,_,e1,_⟩:=hnews h0;cases e1
      · omega
    subst hq
    obtain rfl:news=[]:=List.length_eq_zero_iff.1 (by rw [hl,Nat.zero_mul])
    have hr:=append_owned_none (P:=P) (w:=w) (ty:=ty) (c:=c) ut.u hi hown
    exact⟨v,w,hr,by simpa using hown,x0,World.grownBy.refl _ _,.inl rfl⟩
  | some ad=>
    have hat:∀ j u,news[j]?=some u→w.cell? (ad.add j)=some u:=by
      by_cases h0:0<q
      · obtain⟨b,off,e1,hat⟩:=hnews h0
        cases e1
        exact fun j u hu=>by rw [addr_add];exact hat j u hu
      · obtain rfl:news=[]:=List.length_eq_zero_iff.1 (by rw [hl,show q=0 by omega,Nat.zero_mul])
        exact fun j u hu=>by simp at hu
    obtain⟨v',w',hr,h2,h3,_,h4⟩:=run_append_own_at (P:=P) (w:=w) (ty:=ty) w0.heap.size t e i0 z size bytes ut.u hi hz0 hz1 hz2 hz (Nat.le_of_ble_eq_true hsz) v m xs hown ad q c news hl hat
      (fun u hu=>List.all_eq_true.1 h1 u hu) (by unfold maxLen;omega) hmax x0.size
    exact⟨v',w',hr,h2,own_anchor hown x0 h3,h3,h4⟩
end
end Go.En
namespace Go.En
open Go.RowKit
section
variable {P : Program} {n : Nat} {Q : Post} {ops : List Oper}
def VC (P:Program) (L:List (Nat × Value)) (w0:World) (o:Oper) (v:Value):Prop:=
  (∀ w,Ext w0 w→Val P L w o v)∨(∃ f args,(∀ w,Ext w0 w→Enters P L w o f args)∧∀ w,Ext w0 w→Calls P f args w (Rt fun u w'=>u=v∧Ext w w'))
theorem vcV {L:List (Nat × Value)} {w0:World} {o:Oper} {v:Value} (h:∀ w,Ext w0 w→Val P L w o v):VC P L w0 o v:=.inl h
theorem vcC {L:List (Nat × Value)} {w0:World} {o:Oper} {v:Value} {f:FuncId} {args:Array Value} (h:∀ w,Ext w0 w→Enters P L w o f args) (hc:∀ w,Ext w0 w→Calls P f args w (Rt fun u w'=>u=v∧Ext w w')):VC P L w0 o v:=.inr ⟨f,args,h,hc⟩
def VSq (P:Program) (w0:World):List (Nat × Value)→List Oper→List (Option (Nat × Value))→Prop
  | L,o::r,some x::xs=>VC P L w0 o x.2∧VSq P w0 (x::L) r xs
  | L,_::r,none::xs=>VSq P w0 L r xs
  | _,[],[]=>True
  | _,_,_=>False
theorem VSq.get {w0:World}:∀ {ops:List Oper} {L:List (Nat × Value)} {xs:List (Option (Nat × Value))},VSq P w0 L ops xs→∀ {i:Nat} {o:Oper} {y:Nat × Value},ops[i]?=some o→xs[i]?=some (some y)→VC P (frame L xs i) w0 o y.2
  | o::r,L,some x::xs,h,0,o',y,ho,hy=>by
    simp at ho hy;subst ho;subst hy
    exact h.1
  | o::r,L,some x::xs,h,i+1,o',y,ho,hy=>VSq.get (L:=x::L) h.2 (i:=i) (by simpa using ho) (by simpa using hy)
  | o::r,L,none::xs,h,0,o',y,ho,hy=>by simp at hy
  | o::r,L,none::xs,h,i+1,o',y,ho,hy=>VSq.get (ops:=r) (xs:=xs) (L:=L) (show VSq P w0 L r xs from h) (i:=i) (by simpa using ho) (by simpa using hy)
  | [],_,_,_,i,_,_,ho,_=>by simp at ho
  | _::_,_,[],h,_,_,_,_,_=>h.elim
structure JO (n:Nat) (L0:List (Nat × Value)) (Lr:List (Option (Nat × Value))) (w0:World) (ops:List Oper) (ia is p:Nat) (t:TypeId) (Zc X:List Value) (C:Nat→Prop) (a:Act) (w:World):Prop where
  size:a.tmps.size=n
  nod:a.defers=[]
  ext:Ext w0 w
  base:∀ s v,lk L0 s=some v→(∀ j o,C j→ops[j]?=some o→o.dst≠some s)→a.tmps[s]?=some v
  reads:∀ j s v,C j→Lr[j]?=some (some (s,v))→a.tmps[s]?=some v
  hp:C ia→∃ b,a.tmps[p]?=some (.pointer (some ⟨b,0,none⟩))∧w0.heap.size≤b∧(C is→Row w b t X)∧(¬ C is→Row w b t Zc)
def oneOk (ops:List Oper) (Lr:List (Option (Nat × Value))) (ia is:Nat):Bool:=
  Nat.beq Lr.length ops.length&&(List.range ops.length).all fun i=>Nat.beq i ia||Nat.beq i is||(Lr.getD i none).isSome
theorem E_one {id:Nat} {L0:List (Nat × Value)} {w0:World} (ia is p sx:Nat) {t:TypeId} {z:Value} {size bytes:Nat} (X:List Value) (Lr:List (Option (Nat × Value))) [TI P t z size bytes] (hm:P.follows .mixedOrders=true)
    (hc:(chkLow ops&&chkReads ops ops.length&&chkDst ops ops.length)=true) (hgd:ops.all (fun o=>o.guard.isNone)=true) (hds:ops.all (fun o=>okd n o.dst)=true)
    (h0:ops[ia]?.map (fun o=>(o.op,o.dst))=some (.alloc t,some p)) (h1:ops[is]?.map (fun o=>(o.op,o.dst))=some (.store t (.tmp p) (.tmp sx),none))
    (hLa:Lr[ia]?=some none) (hLs:Lr[is]?=some none) (hLd:(ops.map (·.dst)).set ia none=Lr.map (Option.map Prod.fst)) (hok:oneOk ops Lr ia is=true) (hias:ia<is) (hp0:lk L0 p=none)
    (hX:lk (frame L0 Lr is) sx=some (.agg X.toArray)) (hXs:X.length=size) (hX1:X.all Value.oneCell'=true) (hz:z.cells.size=size)
    (hV:VSq P w0 L0 ops Lr)
    (k:∀ b w,Ext w0 w→w0.heap.size≤b→Row w b t X→K n Q .normal ((p,.pointer (some ⟨b,0,none⟩))::frame L0 Lr Lr.length) w):E P n (.region id ops.toArray true) Q L0 w0:=by
  intro a ha
  simp only [Bool.and_eq_true] at hc
  obtain⟨⟨hlow,hreads⟩,hdst⟩:=hc
  simp only [oneOk,Bool.and_eq_true] at hok
  have hll:Lr.length=ops.length:=Nat.eq_of_beq_eq_true hok.1
  have op_of:∀ {i:Nat} {x:Op × Option Tmp},ops[i]?.map (fun o=>(o.op,o.dst))=some x→∀ {o},ops[i]?=some o→o.op=x.1∧o.dst=x.2:=fun {i x} hx {o} ho=>by
    rw [ho] at hx;simp at hx;rw [← hx];exact⟨rfl,rfl⟩
  obtain⟨oa,hoa⟩:∃ o,ops[ia]?=some o:=by cases ho:ops[ia]? with|none=>rw [ho] at h0;cases h0|some o=>exact⟨o,rfl⟩
  obtain⟨os,hos⟩:∃ o,ops[is]?=some o:=by cases ho:ops[is]? with|none=>rw [ho] at h1;cases h1|some o=>exact⟨o,rfl⟩
  obtain⟨ha1,ha2⟩:=op_of h0 hoa
  obtain⟨hs1,hs2⟩:=op_of h1 hos
  dsimp only at ha1 ha2 hs1 hs2
  have hlr:∀ {i:Nat} {o:Oper},ops[i]?=some o→i≠ia→∃ x,Lr[i]?=some x∧o.dst=x.map Prod.fst:=fun {i o} ho hia=>by
    have e:=congrArg (·[i]?) hLd
    simp only [List.getElem?_map] at e
    rw [List.getElem?_set_ne (fun h=>hia h.symm),List.getElem?_map,ho,Option.map_some] at e
    cases hx:Lr[i]? with
    | none=>rw [hx] at e;cases e
    | some x=>rw [hx] at e;exact⟨x,rfl,by simpa using e⟩
  have rd_dst:∀ {j s:Nat} {v:Value},Lr[j]?=some (some (s,v))→j≠ia∧∃ o,ops[j]?=some o∧o.dst=some s:=fun {j s v} hj=>by
    have hjl:=(List.getElem?_eq_some_iff.1 hj).1
    have hji:j≠ia:=fun e=>by subst e;rw [hLa] at hj;cases hj
    obtain⟨o,ho⟩:∃ o,ops[j]?=some o:=⟨_,List.getElem?_eq_getElem (by omega)⟩
    obtain⟨x,hx,hd⟩:=hlr ho hji
    rw [hj] at hx;cases hx
    exact⟨hji,o,ho,hd⟩
  have dst_j:∀ {i j:Nat} {o o':Oper} {s:Nat},ops[i]?=some o→ops[j]?=some o'→o.dst=some s→o'.dst=some s→i=j:=fun ho ho' hd hd'=>
    chkDst_ok hdst ho (List.getElem?_eq_some_iff.1 ho).1 ho' (List.getElem?_eq_some_iff.1 ho').1 hd hd'
  have hpn:p<n:=by have:=List.all_eq_true.1 hds oa (List.mem_of_getElem? hoa);rw [ha2] at this;exact Nat.le_of_ble_eq_true this
  have hzl:z.cells.toList.length=size:=by simpa using hz
  refine wp_region_any hm ?_
  rw [show ops.toArray.size=ops.length by simp]
  have hfl:∀ i,¬ LsD (Array.replicate ops.length false) i:=fun i=>by
    unfold LsD;simp [Array.getElem?_replicate];split <;> simp
  have look : ∀ {C : Nat → Prop} {a : Act} {w : World} {i : Nat} {o : Oper} {s : Nat} {u : Value}, JO n L0 Lr w0 ops ia is p t z.cells.toList X C a w → Clo ops C → ops[i]? = some o → ¬ C i → (∀ e ∈ o.after, Region.binds .any e = true → C e.on) → .tmp s ∈ o.op.operands → lk (frame L0 Lr i) s = some u → a.tmps[s]? = some u := by
    intro C a w i o s u I hcl ho hi hed hxo hl
    have hil:=(List.getElem?_eq_some_iff.1 ho).1
    have hreach:∀ {j:Nat},Rch ops i j→C j:=fun hr=>hr.clo hcl (fun o2 ho2=>by rw [ho] at ho2;cases ho2;exact hed)
    rcases frame_lk hl with⟨j,h1,h2⟩|⟨h1,h2⟩
    · obtain⟨_,o2,ho2,hd2⟩:=rd_dst h2
      have hr:=chkReads_ok hreads ho hil ho2 (List.getElem?_eq_some_iff.1 ho2).1 (looks_op hxo) hd2
      exact I.reads j s u (hreach (hr.1 (by assumption))) h2
    · refine I.base s u h1 (fun j o2 hj ho2 hd2=>?_)
      by_cases hja:j=ia
      · subst hja
        rw [hoa] at ho2;cases ho2
        rw [ha2] at hd2;cases hd2
        rw [hp0] at h1;cases h1
      · obtain⟨x2,hx2,hx3⟩:=hlr ho2 hja
        rw [hd2] at hx3
        by_cases hji:j<i
        · cases x2 with
          | none=>cases hx3
          | some y=>
            obtain⟨s2,v2⟩:=y
            simp at hx3;subst hx3
            exact h2 j hji _ hx2
        · by_cases hje:j=i
          · subst hje;exact hi hj
          · have hr:=chkReads_ok hreads ho hil ho2 (List.getElem?_eq_some_iff.1 ho2).1 (looks_op hxo) hd2
            exact hi ((hr.2 (by omega)).clo hcl (fun o3 ho3 e he hb=>hcl _ _ ho3 hj e he hb))
  have hp_reads:∀ {C:Nat→Prop} {i:Nat} {o:Oper},Clo ops C→ops[i]?=some o→(∀ e∈o.after,Region.binds .any e=true→C e.on)→ia<i→.tmp p∈o.op.operands→C ia:=fun {C i o} hcl ho hed hlt hxo=>by
    have hr:=chkReads_ok hreads ho (List.getElem?_eq_some_iff.1 ho).1 hoa (List.getElem?_eq_some_iff.1 hoa).1 (looks_op hxo) ha2
    exact(hr.1 hlt).clo hcl (fun o2 ho2=>by rw [ho] at ho2;cases ho2;exact hed)
  have hs_after:∀ {C:Nat→Prop},Clo ops C→C is→C ia:=fun {C} hcl h=>hp_reads hcl hos (fun e he hb=>hcl _ _ hos h e he hb) hias (by rw [hs1];simp [Op.operands])
  refine any_J (J:=JO n L0 Lr w0 ops ia is p t z.cells.toList X) hlow (fun o ho=>by have:=List.all_eq_true.1 hgd o ho;simpa using this) ?_ ?_ _ _ a _ (by simp) (fun i o _ hi=>absurd hi (hfl i))
    ⟨ha.size,ha.nod,ext_drew w0,fun s v hs _=>ha.get s v hs,fun j s v hj=>absurd hj (hfl j),fun hj=>absurd hj (hfl _)⟩ (by
      have:=unl_prefix (N:=ops.length) (Nat.zero_le _) (listed:=Array.replicate ops.length false) (fun i=>⟨fun h=>absurd h (hfl i),fun h=>absurd h (Nat.not_lt_zero _)⟩)
      omega)
  · intro C C' a w i o I hcl hi ho hed hC' K Q' hK
    have hil:=(List.getElem?_eq_some_iff.1 ho).1
    have stepB:∀(v:Value),(∀ s u,lk L0 s=some u→(∀ j q,C' j→ops[j]?=some q→q.dst≠some s)→(a.put o.dst v).tmps[s]?=some u):=fun v s u hs hno=>by
      rw [put_ne (hno i o ((hC' i).2 (.inl rfl)) ho)]
      exact I.base s u hs (fun j o2 hj ho2=>hno j o2 ((hC' j).2 (.inr hj)) ho2)
    have stepR:∀(v:Value),(∀ y,Lr[i]?=some (some y)→v=y.2)→∀ j s u,C' j→Lr[j]?=some (some (s,u))→(a.put o.dst v).tmps[s]?=some u:=fun v hv j s u hj hju=>by
      obtain⟨hja,o2,ho2,hd2⟩:=rd_dst hju
      by_cases hji:j=i
      · subst hji
        rw [ho] at ho2;cases ho2
        have hsn:s<n:=by have:=List.all_eq_true.1 hds o (List.mem_of_getElem? ho);rw [hd2] at this;exact Nat.le_of_ble_eq_true this
        rw [hd2,hv _ hju]
        exact put_eq (by rw [I.size];exact hsn)
      · rw [put_ne (fun e=>hji (dst_j ho2 ho hd2 e))]
        exact I.reads j s u (((hC' j).1 hj).resolve_left hji) hju
    by_cases hia:i=ia
    · subst hia
      rw [hoa] at ho;cases ho
      have hrun:=run_alloc (P:=P) ha1 a.eval w
      have hx:=ext_alloc w (.cells z.cells t)
      unfold Oper.wp
      rw [hrun]
      refine hK _ _ ⟨by rw [put_size];exact I.size,by rw [put_nod];exact I.nod,I.ext.trans hx,stepB _,stepR _ (fun y hy=>by rw [hLa] at hy;cases hy),fun _=>?_⟩
      refine⟨w.heap.size,by rw [ha2];exact put_eq (by rw [I.size];exact hpn),I.ext.size,fun h=>?_,fun _=>row_alloc _ _ _⟩
      exact absurd (hs_after hcl (((hC' _).1 h).resolve_left (by omega))) hi
    by_cases his:i=is
    · subst his
      rw [hos] at ho;cases ho
      have hca:C ia:=hp_reads hcl hos hed hias (by rw [hs1];simp [Op.operands])
      obtain⟨b,e1,e2,e3,e4⟩:=I.hp hca
      have hpv:a.eval (.tmp p)=.pointer (some ⟨b,0,none⟩):=by simp [Act.eval,Array.getD_eq_getD_getElem?,e1]
      have hxv:a.eval (.tmp sx)=.agg X.toArray:=by
        have:=look I hcl hos hi hed (by rw [hs1];simp [Op.operands]) hX
        simp [Act.eval,Array.getD_eq_getD_getElem?,this]
      obtain⟨w',hrun,r1,k1,hsz1⟩:=run_storeA (P:=P) hs1 (ρ:=a.eval) (w:=w) hpv hxv hXs hX1 (e4 hi) hzl
      unfold Oper.wp
      rw [hrun]
      refine hK _ _ ⟨by rw [put_size];exact I.size,by rw [put_nod];exact I.nod,k1.ext I.ext (fun b' hb'=>by cases hb';exact e2),stepB _,stepR _ (fun y hy=>by rw [hLs] at hy;cases hy),fun _=>?_⟩
      rw [hs2]
      exact⟨b,e1,e2,fun _=>r1,fun h=>absurd ((hC' _).2 (.inl rfl)) h⟩
    · obtain⟨x,hx⟩:∃ x,Lr[i]?=some x:=⟨_,List.getElem?_eq_getElem (by omega)⟩
      have hsm:=List.all_eq_true.1 hok.2 i (by simpa using hil)
      rw [getD_of hx] at hsm
      have hsm':x.isSome=true:=by
        simp only [Bool.or_eq_true] at hsm
        rcases hsm with(h|h)|h
        · exact absurd (Nat.eq_of_beq_eq_true h) hia
        · exact absurd (Nat.eq_of_beq_eq_true h) his
        · exact h
      obtain⟨y,rfl⟩:=Option.isSome_iff_exists.1 hsm'
      have hag:Agree (frame L0 Lr i) o a.eval:=fun x hxo u hu=>ev_of (fun s u he hl=>by
        subst he
        exact look I hcl ho hi hed hxo hl) hu
      have hpk:∀(v:Value) (w':World),Ext w w'→C' ia→∃ b,(a.put o.dst v).tmps[p]?=some (.pointer (some ⟨b,0,none⟩))∧w0.heap.size≤b∧(C' is→Row w' b t X)∧(¬ C' is→Row w' b t z.cells.toList):=fun v w' hx' hca=>by
        obtain⟨b,e1,e2,e3,e4⟩:=I.hp (((hC' _).1 hca).resolve_left (fun e=>hia e.symm))
        refine⟨b,?_,e2,fun h=>(e3 (((hC' _).1 h).resolve_left (fun e=>his e.symm))).ext hx',fun h=>(e4 fun h'=>h ((hC' _).2 (.inr h'))).ext hx'⟩
        rw [put_ne (fun e=>hia (dst_j ho hoa e ha2))]
        exact e1
      rcases VSq.get hV ho hx with hval|⟨f,args,hen,hca⟩
      · have hrun:=hval w I.ext a.eval hag
        unfold Oper.wp
        rw [hrun]
        exact hK y.2 w ⟨by rw [put_size];exact I.size,by rw [put_nod];exact I.nod,I.ext,stepB _,stepR _ (fun y' hy=>by rw [hx] at hy;cases hy;rfl),hpk _ _ (Ext.refl w)⟩
      · have hrun:=hen w I.ext a.eval hag
        unfold Oper.wp
        rw [hrun,Oper.upon_enter]
        refine(hca w I.ext).mono ?_
        rintro e w' ⟨v,rfl,rfl,hxx⟩
        exact hK y.2 w' ⟨by rw [put_size];exact I.size,by rw [put_nod];exact I.nod,I.ext.trans hxx,stepB _,stepR _ (fun y' hy=>by rw [hx] at hy;cases hy;rfl),hpk _ _ hxx⟩
  · intro C a w hall I
    obtain⟨b,e1,e2,e3,_⟩:=I.hp (hall _ (List.getElem?_eq_some_iff.1 hoa).1)
    refine k b w I.ext e2 (e3 (hall _ (List.getElem?_eq_some_iff.1 hos).1)) a ⟨I.size,I.nod,fun s v hs=>?_⟩
    simp only [lk] at hs
    cases hb:Nat.beq p s with
    | true=>
      rw [hb] at hs;simp at hs
      have:=Nat.eq_of_beq_eq_true hb
      subst this;rw [e1,hs]
    | false =>
      rw [hb] at hs
      simp only [cond_false] at hs
      rcases frame_lk hs with⟨j,h1,h2⟩|⟨h1,h2⟩
      · exact I.reads j s v (hall j (by omega)) h2
      · refine I.base s v h1 (fun j o2 hj ho2 hd2=>?_)
        by_cases hja:j=ia
        · subst hja
          rw [hoa] at ho2;cases ho2
          rw [ha2] at hd2;cases hd2
          rw [hp0] at h1;cases h1
        · obtain⟨x2,hx2,hx3⟩:=hlr ho2 hja
          rw [hd2] at hx3
          cases x2 with
          | none=>cases hx3
          | some y=>
            obtain⟨s2,v2⟩:=y
            simp at hx3;subst hx3
            exact h2 j (by have:=(List.getElem?_eq_some_iff.1 hx2).1;omega) _ hx2
end
end Go.En
namespace Go.En
open Go.RowKit Go.MapKept
end Go.En
namespace Go.En
open Go.RowKit
section
variable {P : Program} {n : Nat} {Q : Post} {L : List (Nat × Value)} {w : World} {ops : List Oper} {o : Oper} {rest : List Oper}
theorem EL_valn {v:Value} {w':World} (hg:gst ops L o=some true) (hd:o.dst=none) (h:∀ ρ,Agree L o ρ→(execOp ρ o).run P w=.ok (.value v) w') (k:EL P n ops Q rest L w'):EL P n ops Q (o::rest) L w:=
  fun a ha=>wpList_step fun K hK=>by
    rw [wanted_gst ha hg,if_pos rfl]
    unfold Oper.wp
    rw [h a.eval (ha.agree o)]
    refine hK _ _ (k _ ?_)
    rw [hd]
    exact ha
theorem zeroCells_one (z:Value) (n:Nat):(Builtin.zeroCells #[z] n).toList=List.replicate n z:=by
  unfold Builtin.zeroCells
  apply List.ext_getElem?
  intro i
  simp only [Array.toList_map,Array.toList_range,List.getElem?_map,List.getElem?_replicate]
  by_cases hi:i<n
  · rw [List.getElem?_range (by simpa using hi),if_pos hi]
    simp [Nat.mod_one]
  · rw [if_neg hi,List.getElem?_eq_none (by simpa using hi)]
    rfl
theorem EL_clear {t e:TypeId} {x:Operand} {z:Value} {bytes:Nat} {b off m cap:Nat} {cur:List Value} [ut:UT P t (.slice e)] [ti:TI P e z 1 bytes] (hr:Row w b e cur) (hg:gst ops L o=some true) (hd:o.dst=none) (ho:o.op=.call { callee:=.builtin .clear,args:=#[x],argTypes:=#[t] })
    (hx:ev L x=some (.slice (some ⟨b,off,none⟩) m cap)) (hz:z.cells=#[z]) (h1:z.oneCell'=true) (hfit:off+m≤cur.length)
    (k:∀ w',Row w' b e (cur.take off++List.replicate m z++cur.drop (off+m))→Kb (some b) w w'→EL P n ops Q rest L w'):EL P n ops Q (o::rest) L w:=by
  obtain⟨i0,hi,hz0,hz1,hz2⟩:=info_parts ti.i
  have hzv:(zeroValue e).run P w=.ok z w:=run_zeroValue (P:=P) (t:=e) w
  have hu:=run_ut (t:=t) (P:=P) w
  by_cases h0:m=0
  · subst h0
    refine EL_valn (w':=w) (v:=.tuple #[]) hg hd (fun ρ ha=>?_) (k w (by simpa using hr) (World.grownBy.refl _ _))
    have a1:=ha.ev (by rw [ho];simp [Op.operands,Call.operands]) hx
    simp [execOp,ho,resolve,invoke,builtin,Builtin.clear_,a1,hu]
  · have hst:=run_storeCells_at (P:=P) b off e (List.replicate m z) 0 cur.toArray w hr (by simp;omega) (fun u hu=>by rw [List.eq_of_mem_replicate hu];exact h1)
    simp only [Nat.add_zero] at hst
    have hkb:Kb (some b) w (w.setRow b (cur.take off++List.replicate m z++cur.drop (off+m)).toArray):=⟨rfl,rfl,rfl,by simp,fun k hk hne=>setRow_other w b k _ (fun e=>hne (by rw [e]))⟩
    refine EL_valn (w':=w.setRow b (cur.take off++List.replicate m z++cur.drop (off+m)).toArray) (v:=.tuple #[]) hg hd (fun ρ ha=>?_) (k _ (setRow_heap w b cur.toArray _ e (0,0) hr) hkb)
    have a1:=ha.ev (by rw [ho];simp [Op.operands,Call.operands]) hx
    obtain⟨m',rfl⟩:∃ m',m=m'+1:=⟨m-1,by omega⟩
    simp only [execOp,ho,resolve,invoke,builtin,Builtin.clear_,Sem.run_bind,Sem.run_pure,Result.andThen_ok,List.map_toArray,List.map_cons,List.map_nil,a1,hu,hzv,hz,zeroCells_one]
    simp [hu,hzv,hz,zeroCells_one,hst]
theorem EL_appZ {d:Nat} {t u e:TypeId} {s x:Operand} {z:Value} {size bytes:Nat} [ut:UT P t (.slice e)] [uu:UT P u (.int .i64)] [ti:TI P e z size bytes] {q:Nat} {zq:Int} (hg:gst ops L o=some true) (hd:odst n o.dst=some d) (ho:o.op=.call { callee:=.builtin .append,args:=#[s,x],argTypes:=#[t,u] })
    (hs:ev L s=some (.slice none 0 0)) (hx:ev L x=some (int zq)) (hzq:zq=(q:Int)) (h0:0<q) (hz:z.cells.size=size) (hsz:Nat.ble 1 size=true) (hmax:q*bytes≤140737488355328) (hmax':q≤9223372036854775807)
    (k:∀ b c cur w',b=w.heap.size→q≤c→c≤maxLen→Row w' b e cur→cur.length=c*size→Ext w w'→EL P n ops Q rest ((d,.slice (some ⟨b,0,none⟩) q c)::L) w'):EL P n ops Q (o::rest) L w:=by
  obtain⟨i0,hi,hz0,hz1,hz2⟩:=info_parts ti.i
  have hzv:(zeroValue e).run P w.drew=.ok z w.drew:=run_zeroValue (P:=P) (t:=e) w.drew
  have hs1:=Nat.le_of_ble_eq_true hsz
  have hu:=run_ut (t:=t) (P:=P) w
  have hu2:=run_ut (t:=u) (P:=P) w
  subst hzq
  have hge:=grownCap_ge w q 0 e
  have hcm:grownCap w q 0 e≤maxLen:=grownCap_le_maxLen w q 0 e (by unfold maxLen;omega)
  have hw:IntKind.i64.wrap (q:Int)=(q:Int):=wrap_in .i64 (by show(-9223372036854775808:Int)≤_;omega) (by show _≤(9223372036854775807:Int);omega)
  have h48:¬ ((281474976710656:Int)<(q:Int)*(i0.bytes:Int)):=by
    rw [hz2]
    have:((q*bytes:Nat):Int)≤281474976710656:=by omega
    rw [Int.natCast_mul] at this
    omega
  have h48':¬ (281474976710656<Builtin.nextslicecap q 0*i0.bytes):=by rw [nextslicecap_zero h0,hz2];omega
  have hqs:q*i0.size≠0:=by
    rw [hz1]
    intro h
    rcases Nat.mul_eq_zero.1 h with h|h <;> omega
  have h63:¬ ((9223372036854775807:Int)<(q:Int)):=by omega
  have hq0:q≠0:=by omega
  have hneg:¬ ((q:Int)<0):=by omega
  refine EL_valw (v:=.slice (some ⟨w.heap.size,0,none⟩) q (grownCap w q 0 e)) (w':=w.drew.alloc (.cells (Builtin.zeroCells z.cells q++Builtin.zeroCells z.cells (grownCap w q 0 e-q)) e)) hg hd (fun ρ ha=>?_) (k _ _ _ _ rfl hge hcm (row_alloc w.drew e _) ?_ ((ext_drew w).trans (ext_alloc _ _)))
  · have a1:=ha.ev (by rw [ho];simp [Op.operands,Call.operands]) hs
    have a2:=ha.ev (by rw [ho];simp [Op.operands,Call.operands]) hx
    simp [execOp,ho,resolve,invoke,builtin,Builtin.append_,a1,a2,hu,hu2,sizeOf,typeInfo,zeroValue,hi,hz0,Builtin.lenOf,asInt,asIntOf,int,hw,hneg,h48,h48',h63,hq0,hqs,Question.forced,run_firstCells_none,newRow,grownCap]
  · rw [Array.toList_append,List.length_append,Array.length_toList,Array.length_toList,size_zeroCells,size_zeroCells,hz,← Nat.add_mul]
    congr 1
    omega
end
section
variable {P : Program} {L : List (Nat × Value)} {w : World} {o : Oper}
theorem val_cap_sl {t e:TypeId} {x:Operand} {a:Option Addr} {m c:Nat} [UT P t (.slice e)] (ho:o.op=.call { callee:=.builtin .cap,args:=#[x],argTypes:=#[t] }) (hx:ev L x=some (.slice a m c)):Val P L w o (int c):=fun ρ ha=>by
  have:=ha.ev (by rw [ho];simp [Op.operands,Call.operands]) hx
  have h3:=run_ut (t:=t) (P:=P) w
  simp [execOp,ho,resolve,invoke,builtin,Builtin.cap_,go_sem,this,h3,goInt]
theorem val_nil_eq {t e u:TypeId} {x y:Operand} {a:Option Addr} {m c:Nat} [ut:UT P t (.slice e)] (ho:o.op=.binOp .eql t x y u) (hx:ev L x=some (.slice a m c)) (hy:ev L y=some (.slice none 0 0)):Val P L w o (.bool a.isNone):=fun ρ ha=>by
  have h1:=ha.ev (by rw [ho];simp [Op.operands]) hx
  have h2:=ha.ev (by rw [ho];simp [Op.operands]) hy
  have h3:=run_ut (t:=t) (P:=P) w
  have h4:=Lib.run_eql_slice_nil (P:=P) w t e a m c 0 0 ut.u
  simp [execOp,ho,h1,h2,h3,h4,eqGuard]
end
end Go.En
