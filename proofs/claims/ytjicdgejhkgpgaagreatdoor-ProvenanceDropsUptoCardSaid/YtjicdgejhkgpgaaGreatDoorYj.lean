/-
  Own text of the proof.
-/
import Derived.Test.YtjicdgejhkgpgaaGreatDoorYg
import Derived.Test.YtjicdgejhkgpgaaGreatDoorYi
import Derived.Test.YtjicdgejhkgpgaaGreatDoorYe
import Derived.Test.YtjicdgejhkgpgaaGreatDoorYf
set_option linter.all false
namespace Go.En
open Go.RowKit
section
variable {P : Program} {n : Nat} {Q : Post} {ops : List Oper}
abbrev Rg:=Nat × Nat × Bool
def C0b (x:Option (Nat × Value)) (L:List (Nat × Value)):List (Nat × Value):=match x with|some y=>y::L|none=>L
def frame:List (Nat × Value)→List (Option (Nat × Value))→Nat→List (Nat × Value)
  | L,x::xs,i+1=>frame (C0b x L) xs i
  | L,_,_=>L
def VClause (P:Program) (ws:Nat→World) (L:List (Nat × Value)) (o:Oper) (x:Option (Nat × Value)) (g:Rg):Prop:=
  match g,x with
  | (lo,hi,true),some y=>∀ p,lo≤p→p≤hi→Val P L (ws p) o y.2
  | (_,_,true),none=>False
  | (q,_,false),some y=>∀ ρ,Agree L o ρ→(execOp ρ o).run P (ws q)=.ok (.value y.2) (ws (q+1))
  | (q,_,false),none=>∀ ρ,Agree L o ρ→(execOp ρ o).run P (ws q)=.ok .skip (ws (q+1))
def VQ (P:Program) (ws:Nat→World):List (Nat × Value)→List Oper→List (Option (Nat × Value))→List Rg→Prop
  | L,o::r,x::xs,g::gs=>VClause P ws L o x g∧VQ P ws (C0b x L) r xs gs
  | _,[],[],[]=>True
  | _,_,_,_=>False
theorem VQ.get {ws:Nat→World}:∀ {ops:List Oper} {L:List (Nat × Value)} {xs:List (Option (Nat × Value))} {gs:List Rg},VQ P ws L ops xs gs→∀ {i:Nat} {o:Oper},ops[i]?=some o→∃ x g,xs[i]?=some x∧gs[i]?=some g∧VClause P ws (frame L xs i) o x g
  | o::r,L,x::xs,g::gs,h,0,o',ho=>by
    simp at ho;subst ho
    exact⟨x,g,rfl,rfl,h.1⟩
  | o::r,L,x::xs,g::gs,h,i+1,o',ho=>by
    obtain⟨x',g',h1,h2,h3⟩:=VQ.get h.2 (i:=i) (by simpa using ho)
    exact⟨x',g',by simpa using h1,by simpa using h2,h3⟩
  | [],_,_,_,_,i,_,ho=>by simp at ho
  | _::_,_,[],_,h,_,_,_=>h.elim
  | _::_,_,_::_,[],h,_,_,_=>h.elim
theorem A0p : ∀ {xs : List (Option (Nat × Value))} {L : List (Nat × Value)} {i s : Nat} {v : Value}, lk (frame L xs i) s = some v → (∃ j, j < i ∧ xs[j]? = some (some (s, v))) ∨ (lk L s = some v ∧ ∀ j, j < i → ∀ u, xs[j]? ≠ some (some (s, u)))
  | [],L,i,s,v,h=>.inr ⟨by simpa [frame] using h,fun j _ u=>by simp⟩
  | x::xs,L,0,s,v,h=>.inr ⟨by simpa [frame] using h,fun j hj=>absurd hj (Nat.not_lt_zero _)⟩
  | x :: xs, L, i + 1, s, v, h => by
    rcases A0p (xs:=xs) (i:=i) (show lk (frame (C0b x L) xs i) s=some v from h) with⟨j,h1,h2⟩|⟨h1,h2⟩
    · exact .inl ⟨j+1,by omega,by simpa using h2⟩
    · cases x with
      | none=>exact .inr ⟨h1,fun j hj u=>by cases j with|zero=>simp|succ j=>simpa using h2 j (by omega) u⟩
      | some y=>
        obtain⟨k,z⟩:=y
        simp only [C0b,lk] at h1
        cases hb:Nat.beq k s with
        | true=>
          rw [hb] at h1;simp at h1
          have:=Nat.eq_of_beq_eq_true hb
          subst this;subst h1
          exact .inl ⟨0,by omega,rfl⟩
        | false=>
          rw [hb] at h1;simp at h1
          refine .inr ⟨h1,fun j hj u=>?_⟩
          cases j with
          | zero=>intro e;simp at e;rw [e.1] at hb;simp at hb
          | succ j=>simpa using h2 j (by omega) u
def rgOk (ops : List Oper) (ss : List Nat) (rg : List Rg) : Bool :=
  let b:=bf ops
  (List.range ops.length).all (fun i=>match rg.getD i (0,0,true) with
    | (lo,hi,true)=>Nat.ble lo ss.length&&(Nat.beq lo 0||(b.getD i 0).testBit (ss.getD (lo-1) 0))&&(Nat.ble ss.length hi||(b.getD (ss.getD hi 0) 0).testBit i)&&!(ss.any (Nat.beq i))
    | (q,_,false)=>Nat.blt q ss.length&&Nat.beq (ss.getD q 0) i)&&
  ss.all (fun i=>Nat.blt i ops.length)&&(List.range ss.length).all (fun q=>Nat.beq q 0||(b.getD (ss.getD q 0) 0).testBit (ss.getD (q-1) 0))
structure JS (n:Nat) (L0:List (Nat × Value)) (Lr:List (Option (Nat × Value))) (ss:List Nat) (ws:Nat→World) (ops:List Oper) (C:Nat→Prop) (a:Act) (w:World):Prop where
  size:a.tmps.size=n
  nod:a.defers=[]
  base:∀ s v,lk L0 s=some v→(∀ j o,C j→ops[j]?=some o→o.dst≠some s)→a.tmps[s]?=some v
  reads:∀ j s v,C j→Lr[j]?=some (some (s,v))→a.tmps[s]?=some v
  ph:∃ p,p≤ss.length∧(∀ q i,ss[q]?=some i→(C i↔q<p))∧w=ws p
theorem A2y {α:Type} {l:List α} {i:Nat} {x d:α} (h:l[i]?=some x):l.getD i d=x:=by rw [List.getD_eq_getElem?_getD,h];rfl
theorem C1f {id:Nat} {L0:List (Nat × Value)} {w0:World} (ws:Nat→World) (Lr:List (Option (Nat × Value))) (rg:List Rg) (ss:List Nat) (hm:P.follows .mixedOrders=true)
    (hc:(Z1 ops&&S5 ops ops.length&&A3y ops ops.length&&rgOk ops ss rg)=true) (hnd:ss.Nodup) (hgd:ops.all (fun o=>o.guard.isNone)=true) (hds:ops.all (fun o=>okd n o.dst)=true)
    (hLr:ops.map (·.dst)=Lr.map (Option.map Prod.fst)) (h0:ws 0=w0.drew) (hV:VQ P ws L0 ops Lr rg) (k:K n Q .normal (frame L0 Lr Lr.length) (ws ss.length)):E P n (.region id ops.toArray true) Q L0 w0:=by
  intro a ha
  simp only [Bool.and_eq_true] at hc
  obtain⟨⟨⟨hlow,hreads⟩,hdst⟩,hrg⟩:=hc
  simp only [rgOk,Bool.and_eq_true] at hrg
  obtain⟨⟨hrg1,hrg3⟩,hrg2⟩:=hrg
  have hlr:∀ {i:Nat} {o:Oper},ops[i]?=some o→∃ x,Lr[i]?=some x∧o.dst=x.map Prod.fst:=fun {i o} ho=>by
    have e:=congrArg (·[i]?) hLr
    simp only [List.getElem?_map,ho,Option.map_some] at e
    cases hx:Lr[i]? with
    | none=>rw [hx] at e;cases e
    | some x=>rw [hx] at e;exact⟨x,rfl,by simpa using e⟩
  have hll:Lr.length=ops.length:=by have:=congrArg List.length hLr;simpa using this.symm
  have rd_dst:∀ {j s:Nat} {v:Value},Lr[j]?=some (some (s,v))→∃ o,ops[j]?=some o∧o.dst=some s:=fun {j s v} hj=>by
    have hjl:=(List.getElem?_eq_some_iff.1 hj).1
    obtain⟨o,ho⟩:∃ o,ops[j]?=some o:=⟨_,List.getElem?_eq_getElem (by omega)⟩
    obtain⟨x,hx,hd⟩:=hlr ho
    rw [hj] at hx;cases hx
    exact⟨o,ho,hd⟩
  have dst_j:∀ {i j:Nat} {o o':Oper} {s:Nat},ops[i]?=some o→ops[j]?=some o'→o.dst=some s→o'.dst=some s→i=j:=fun ho ho' hd hd'=>
    L3 hdst ho (List.getElem?_eq_some_iff.1 ho).1 ho' (List.getElem?_eq_some_iff.1 ho').1 hd hd'
  refine wp_region_any hm ?_
  rw [show ops.toArray.size=ops.length by simp]
  have hfl:∀ i,¬ LsD (Array.replicate ops.length false) i:=fun i=>by
    unfold LsD;simp [Array.getElem?_replicate];split <;> simp
  refine C6n (J:=JS n L0 Lr ss ws ops) hlow (fun o ho=>by have:=List.all_eq_true.1 hgd o ho;simpa using this) ?_ ?_ _ _ a _ (by simp) (fun i o _ hi=>absurd hi (hfl i))
    ⟨ha.size,ha.nod,fun s v hs _=>ha.get s v hs,fun j s v hj=>absurd hj (hfl j),0,Nat.zero_le _,fun q i _=>⟨fun h=>absurd h (hfl i),fun h=>absurd h (Nat.not_lt_zero _)⟩,h0.symm⟩ (by
      have:=J7 (N:=ops.length) (Nat.zero_le _) (listed:=Array.replicate ops.length false) (fun i=>⟨fun h=>absurd h (hfl i),fun h=>absurd h (Nat.not_lt_zero _)⟩)
      omega)
  · intro C C' a w i o I hcl hi ho hed hC' K Q' hK
    have hil:=(List.getElem?_eq_some_iff.1 ho).1
    obtain⟨p,hp1,hp2,hp3⟩:=I.ph
    subst hp3
    have hreach:∀ {j:Nat},Rch ops i j→C j:=fun hr=>hr.clo hcl (fun o2 ho2=>by rw [ho] at ho2;cases ho2;exact hed)
    have hag:Agree (frame L0 Lr i) o a.eval:=fun x hxo u hu=>ev_of (fun s u he hl=>by
      subst he
      rcases A0p hl with⟨j,h1,h2⟩|⟨h1,h2⟩
      · obtain⟨o2,ho2,hd2⟩:=rd_dst h2
        have hr:=H9 hreads ho hil ho2 (List.getElem?_eq_some_iff.1 ho2).1 (P4 hxo) hd2
        exact I.reads j s u (hreach (hr.1 h1)) h2
      · refine I.base s u h1 (fun j o2 hj ho2 hd2=>?_)
        obtain⟨x2,hx2,hx3⟩:=hlr ho2
        rw [hd2] at hx3
        by_cases hji:j<i
        · cases x2 with
          | none=>cases hx3
          | some y=>
            obtain⟨s2,v2⟩:=y
            simp at hx3;subst hx3
            exact h2 j hji _ hx2
        · by_cases hje:j=i
          · subst hje;exact hi hj
          · have hr:=H9 hreads ho hil ho2 (List.getElem?_eq_some_iff.1 ho2).1 (P4 hxo) hd2
            exact hi ((hr.2 (by omega)).clo hcl (fun o3 ho3 e he hb=>hcl _ _ ho3 hj e he hb))) hu
    obtain⟨x,g,hx,hg,hcl2⟩:=hV.get ho
    obtain⟨x',hx',hdx⟩:=hlr ho
    rw [hx] at hx';cases hx'
    have hgd2:=List.all_eq_true.1 hrg1 i (by simpa using hil)
    rw [A2y hg] at hgd2
    have step:∀(v:Value) (w':World),(∀ y,x=some y→v=y.2)→(∃ p,p≤ss.length∧(∀ q i,ss[q]?=some i→(C' i↔q<p))∧w'=ws p)→JS n L0 Lr ss ws ops C' (a.put o.dst v) w':=by
      intro v w' hv hph
      have hsn:∀ {s:Nat},o.dst=some s→s<n:=fun hd=>by have:=List.all_eq_true.1 hds o (List.mem_of_getElem? ho);rw [hd] at this;exact Nat.le_of_ble_eq_true this
      refine⟨by rw [R7];exact I.size,by rw [X7];exact I.nod,fun s u hs hno=>?_,fun j s u hj hju=>?_,hph⟩
      · rw [A0h (hno i o ((hC' i).2 (.inl rfl)) ho)]
        exact I.base s u hs (fun j o2 hj ho2=>hno j o2 ((hC' j).2 (.inr hj)) ho2)
      · by_cases hji:j=i
        · subst hji
          rw [hx] at hju;cases hju
          rw [hdx,hv _ rfl]
          exact A6p (by rw [I.size];exact hsn hdx)
        · obtain⟨o2,ho2,hd2⟩:=rd_dst hju
          rw [A0h (fun e=>hji (dst_j ho2 ho hd2 e))]
          exact I.reads j s u (((hC' j).1 hj).resolve_left hji) hju
    obtain⟨lo,hi2,fl⟩:=g
    cases fl with
    | true=>
      simp only [Bool.and_eq_true,Bool.or_eq_true,Bool.not_eq_true'] at hgd2
      obtain⟨⟨⟨g1,g2⟩,g3⟩,g4⟩:=hgd2
      have g1':=Nat.le_of_ble_eq_true g1
      have hnotin:∀ q,ss[q]?≠some i:=fun q hq=>by
        have:ss.any (Nat.beq i)=true:=List.any_eq_true.2 ⟨i,List.mem_of_getElem? hq,Nat.beq_refl i⟩
        rw [this] at g4;cases g4
      have hlop:lo≤p:=by
        rcases g2 with g2|g2
        · have:=Nat.eq_of_beq_eq_true g2;omega
        · by_cases h00:lo=0
          · omega
          · obtain⟨z,hz⟩:∃ z,ss[lo-1]?=some z:=⟨_,List.getElem?_eq_getElem (by omega)⟩
            rw [A2y hz] at g2
            have:=(hp2 _ _ hz).1 (hreach (A0t g2))
            omega
      have hphi:p≤hi2:=by
        rcases g3 with g3|g3
        · have:=Nat.le_of_ble_eq_true g3;omega
        · apply Classical.byContradiction
          intro hn
          obtain⟨z,hz⟩:∃ z,ss[hi2]?=some z:=⟨_,List.getElem?_eq_getElem (by omega)⟩
          rw [A2y hz] at g3
          have hcz:=(hp2 _ _ hz).2 (by omega)
          exact hi ((A0t g3).clo hcl (fun o3 ho3 e he hb=>hcl _ _ ho3 hcz e he hb))
      cases x with
      | none=>exact hcl2.elim
      | some y=>
        have hrun:=hcl2 p hlop hphi a.eval hag
        unfold Oper.wp
        rw [hrun]
        refine hK y.2 (ws p) (step _ _ (fun y' e=>by cases e;rfl) ⟨p,hp1,fun q z hz=>?_,rfl⟩)
        rw [hC',← hp2 q z hz]
        exact⟨fun h=>h.resolve_left (fun e=>hnotin q (e▸hz)),.inr⟩
    | false =>
      simp only [Bool.and_eq_true] at hgd2
      obtain⟨g1,g2⟩:=hgd2
      have g1':lo<ss.length:=Nat.le_of_ble_eq_true g1
      have hq:ss[lo]?=some i:=by
        rw [List.getElem?_eq_getElem g1']
        have:=Nat.eq_of_beq_eq_true g2
        rw [List.getD_eq_getElem?_getD,List.getElem?_eq_getElem g1'] at this
        simpa using this
      have hpl:p=lo:=by
        have h1:¬ lo<p:=fun h=>hi ((hp2 _ _ hq).2 h)
        by_cases h00:lo=0
        · omega
        · have hb:=List.all_eq_true.1 hrg2 lo (by simpa using g1')
          simp only [Bool.or_eq_true] at hb
          rcases hb with hb|hb
          · exact absurd (Nat.eq_of_beq_eq_true hb) h00
          · obtain⟨z,hz⟩:∃ z,ss[lo-1]?=some z:=⟨_,List.getElem?_eq_getElem (by omega)⟩
            rw [A2y hq,A2y hz] at hb
            have:=(hp2 _ _ hz).1 (hreach (A0t hb))
            omega
      subst hpl
      have hph:∃ p',p'≤ss.length∧(∀ q i,ss[q]?=some i→(C' i↔q<p'))∧ws (p+1)=ws p':=by
        refine⟨p+1,g1',fun q z hz=>?_,rfl⟩
        rw [hC',hp2 q z hz]
        have hqz:z=i↔q=p:=by
          constructor
          · intro e
            subst e
            exact(List.getElem?_inj (List.getElem?_eq_some_iff.1 hz).1 hnd).1 (hz.trans hq.symm)
          · intro e
            subst e
            rw [hz] at hq;cases hq;rfl
        rw [hqz]
        omega
      cases x with
      | none=>
        have hrun:=hcl2 a.eval hag
        unfold Oper.wp
        rw [hrun]
        exact hK undef (ws (p+1)) (step _ _ (fun y' e=>by cases e) hph)
      | some y=>
        have hrun:=hcl2 a.eval hag
        unfold Oper.wp
        rw [hrun]
        exact hK y.2 (ws (p+1)) (step _ _ (fun y' e=>by cases e;rfl) hph)
  · intro C a w hall I
    obtain⟨p,hp1,hp2,hp3⟩:=I.ph
    have hpe:p=ss.length:=by
      apply Classical.byContradiction
      intro hn
      obtain⟨z,hz⟩:∃ z,ss[p]?=some z:=⟨_,List.getElem?_eq_getElem (by omega)⟩
      have hzl:z<ops.length:=by
        exact Nat.le_of_ble_eq_true (List.all_eq_true.1 hrg3 z (List.mem_of_getElem? hz))
      have:=(hp2 _ _ hz).1 (hall z hzl)
      omega
    subst hpe
    subst hp3
    refine k a ⟨I.size,I.nod,fun s v hs=>?_⟩
    rcases A0p hs with⟨j,h1,h2⟩|⟨h1,h2⟩
    · exact I.reads j s v (hall j (by omega)) h2
    · refine I.base s v h1 (fun j o2 hj ho2 hd2=>?_)
      obtain⟨x2,hx2,hx3⟩:=hlr ho2
      rw [hd2] at hx3
      cases x2 with
      | none=>cases hx3
      | some y=>
        obtain⟨s2,v2⟩:=y
        simp at hx3;subst hx3
        exact h2 j (by have:=(List.getElem?_eq_some_iff.1 hx2).1;omega) _ hx2
theorem B6u {L:List (Nat × Value)} {w:World} {o:Oper} {t:TypeId} {x y:Operand} {v z:Value} {size bytes:Nat} {b off:Nat} {e:TypeId} {cs:List Value} [TI P t z size bytes] (ho:o.op=.store t x y) (hx:ev L x=some (.pointer (some ⟨b,off,none⟩))) (hy:ev L y=some v)
    (hs:v.cells.size=size) (h1:v.cells.toList.all Value.oneCell'=true) (hr:Row w b e cs) (hl:off+size≤cs.length) :
    ∀ ρ,Agree L o ρ→(execOp ρ o).run P w=.ok .skip (w.setRow b (cs.take off++v.cells.toList++cs.drop (off+size)).toArray):=fun ρ ha=>by
  have h:=run_storeCells_at (P:=P) b off e v.cells.toList 0 cs.toArray w hr (by simp [hs];exact hl) (fun u hu=>List.all_eq_true.1 h1 u hu)
  simp only [Nat.add_zero] at h
  have a1:=ha.ev (by rw [ho];simp [Op.operands]) hx
  have a2:=ha.ev (by rw [ho];simp [Op.operands]) hy
  have h4:=M3 (P:=P) (t:=t) w
  simp only [execOp,ho,a1,a2,Instr.storeAt,Instr.sureAddr,storeVar,Sem.run_bind,Sem.run_pure,Result.andThen_ok,h4,hs]
  rw [if_neg (by simp)]
  have e1:(List.drop (off+v.cells.toList.length) cs)=List.drop (off+size) cs:=by rw [Array.length_toList,hs]
  simp only [h,Result.andThen_ok]
  simp [hs]
theorem A0a {L:List (Nat × Value)} {w:World} {o:Oper} {t:TypeId} {x y:Operand} {v z:Value} {size bytes:Nat} {b off:Nat} {e:TypeId} {cs new cs':List Value} [TI P t z size bytes] (ho:o.op=.store t x y) (hx:ev L x=some (.pointer (some ⟨b,off,none⟩))) (hy:ev L y=some v)
    (hv:v.cells.toList=new) (hs:Nat.beq new.length size=true) (h1:new.all Value.oneCell'=true) (hr:Row w b e cs) (hl:off+size≤cs.length) (hcs:cs.take off++new++cs.drop (off+size)=cs') :
    ∀ ρ,Agree L o ρ→(execOp ρ o).run P w=.ok .skip (w.setRow b cs'.toArray):=by
  subst hcs
  subst hv
  exact B6u ho hx hy (by rw [← Nat.eq_of_beq_eq_true hs,Array.length_toList]) h1 hr hl
theorem B0z {w:World} {b:Nat} {e:TypeId} {cs:List Value} (cs':List Value) (hr:Row w b e cs):Row (w.setRow b cs'.toArray) b e cs'∧Kb (some b) w (w.setRow b cs'.toArray):=
  ⟨setRow_heap w b cs.toArray cs'.toArray e (0,0) hr,⟨rfl,rfl,rfl,by simp,fun k hk hne=>setRow_other w b k _ (fun e=>hne (by rw [e]))⟩⟩
theorem A6e {L:List (Nat × Value)} {w w':World} {o:Oper} {t:TypeId} {s x:Operand} {v v' u:Value} (ho:o.op=.call { callee:=.builtin .append,args:=#[s,x],argTypes:=#[t,t] }) (hs:ev L s=some v) (hx:ev L x=some u)
    (hr:(Builtin.append_ #[t,t] o.type #[v,u]).run P w=.ok v' w'):∀ ρ,Agree L o ρ→(execOp ρ o).run P w=.ok (.value v') w':=fun ρ ha=>by
  have a1:=ha.ev (by rw [ho];simp [Op.operands,Call.operands]) hs
  have a2:=ha.ev (by rw [ho];simp [Op.operands,Call.operands]) hx
  simp only [execOp,ho,resolve,invoke,builtin,Sem.run_bind,Sem.run_pure,Result.andThen_ok,List.map_toArray,List.map_cons,List.map_nil,a1,a2,hr]
end
end Go.En
namespace Go.En
open Go.RowKit
section
variable {P : Program} {n : Nat} {Q : Post} {ops : List Oper}
def upd (δ:Nat→Value) (d:Option Tmp) (v:Value):Nat→Value:=fun s=>if d=some s then v else δ s
structure JU (n:Nat) (Φ:(Nat→Prop)→(Nat→Value)→World→Prop) (C:Nat→Prop) (a:Act) (w:World):Prop where
  size:a.tmps.size=n
  nod:a.defers=[]
  phi:Φ C (fun s=>a.tmps.getD s undef) w
theorem C0x {w : World} (t ty : TypeId) {e : TypeId} {z : Value} {size bytes : Nat} [ut : UT P t (.slice e)] [ti : TI P e z size bytes] {v : Value} {w0 : World} {m : Nat} {xs : List Value} {a : Option Addr} {q : Nat} (c : Nat) {news : List Value}
    (hown:w.ownsRow w0.heap.size e size v m xs) (x0:Ext w0 w) (hnews:0<q→∃ b off,a=some ⟨b,off,none⟩∧At w b off news) (hl:news.length=q*size)
    (h1:news.all Value.oneCell'=true) (hz:z.cells.size=size) (hsz:Nat.ble 1 size=true) (hmax:(m+q)*bytes≤140737488355328) (hmax':m+q≤9223372036854775807) :
    ∃ v' w',(Builtin.append_ #[t,t] ty #[v,.slice a q c]).run P w=.ok v' w'∧w'.ownsRow w0.heap.size e size v' (m+q) (xs++news)∧Ext w0 w'∧Kb v.ownBlock w w'∧(v'.ownBlock=v.ownBlock∨v'.ownBlock=some w.heap.size):=by
  obtain⟨i0,hi,hz0,hz1,hz2⟩:=info_parts ti.i
  cases a with
  | none=>
    have hq:q=0:=by
      by_cases h0:0<q
      · obtain⟨_,_,e1,_⟩:=hnews h0;cases e1
      · omega
    subst hq
    obtain rfl:news=[]:=List.length_eq_zero_iff.1 (by rw [hl,Nat.zero_mul])
    have hr:=V0 (P:=P) (w:=w) (ty:=ty) (c:=c) ut.u hi hown
    exact⟨v,w,hr,by simpa using hown,x0,World.grownBy.refl _ _,.inl rfl⟩
  | some ad=>
    have hat:∀ j u,news[j]?=some u→w.cell? (ad.add j)=some u:=by
      by_cases h0:0<q
      · obtain⟨b,off,e1,hat⟩:=hnews h0
        cases e1
        exact fun j u hu=>by rw [D2];exact hat j u hu
      · obtain rfl:news=[]:=List.length_eq_zero_iff.1 (by rw [hl,show q=0 by omega,Nat.zero_mul])
        exact fun j u hu=>by simp at hu
    obtain⟨v',w',hr,h2,h3,_,h4⟩:=run_append_own_at (P:=P) (w:=w) (ty:=ty) w0.heap.size t e i0 z size bytes ut.u hi hz0 hz1 hz2 hz (Nat.le_of_ble_eq_true hsz) v m xs hown ad q c news hl hat
      (fun u hu=>List.all_eq_true.1 h1 u hu) (by unfold maxLen;omega) hmax x0.size
    exact⟨v',w',hr,h2,O3 hown x0 h3,h3,h4⟩
end
end Go.En
namespace Go.En
open Go.RowKit
section
variable {P : Program} {n : Nat} {Q : Post} {ops : List Oper}
def VC (P:Program) (L:List (Nat × Value)) (w0:World) (o:Oper) (v:Value):Prop:=
  (∀ w,Ext w0 w→Val P L w o v)∨(∃ f args,(∀ w,Ext w0 w→Enters P L w o f args)∧∀ w,Ext w0 w→Calls P f args w (Rt fun u w'=>u=v∧Ext w w'))
theorem vcV {L:List (Nat × Value)} {w0:World} {o:Oper} {v:Value} (h:∀ w,Ext w0 w→Val P L w o v):VC P L w0 o v:=.inl h
structure JO (n:Nat) (L0:List (Nat × Value)) (Lr:List (Option (Nat × Value))) (w0:World) (ops:List Oper) (ia is p:Nat) (t:TypeId) (Zc X:List Value) (C:Nat→Prop) (a:Act) (w:World):Prop where
  size:a.tmps.size=n
  nod:a.defers=[]
  ext:Ext w0 w
  base:∀ s v,lk L0 s=some v→(∀ j o,C j→ops[j]?=some o→o.dst≠some s)→a.tmps[s]?=some v
  reads:∀ j s v,C j→Lr[j]?=some (some (s,v))→a.tmps[s]?=some v
  hp:C ia→∃ b,a.tmps[p]?=some (.pointer (some ⟨b,0,none⟩))∧w0.heap.size≤b∧(C is→Row w b t X)∧(¬ C is→Row w b t Zc)
end
end Go.En
namespace Go.Proofs.YtjicdgejhkgpgaaGreatDoor
section
open Go.RowKit Go.En Go.Pv
attribute [local irreducible] E EL K Val Enters Rt Calls bodyPost Code.wp RQ
end
section
open Go.RowKit Go.En Go.Pv
attribute [local irreducible] E EL K Val Enters Rt Calls bodyPost Code.wp RQ
end
section
open Go.RowKit Go.En Go.Pv
def blv (n:Nat) (S:Int→Bool):List Value:=(List.range n).map fun i:Nat=>.bool (S (i:Int))
theorem A5p {n i:Nat} {S:Int→Bool} (h:i<n):(blv n S)[i]?=some (.bool (S (i:Int))):=by simp [blv,h]
theorem A5o (n:Nat) (S:Int→Bool):(blv n S).length=n:=by simp [blv]
theorem blv_ext {n:Nat} {S T:Int→Bool} (h:∀ i:Nat,i<n→S (i:Int)=T (i:Int)):blv n S=blv n T:=by
  unfold blv
  refine List.map_congr_left fun i hi=>?_
  rw [h i (List.mem_range.1 hi)]
theorem C6i {n q:Nat} {S:Int→Bool} (b:Bool):(blv n S).set q (.bool b)=blv n (fun p=>if p=(q:Int) then b else S p):=by
  refine List.ext_getElem? fun i=>?_
  by_cases hi:i<n
  · rw [A5p hi,List.getElem?_set]
    by_cases e:q=i
    · subst e
      rw [if_pos rfl,if_pos (by rw [A5o];exact hi),if_pos rfl]
    · rw [if_neg e,A5p hi,if_neg (by omega)]
  · rw [List.getElem?_eq_none (by rw [List.length_set,A5o];omega),List.getElem?_eq_none (by rw [A5o];omega)]
theorem C2y (n:Nat):List.replicate n (Value.bool false)=blv n (fun _=>false):=by
  unfold blv
  rw [List.map_const',List.length_range]
def RB (B:Nat) (w:World) (v:Value) (n:Nat) (S:Int→Bool):Prop:=∃ b,v=.slice (some ⟨b,0,none⟩) n n∧B≤b∧Row w b 4 (blv n S)
theorem RB.ext {B:Nat} {w w':World} {v:Value} {n:Nat} {S:Int→Bool} (h:RB B w v n S) (x:Ext w w'):RB B w' v n S:=by
  obtain⟨b,e,hb,hr⟩:=h;exact⟨b,e,hb,hr.ext x⟩
theorem RB.same {B:Nat} {w:World} {v:Value} {n:Nat} {S T:Int→Bool} (h:RB B w v n S) (e:∀ i:Nat,i<n→S (i:Int)=T (i:Int)):RB B w v n T:=by
  rw [RB,← blv_ext e];exact h
attribute [local irreducible] E EL K Val Enters Rt Calls bodyPost Code.wp RQ
end
section
open Go.RowKit Go.En Go.Pv
attribute [local irreducible] E EL K Val Enters Rt Calls bodyPost Code.wp RQ
end
section
open Go.RowKit Go.En Go.Pv
attribute [local irreducible] E EL K Val Enters Rt Calls bodyPost Code.wp RQ
end
section
open Go.RowKit Go.En Go.Pv
def B9r (r:Rul) (n i:Nat):Prop:=r.left.length≤i∧i+1+r.right.length≤n∧(r.beg=true→i=r.left.length)∧(r.fin=true→i+1+r.right.length=n)
theorem A4k {segs:List Ph} {r:Rul} {ws:List Int} {i:Nat} {x:Int} (hx:ws[i]?=some x) (h:x∉r.frm):Q5 D1 segs r ws i=false:=by
  unfold Q5;rw [hx];simp [h]
theorem site_no {segs:List Ph} {r:Rul} {ws:List Int} {i:Nat} {x:Int} (hx:ws[i]?=some x) (h:¬ B9r r ws.length i):Q5 D1 segs r ws i=false:=by
  unfold Q5;rw [hx];dsimp only
  cases hb:(r.frm.contains x&&decide (r.left.length≤i)&&decide (i+1+r.right.length≤ws.length)&&(!r.beg||i==r.left.length)&&(!r.fin||i+1+r.right.length==ws.length)) with
  | false=>rfl
  | true=>
    exfalso
    simp only [Bool.and_eq_true,decide_eq_true_eq,Bool.or_eq_true,Bool.not_eq_true',beq_iff_eq] at hb
    refine h ⟨hb.1.1.1.2,hb.1.1.2,fun e=>?_,fun e=>?_⟩
    · rcases hb.1.2 with h1|h1
      · rw [h1] at e;cases e
      · exact h1
    · rcases hb.2 with h1|h1
      · rw [h1] at e;cases e
      · exact h1
theorem C4b {segs:List Ph} {r:Rul} {ws:List Int} {i:Nat} {x:Int} (hx:ws[i]?=some x) (hm:x∈r.frm) (h:B9r r ws.length i) :
    Q5 D1 segs r ws i=(A0q D1 segs r.left ((ws.drop (i-r.left.length)).take r.left.length)&&A0q D1 segs r.right ((ws.drop (i+1)).take r.right.length)):=by
  unfold Q5;rw [hx];dsimp only
  obtain⟨h1,h2,h3,h4⟩:=h
  have e3:(!r.beg||i==r.left.length)=true:=by
    cases hb:r.beg with
    | false=>rfl
    | true=>simp [h3 hb]
  have e4:(!r.fin||i+1+r.right.length==ws.length)=true:=by
    cases hb:r.fin with
    | false=>rfl
    | true=>simp [h4 hb]
  rw [e3,e4,decide_eq_true h1,decide_eq_true h2]
  simp [hm]
theorem C5j {segs:List Ph} {cs:List Cls} {xs:List Int} (h:∀(j:Nat) (c:Cls) (y:Int),cs[j]?=some c→xs[j]?=some y→inC D1 segs y c=true):A0q D1 segs cs xs=true:=by
  unfold A0q
  rw [List.all_eq_true]
  intro p hp
  obtain⟨j,hj⟩:=List.getElem?_of_mem hp
  rw [List.getElem?_zip_eq_some] at hj
  exact h j p.1 p.2 hj.1 hj.2
theorem fits_no {segs:List Ph} {cs:List Cls} {xs:List Int} {j:Nat} {c:Cls} {y:Int} (hc:cs[j]?=some c) (hy:xs[j]?=some y) (h:inC D1 segs y c=false):A0q D1 segs cs xs=false:=by
  unfold A0q
  rw [List.all_eq_false]
  exact⟨(c,y),List.mem_of_getElem? (List.getElem?_zip_eq_some.2 ⟨hc,hy⟩),by simp [h]⟩
structure RulG (G:Nat→Prop) (w:World) (r:Rul) (fv tv lv rv:Value):Prop where
  frm:SlG G w fv r.frm
  to:SlG G w tv r.to
  left:SlG G w lv r.left
  right:SlG G w rv r.right
theorem RulG.ext {G:Nat→Prop} {w w':World} {r:Rul} {fv tv lv rv:Value} (h:RulG G w r fv tv lv rv) (x:Ext w w'):RulG G w' r fv tv lv rv:=⟨h.frm.ext x,h.to.ext x,h.left.ext x,h.right.ext x⟩
abbrev RulAt:=RulG Tt
structure RulOK (r:Rul):Prop where
  len:r.to.length=r.frm.length
  few:r.frm.length≤8
  nod:r.frm.Nodup
  left:r.left.length≤2
  right:r.right.length≤2
attribute [local irreducible] E EL K Val Enters Rt Calls bodyPost Code.wp RQ
end
section
open Go.RowKit Go.En Go.Pv
def upA (segs:List Ph) (r:Rul) (ws:List Int) (i:Nat):List Int:=(List.range i).filterMap (oneF D1 segs r ws)
theorem C3s (segs:List Ph) (r:Rul) (ws:List Int) (i:Nat):upA segs r ws (i+1)=upA segs r ws i++(match oneF D1 segs r ws i with|some y=>[y]|none=>[]):=by
  unfold upA;rw [List.range_succ,List.filterMap_append];congr 1
  cases h:oneF D1 segs r ws i <;> simp [h]
theorem B9n (segs:List Ph) (r:Rul) (ws:List Int) (i:Nat):(upA segs r ws i).length≤i:=by
  have:=List.length_filterMap_le (oneF D1 segs r ws) (List.range i);simpa [upA] using this
theorem oneF_at {segs:List Ph} {r:Rul} {ws:List Int} {i:Nat} {x:Int} (hx:ws[i]?=some x):oneF D1 segs r ws i=if (if Q5 D1 segs r ws i then newF r x else x)=0 then none else some (if Q5 D1 segs r ws i then newF r x else x):=by
  have:ws.getD i 0=x:=by rw [List.getD_eq_getElem?_getD,hx];rfl
  unfold oneF;rw [this]
theorem C4c {segs:List Ph} {r:Rul} {ws:List Int} {i:Nat} {x:Int} (hx:ws[i]?=some x) (h:Q5 D1 segs r ws i=true):x∈r.frm:=by
  refine Classical.byContradiction fun hn=>?_
  rw [A4k hx hn] at h;cases h
attribute [local irreducible] E EL K Val Enters Rt Calls bodyPost Code.wp RQ
end
section
open Go.RowKit Go.En Go.Pv
theorem LangOK.rul {g:Lg} (h:LangOK g):∀ r∈g.rules,RulOK r:=fun r hr=>by
  obtain⟨h1,h2,h3,h4,h5⟩:=h.rules r hr;exact⟨h1,h2,h3,h4,h5⟩
attribute [local irreducible] E EL K Val Enters Rt Calls bodyPost Code.wp RQ
end
section
open Go.RowKit Go.En Go.Pv
attribute [local irreducible] E EL K Val Enters Rt Calls bodyPost Code.wp RQ
end
end Go.Proofs.YtjicdgejhkgpgaaGreatDoor