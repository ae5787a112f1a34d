/-
  A region that draws its order: values read, a call, one variable made and filled ('x, ok := f(l[i])', x in memory): in every order. Walks: the reference's Classes and Base. Walks: the reference's Base. Walks: the reference's nets: sets of states. Walks: the reference's nets: both, reached, ends, run, Accepts, Follow. Walks: the reference's nets: Accepts, ends, Follow. Walks: the reference's rules (site, Apply, Last). Walks: the reference's Apply and Last. Walks: the reference's part, Right, Form, Licensed. Walks: the reference's Right, Form, Licensed.
-/
import Derived.Test.YtjicdgejhkgpgaaGreatDoorYj
import Derived.Test.YtjicdgejhkgpgaaGreatDoorYf
import Derived.Test.YtjicdgejhkgpgaaGreatDoorYi
import Derived.Test.YtjicdgejhkgpgaaGreatDoorYh
set_option linter.all false
namespace Go.En
open Go.RowKit
section
variable {P : Program} {n : Nat} {Q : Post} {ops : List Oper}
def VC (P:Program) (L:List (Nat × Value)) (w0:World) (o:Oper) (v:Value):Prop:=
  (∀ w,Ext w0 w→Val P L w o v)∨(∃ f args,(∀ w,Ext w0 w→Enters P L w o f args)∧∀ w,Ext w0 w→Calls P f args w (Rt fun u w'=>u=v∧Ext w w'))
theorem vcV {L:List (Nat × Value)} {w0:World} {o:Oper} {v:Value} (h:∀ w,Ext w0 w→Val P L w o v):VC P L w0 o v:=.inl h
theorem vcC {L:List (Nat × Value)} {w0:World} {o:Oper} {v:Value} {f:FuncId} {args:Array Value} (h:∀ w,Ext w0 w→Enters P L w o f args) (hc:∀ w,Ext w0 w→Calls P f args w (Rt fun u w'=>u=v∧Ext w w')):VC P L w0 o v:=.inr ⟨f,args,h,hc⟩
def VSq (P:Program) (w0:World):List (Nat × Value)→List Oper→List (Option (Nat × Value))→Prop
  | L,o::r,some x::xs=>VC P L w0 o x.2∧VSq P w0 (x::L) r xs
  | L,_::r,none::xs=>VSq P w0 L r xs
  | _,[],[]=>True
  | _,_,_=>False
theorem VSq.get {w0:World}:∀ {ops:List Oper} {L:List (Nat × Value)} {xs:List (Option (Nat × Value))},VSq P w0 L ops xs→∀ {i:Nat} {o:Oper} {y:Nat × Value},ops[i]?=some o→xs[i]?=some (some y)→VC P (frame L xs i) w0 o y.2
  | o::r,L,some x::xs,h,0,o',y,ho,hy=>by
    simp at ho hy;subst ho;subst hy
    exact h.1
  | o::r,L,some x::xs,h,i+1,o',y,ho,hy=>VSq.get (L:=x::L) h.2 (i:=i) (by simpa using ho) (by simpa using hy)
  | o::r,L,none::xs,h,0,o',y,ho,hy=>by simp at hy
  | o::r,L,none::xs,h,i+1,o',y,ho,hy=>VSq.get (ops:=r) (xs:=xs) (L:=L) (show VSq P w0 L r xs from h) (i:=i) (by simpa using ho) (by simpa using hy)
  | [],_,_,_,i,_,_,ho,_=>by simp at ho
  | _::_,_,[],h,_,_,_,_,_=>h.elim
structure JO (n:Nat) (L0:List (Nat × Value)) (Lr:List (Option (Nat × Value))) (w0:World) (ops:List Oper) (ia is p:Nat) (t:TypeId) (Zc X:List Value) (C:Nat→Prop) (a:Act) (w:World):Prop where
  size:a.tmps.size=n
  nod:a.defers=[]
  ext:Ext w0 w
  base:∀ s v,lk L0 s=some v→(∀ j o,C j→ops[j]?=some o→o.dst≠some s)→a.tmps[s]?=some v
  reads:∀ j s v,C j→Lr[j]?=some (some (s,v))→a.tmps[s]?=some v
  hp:C ia→∃ b,a.tmps[p]?=some (.pointer (some ⟨b,0,none⟩))∧w0.heap.size≤b∧(C is→Row w b t X)∧(¬ C is→Row w b t Zc)
def oneOk (ops:List Oper) (Lr:List (Option (Nat × Value))) (ia is:Nat):Bool:=
  Nat.beq Lr.length ops.length&&(List.range ops.length).all fun i=>Nat.beq i ia||Nat.beq i is||(Lr.getD i none).isSome
theorem E_one {id:Nat} {L0:List (Nat × Value)} {w0:World} (ia is p sx:Nat) {t:TypeId} {z:Value} {size bytes:Nat} (X:List Value) (Lr:List (Option (Nat × Value))) [TI P t z size bytes] (hm:P.follows .mixedOrders=true)
    (hc:(chkLow ops&&chkReads ops ops.length&&chkDst ops ops.length)=true) (hgd:ops.all (fun o=>o.guard.isNone)=true) (hds:ops.all (fun o=>okd n o.dst)=true)
    (h0:ops[ia]?.map (fun o=>(o.op,o.dst))=some (.alloc t,some p)) (h1:ops[is]?.map (fun o=>(o.op,o.dst))=some (.store t (.tmp p) (.tmp sx),none))
    (hLa:Lr[ia]?=some none) (hLs:Lr[is]?=some none) (hLd:(ops.map (·.dst)).set ia none=Lr.map (Option.map Prod.fst)) (hok:oneOk ops Lr ia is=true) (hias:ia<is) (hp0:lk L0 p=none)
    (hX:lk (frame L0 Lr is) sx=some (.agg X.toArray)) (hXs:X.length=size) (hX1:X.all Value.oneCell'=true) (hz:z.cells.size=size)
    (hV:VSq P w0 L0 ops Lr)
    (k:∀ b w,Ext w0 w→w0.heap.size≤b→Row w b t X→K n Q .normal ((p,.pointer (some ⟨b,0,none⟩))::frame L0 Lr Lr.length) w):E P n (.region id ops.toArray true) Q L0 w0:=by
  intro a ha
  simp only [Bool.and_eq_true] at hc
  obtain⟨⟨hlow,hreads⟩,hdst⟩:=hc
  simp only [oneOk,Bool.and_eq_true] at hok
  have hll:Lr.length=ops.length:=Nat.eq_of_beq_eq_true hok.1
  have op_of:∀ {i:Nat} {x:Op × Option Tmp},ops[i]?.map (fun o=>(o.op,o.dst))=some x→∀ {o},ops[i]?=some o→o.op=x.1∧o.dst=x.2:=fun {i x} hx {o} ho=>by
    rw [ho] at hx;simp at hx;rw [← hx];exact⟨rfl,rfl⟩
  obtain⟨oa,hoa⟩:∃ o,ops[ia]?=some o:=by cases ho:ops[ia]? with|none=>rw [ho] at h0;cases h0|some o=>exact⟨o,rfl⟩
  obtain⟨os,hos⟩:∃ o,ops[is]?=some o:=by cases ho:ops[is]? with|none=>rw [ho] at h1;cases h1|some o=>exact⟨o,rfl⟩
  obtain⟨ha1,ha2⟩:=op_of h0 hoa
  obtain⟨hs1,hs2⟩:=op_of h1 hos
  dsimp only at ha1 ha2 hs1 hs2
  have hlr:∀ {i:Nat} {o:Oper},ops[i]?=some o→i≠ia→∃ x,Lr[i]?=some x∧o.dst=x.map Prod.fst:=fun {i o} ho hia=>by
    have e:=congrArg (·[i]?) hLd
    simp only [List.getElem?_map] at e
    rw [List.getElem?_set_ne (fun h=>hia h.symm),List.getElem?_map,ho,Option.map_some] at e
    cases hx:Lr[i]? with
    | none=>rw [hx] at e;cases e
    | some x=>rw [hx] at e;exact⟨x,rfl,by simpa using e⟩
  have rd_dst:∀ {j s:Nat} {v:Value},Lr[j]?=some (some (s,v))→j≠ia∧∃ o,ops[j]?=some o∧o.dst=some s:=fun {j s v} hj=>by
    have hjl:=(List.getElem?_eq_some_iff.1 hj).1
    have hji:j≠ia:=fun e=>by subst e;rw [hLa] at hj;cases hj
    obtain⟨o,ho⟩:∃ o,ops[j]?=some o:=⟨_,List.getElem?_eq_getElem (by omega)⟩
    obtain⟨x,hx,hd⟩:=hlr ho hji
    rw [hj] at hx;cases hx
    exact⟨hji,o,ho,hd⟩
  have dst_j:∀ {i j:Nat} {o o':Oper} {s:Nat},ops[i]?=some o→ops[j]?=some o'→o.dst=some s→o'.dst=some s→i=j:=fun ho ho' hd hd'=>
    chkDst_ok hdst ho (List.getElem?_eq_some_iff.1 ho).1 ho' (List.getElem?_eq_some_iff.1 ho').1 hd hd'
  have hpn:p<n:=by have:=List.all_eq_true.1 hds oa (List.mem_of_getElem? hoa);rw [ha2] at this;exact Nat.le_of_ble_eq_true this
  have hzl:z.cells.toList.length=size:=by simpa using hz
  refine wp_region_any hm ?_
  rw [show ops.toArray.size=ops.length by simp]
  have hfl:∀ i,¬ LsD (Array.replicate ops.length false) i:=fun i=>by
    unfold LsD;simp [Array.getElem?_replicate];split <;> simp
  have look : ∀ {C : Nat → Prop} {a : Act} {w : World} {i : Nat} {o : Oper} {s : Nat} {u : Value}, JO n L0 Lr w0 ops ia is p t z.cells.toList X C a w → Clo ops C → ops[i]? = some o → ¬ C i → (∀ e ∈ o.after, Region.binds .any e = true → C e.on) → .tmp s ∈ o.op.operands → lk (frame L0 Lr i) s = some u → a.tmps[s]? = some u := by
    intro C a w i o s u I hcl ho hi hed hxo hl
    have hil:=(List.getElem?_eq_some_iff.1 ho).1
    have hreach:∀ {j:Nat},Rch ops i j→C j:=fun hr=>hr.clo hcl (fun o2 ho2=>by rw [ho] at ho2;cases ho2;exact hed)
    rcases frame_lk hl with⟨j,h1,h2⟩|⟨h1,h2⟩
    · obtain⟨_,o2,ho2,hd2⟩:=rd_dst h2
      have hr:=chkReads_ok hreads ho hil ho2 (List.getElem?_eq_some_iff.1 ho2).1 (looks_op hxo) hd2
      exact I.reads j s u (hreach (hr.1 (by assumption))) h2
    · refine I.base s u h1 (fun j o2 hj ho2 hd2=>?_)
      by_cases hja:j=ia
      · subst hja
        rw [hoa] at ho2;cases ho2
        rw [ha2] at hd2;cases hd2
        rw [hp0] at h1;cases h1
      · obtain⟨x2,hx2,hx3⟩:=hlr ho2 hja
        rw [hd2] at hx3
        by_cases hji:j<i
        · cases x2 with
          | none=>cases hx3
          | some y=>
            obtain⟨s2,v2⟩:=y
            simp at hx3;subst hx3
            exact h2 j hji _ hx2
        · by_cases hje:j=i
          · subst hje;exact hi hj
          · have hr:=chkReads_ok hreads ho hil ho2 (List.getElem?_eq_some_iff.1 ho2).1 (looks_op hxo) hd2
            exact hi ((hr.2 (by omega)).clo hcl (fun o3 ho3 e he hb=>hcl _ _ ho3 hj e he hb))
  have hp_reads:∀ {C:Nat→Prop} {i:Nat} {o:Oper},Clo ops C→ops[i]?=some o→(∀ e∈o.after,Region.binds .any e=true→C e.on)→ia<i→.tmp p∈o.op.operands→C ia:=fun {C i o} hcl ho hed hlt hxo=>by
    have hr:=chkReads_ok hreads ho (List.getElem?_eq_some_iff.1 ho).1 hoa (List.getElem?_eq_some_iff.1 hoa).1 (looks_op hxo) ha2
    exact(hr.1 hlt).clo hcl (fun o2 ho2=>by rw [ho] at ho2;cases ho2;exact hed)
  have hs_after:∀ {C:Nat→Prop},Clo ops C→C is→C ia:=fun {C} hcl h=>hp_reads hcl hos (fun e he hb=>hcl _ _ hos h e he hb) hias (by rw [hs1];simp [Op.operands])
  refine any_J (J:=JO n L0 Lr w0 ops ia is p t z.cells.toList X) hlow (fun o ho=>by have:=List.all_eq_true.1 hgd o ho;simpa using this) ?_ ?_ _ _ a _ (by simp) (fun i o _ hi=>absurd hi (hfl i))
    ⟨ha.size,ha.nod,ext_drew w0,fun s v hs _=>ha.get s v hs,fun j s v hj=>absurd hj (hfl j),fun hj=>absurd hj (hfl _)⟩ (by
      have:=unl_prefix (N:=ops.length) (Nat.zero_le _) (listed:=Array.replicate ops.length false) (fun i=>⟨fun h=>absurd h (hfl i),fun h=>absurd h (Nat.not_lt_zero _)⟩)
      omega)
  · intro C C' a w i o I hcl hi ho hed hC' K Q' hK
    have hil:=(List.getElem?_eq_some_iff.1 ho).1
    have stepB:∀(v:Value),(∀ s u,lk L0 s=some u→(∀ j q,C' j→ops[j]?=some q→q.dst≠some s)→(a.put o.dst v).tmps[s]?=some u):=fun v s u hs hno=>by
      rw [put_ne (hno i o ((hC' i).2 (.inl rfl)) ho)]
      exact I.base s u hs (fun j o2 hj ho2=>hno j o2 ((hC' j).2 (.inr hj)) ho2)
    have stepR:∀(v:Value),(∀ y,Lr[i]?=some (some y)→v=y.2)→∀ j s u,C' j→Lr[j]?=some (some (s,u))→(a.put o.dst v).tmps[s]?=some u:=fun v hv j s u hj hju=>by
      obtain⟨hja,o2,ho2,hd2⟩:=rd_dst hju
      by_cases hji:j=i
      · subst hji
        rw [ho] at ho2;cases ho2
        have hsn:s<n:=by have:=List.all_eq_true.1 hds o (List.mem_of_getElem? ho);rw [hd2] at this;exact Nat.le_of_ble_eq_true this
        rw [hd2,hv _ hju]
        exact put_eq (by rw [I.size];exact hsn)
      · rw [put_ne (fun e=>hji (dst_j ho2 ho hd2 e))]
        exact I.reads j s u (((hC' j).1 hj).resolve_left hji) hju
    by_cases hia:i=ia
    · subst hia
      rw [hoa] at ho;cases ho
      have hrun:=run_alloc (P:=P) ha1 a.eval w
      have hx:=ext_alloc w (.cells z.cells t)
      unfold Oper.wp
      rw [hrun]
      refine hK _ _ ⟨by rw [put_size];exact I.size,by rw [put_nod];exact I.nod,I.ext.trans hx,stepB _,stepR _ (fun y hy=>by rw [hLa] at hy;cases hy),fun _=>?_⟩
      refine⟨w.heap.size,by rw [ha2];exact put_eq (by rw [I.size];exact hpn),I.ext.size,fun h=>?_,fun _=>row_alloc _ _ _⟩
      exact absurd (hs_after hcl (((hC' _).1 h).resolve_left (by omega))) hi
    by_cases his:i=is
    · subst his
      rw [hos] at ho;cases ho
      have hca:C ia:=hp_reads hcl hos hed hias (by rw [hs1];simp [Op.operands])
      obtain⟨b,e1,e2,e3,e4⟩:=I.hp hca
      have hpv:a.eval (.tmp p)=.pointer (some ⟨b,0,none⟩):=by simp [Act.eval,Array.getD_eq_getD_getElem?,e1]
      have hxv:a.eval (.tmp sx)=.agg X.toArray:=by
        have:=look I hcl hos hi hed (by rw [hs1];simp [Op.operands]) hX
        simp [Act.eval,Array.getD_eq_getD_getElem?,this]
      obtain⟨w',hrun,r1,k1,hsz1⟩:=run_storeA (P:=P) hs1 (ρ:=a.eval) (w:=w) hpv hxv hXs hX1 (e4 hi) hzl
      unfold Oper.wp
      rw [hrun]
      refine hK _ _ ⟨by rw [put_size];exact I.size,by rw [put_nod];exact I.nod,k1.ext I.ext (fun b' hb'=>by cases hb';exact e2),stepB _,stepR _ (fun y hy=>by rw [hLs] at hy;cases hy),fun _=>?_⟩
      rw [hs2]
      exact⟨b,e1,e2,fun _=>r1,fun h=>absurd ((hC' _).2 (.inl rfl)) h⟩
    · obtain⟨x,hx⟩:∃ x,Lr[i]?=some x:=⟨_,List.getElem?_eq_getElem (by omega)⟩
      have hsm:=List.all_eq_true.1 hok.2 i (by simpa using hil)
      rw [getD_of hx] at hsm
      have hsm':x.isSome=true:=by
        simp only [Bool.or_eq_true] at hsm
        rcases hsm with(h|h)|h
        · exact absurd (Nat.eq_of_beq_eq_true h) hia
        · exact absurd (Nat.eq_of_beq_eq_true h) his
        · exact h
      obtain⟨y,rfl⟩:=Option.isSome_iff_exists.1 hsm'
      have hag:Agree (frame L0 Lr i) o a.eval:=fun x hxo u hu=>ev_of (fun s u he hl=>by
        subst he
        exact look I hcl ho hi hed hxo hl) hu
      have hpk:∀(v:Value) (w':World),Ext w w'→C' ia→∃ b,(a.put o.dst v).tmps[p]?=some (.pointer (some ⟨b,0,none⟩))∧w0.heap.size≤b∧(C' is→Row w' b t X)∧(¬ C' is→Row w' b t z.cells.toList):=fun v w' hx' hca=>by
        obtain⟨b,e1,e2,e3,e4⟩:=I.hp (((hC' _).1 hca).resolve_left (fun e=>hia e.symm))
        refine⟨b,?_,e2,fun h=>(e3 (((hC' _).1 h).resolve_left (fun e=>his e.symm))).ext hx',fun h=>(e4 fun h'=>h ((hC' _).2 (.inr h'))).ext hx'⟩
        rw [put_ne (fun e=>hia (dst_j ho hoa e ha2))]
        exact e1
      rcases VSq.get hV ho hx with hval|⟨f,args,hen,hca⟩
      · have hrun:=hval w I.ext a.eval hag
        unfold Oper.wp
        rw [hrun]
        exact hK y.2 w ⟨by rw [put_size];exact I.size,by rw [put_nod];exact I.nod,I.ext,stepB _,stepR _ (fun y' hy=>by rw [hx] at hy;cases hy;rfl),hpk _ _ (Ext.refl w)⟩
      · have hrun:=hen w I.ext a.eval hag
        unfold Oper.wp
        rw [hrun,Oper.upon_enter]
        refine(hca w I.ext).mono ?_
        rintro e w' ⟨v,rfl,rfl,hxx⟩
        exact hK y.2 w' ⟨by rw [put_size];exact I.size,by rw [put_nod];exact I.nod,I.ext.trans hxx,stepB _,stepR _ (fun y' hy=>by rw [hx] at hy;cases hy;rfl),hpk _ _ hxx⟩
  · intro C a w hall I
    obtain⟨b,e1,e2,e3,_⟩:=I.hp (hall _ (List.getElem?_eq_some_iff.1 hoa).1)
    refine k b w I.ext e2 (e3 (hall _ (List.getElem?_eq_some_iff.1 hos).1)) a ⟨I.size,I.nod,fun s v hs=>?_⟩
    simp only [lk] at hs
    cases hb:Nat.beq p s with
    | true=>
      rw [hb] at hs;simp at hs
      have:=Nat.eq_of_beq_eq_true hb
      subst this;rw [e1,hs]
    | false =>
      rw [hb] at hs
      simp only [cond_false] at hs
      rcases frame_lk hs with⟨j,h1,h2⟩|⟨h1,h2⟩
      · exact I.reads j s v (hall j (by omega)) h2
      · refine I.base s v h1 (fun j o2 hj ho2 hd2=>?_)
        by_cases hja:j=ia
        · subst hja
          rw [hoa] at ho2;cases ho2
          rw [ha2] at hd2;cases hd2
          rw [hp0] at h1;cases h1
        · obtain⟨x2,hx2,hx3⟩:=hlr ho2 hja
          rw [hd2] at hx3
          cases x2 with
          | none=>cases hx3
          | some y=>
            obtain⟨s2,v2⟩:=y
            simp at hx3;subst hx3
            exact h2 j (by have:=(List.getElem?_eq_some_iff.1 hx2).1;omega) _ hx2
end
end Go.En
namespace Go.Proofs.YtjicdgejhkgpgaaGreatDoor
open Go.RowKit Go.En Go.Pv
attribute [local irreducible] E EL K Val Enters Rt Calls bodyPost Code.wp RQ
end Go.Proofs.YtjicdgejhkgpgaaGreatDoor
namespace Go.Proofs.YtjicdgejhkgpgaaGreatDoor
open Go.RowKit Go.En Go.Pv
attribute [local irreducible] E EL K Val Enters Rt Calls bodyPost Code.wp RQ
end Go.Proofs.YtjicdgejhkgpgaaGreatDoor
namespace Go.Proofs.YtjicdgejhkgpgaaGreatDoor
open Go.RowKit Go.En Go.Pv
def blv (n:Nat) (S:Int→Bool):List Value:=(List.range n).map fun i:Nat=>.bool (S (i:Int))
theorem blv_ext {n:Nat} {S T:Int→Bool} (h:∀ i:Nat,i<n→S (i:Int)=T (i:Int)):blv n S=blv n T:=by
  unfold blv
  refine List.map_congr_left fun i hi=>?_
  rw [h i (List.mem_range.1 hi)]
def RB (B:Nat) (w:World) (v:Value) (n:Nat) (S:Int→Bool):Prop:=∃ b,v=.slice (some ⟨b,0,none⟩) n n∧B≤b∧Row w b 4 (blv n S)
theorem RB.ext {B:Nat} {w w':World} {v:Value} {n:Nat} {S:Int→Bool} (h:RB B w v n S) (x:Ext w w'):RB B w' v n S:=by
  obtain⟨b,e,hb,hr⟩:=h;exact⟨b,e,hb,hr.ext x⟩
theorem RB.wk {B B':Nat} {w:World} {v:Value} {n:Nat} {S:Int→Bool} (h:RB B w v n S) (hB:B'≤B):RB B' w v n S:=by
  obtain⟨b,e,hb,hr⟩:=h;exact⟨b,e,Nat.le_trans hB hb,hr⟩
theorem RB.same {B:Nat} {w:World} {v:Value} {n:Nat} {S T:Int→Bool} (h:RB B w v n S) (e:∀ i:Nat,i<n→S (i:Int)=T (i:Int)):RB B w v n T:=by
  rw [RB,← blv_ext e];exact h
attribute [local irreducible] E EL K Val Enters Rt Calls bodyPost Code.wp RQ
end Go.Proofs.YtjicdgejhkgpgaaGreatDoor
namespace Go.Proofs.YtjicdgejhkgpgaaGreatDoor
open Go.RowKit Go.En Go.Pv
attribute [local irreducible] E EL K Val Enters Rt Calls bodyPost Code.wp RQ
end Go.Proofs.YtjicdgejhkgpgaaGreatDoor
namespace Go.Proofs.YtjicdgejhkgpgaaGreatDoor
open Go.RowKit Go.En Go.Pv
attribute [local irreducible] E EL K Val Enters Rt Calls bodyPost Code.wp RQ
end Go.Proofs.YtjicdgejhkgpgaaGreatDoor
namespace Go.Proofs.YtjicdgejhkgpgaaGreatDoor
open Go.RowKit Go.En Go.Pv
def siteC (r:Rul) (n i:Nat):Prop:=r.left.length≤i∧i+1+r.right.length≤n∧(r.beg=true→i=r.left.length)∧(r.fin=true→i+1+r.right.length=n)
theorem site_no_mem {segs:List Ph} {r:Rul} {ws:List Int} {i:Nat} {x:Int} (hx:ws[i]?=some x) (h:x∉r.frm):siteB bandI segs r ws i=false:=by
  unfold siteB;rw [hx];simp [h]
theorem site_no {segs:List Ph} {r:Rul} {ws:List Int} {i:Nat} {x:Int} (hx:ws[i]?=some x) (h:¬ siteC r ws.length i):siteB bandI segs r ws i=false:=by
  unfold siteB;rw [hx];dsimp only
  cases hb:(r.frm.contains x&&decide (r.left.length≤i)&&decide (i+1+r.right.length≤ws.length)&&(!r.beg||i==r.left.length)&&(!r.fin||i+1+r.right.length==ws.length)) with
  | false=>rfl
  | true=>
    exfalso
    simp only [Bool.and_eq_true,decide_eq_true_eq,Bool.or_eq_true,Bool.not_eq_true',beq_iff_eq] at hb
    refine h ⟨hb.1.1.1.2,hb.1.1.2,fun e=>?_,fun e=>?_⟩
    · rcases hb.1.2 with h1|h1
      · rw [h1] at e;cases e
      · exact h1
    · rcases hb.2 with h1|h1
      · rw [h1] at e;cases e
      · exact h1
theorem site_yes {segs:List Ph} {r:Rul} {ws:List Int} {i:Nat} {x:Int} (hx:ws[i]?=some x) (hm:x∈r.frm) (h:siteC r ws.length i) :
    siteB bandI segs r ws i=(fitsB bandI segs r.left ((ws.drop (i-r.left.length)).take r.left.length)&&fitsB bandI segs r.right ((ws.drop (i+1)).take r.right.length)):=by
  unfold siteB;rw [hx];dsimp only
  obtain⟨h1,h2,h3,h4⟩:=h
  have e3:(!r.beg||i==r.left.length)=true:=by
    cases hb:r.beg with
    | false=>rfl
    | true=>simp [h3 hb]
  have e4:(!r.fin||i+1+r.right.length==ws.length)=true:=by
    cases hb:r.fin with
    | false=>rfl
    | true=>simp [h4 hb]
  rw [e3,e4,decide_eq_true h1,decide_eq_true h2]
  simp [hm]
theorem fits_yes {segs:List Ph} {cs:List Cls} {xs:List Int} (h:∀(j:Nat) (c:Cls) (y:Int),cs[j]?=some c→xs[j]?=some y→inC bandI segs y c=true):fitsB bandI segs cs xs=true:=by
  unfold fitsB
  rw [List.all_eq_true]
  intro p hp
  obtain⟨j,hj⟩:=List.getElem?_of_mem hp
  rw [List.getElem?_zip_eq_some] at hj
  exact h j p.1 p.2 hj.1 hj.2
theorem fits_no {segs:List Ph} {cs:List Cls} {xs:List Int} {j:Nat} {c:Cls} {y:Int} (hc:cs[j]?=some c) (hy:xs[j]?=some y) (h:inC bandI segs y c=false):fitsB bandI segs cs xs=false:=by
  unfold fitsB
  rw [List.all_eq_false]
  exact⟨(c,y),List.mem_of_getElem? (List.getElem?_zip_eq_some.2 ⟨hc,hy⟩),by simp [h]⟩
structure RulG (G:Nat→Prop) (w:World) (r:Rul) (fv tv lv rv:Value):Prop where
  frm:SlG G w fv r.frm
  to:SlG G w tv r.to
  left:SlG G w lv r.left
  right:SlG G w rv r.right
theorem RulG.ext {G:Nat→Prop} {w w':World} {r:Rul} {fv tv lv rv:Value} (h:RulG G w r fv tv lv rv) (x:Ext w w'):RulG G w' r fv tv lv rv:=⟨h.frm.ext x,h.to.ext x,h.left.ext x,h.right.ext x⟩
abbrev RulAt:=RulG Tt
structure RulOK (r:Rul):Prop where
  len:r.to.length=r.frm.length
  few:r.frm.length≤8
  nod:r.frm.Nodup
  left:r.left.length≤2
  right:r.right.length≤2
attribute [local irreducible] E EL K Val Enters Rt Calls bodyPost Code.wp RQ
end Go.Proofs.YtjicdgejhkgpgaaGreatDoor
namespace Go.Proofs.YtjicdgejhkgpgaaGreatDoor
open Go.RowKit Go.En Go.Pv
def upA (segs:List Ph) (r:Rul) (ws:List Int) (i:Nat):List Int:=(List.range i).filterMap (oneF bandI segs r ws)
theorem upA_succ (segs:List Ph) (r:Rul) (ws:List Int) (i:Nat):upA segs r ws (i+1)=upA segs r ws i++(match oneF bandI segs r ws i with|some y=>[y]|none=>[]):=by
  unfold upA;rw [List.range_succ,List.filterMap_append];congr 1
  cases h:oneF bandI segs r ws i <;> simp [h]
theorem upA_len (segs:List Ph) (r:Rul) (ws:List Int) (i:Nat):(upA segs r ws i).length≤i:=by
  have:=List.length_filterMap_le (oneF bandI segs r ws) (List.range i);simpa [upA] using this
theorem oneF_at {segs:List Ph} {r:Rul} {ws:List Int} {i:Nat} {x:Int} (hx:ws[i]?=some x):oneF bandI segs r ws i=if (if siteB bandI segs r ws i then newF r x else x)=0 then none else some (if siteB bandI segs r ws i then newF r x else x):=by
  have:ws.getD i 0=x:=by rw [List.getD_eq_getElem?_getD,hx];rfl
  unfold oneF;rw [this]
theorem site_mem {segs:List Ph} {r:Rul} {ws:List Int} {i:Nat} {x:Int} (hx:ws[i]?=some x) (h:siteB bandI segs r ws i=true):x∈r.frm:=by
  refine Classical.byContradiction fun hn=>?_
  rw [site_no_mem hx hn] at h;cases h
attribute [local irreducible] E EL K Val Enters Rt Calls bodyPost Code.wp RQ
end Go.Proofs.YtjicdgejhkgpgaaGreatDoor
namespace Go.Proofs.YtjicdgejhkgpgaaGreatDoor
open Go.RowKit Go.En Go.Pv
theorem LangOK.rul {g:Lg} (h:LangOK g):∀ r∈g.rules,RulOK r:=fun r hr=>by
  obtain⟨h1,h2,h3,h4,h5⟩:=h.rules r hr;exact⟨h1,h2,h3,h4,h5⟩
theorem LangOK.alts {g:Lg} (h:LangOK g):∀ e∈g.lex,e.alts.length≤1000000:=fun e he=>by have:=(h.lex e he).2.2.2.2.1;omega
theorem LangOK.forms {g:Lg} (h:LangOK g):∀ e∈g.lex,∀ f∈formsOf e,f.length≤1000:=fun e he f hf=>by have:=((h.lex e he).2.2.2.2.2.1 f hf).1;omega
theorem LangOK.cls {g : Lg} (h : LangOK g) (a : List Prt) : ∀ c ∈ classesOf g.lex a, 1 ≤ c := by
  intro c hc
  unfold classesOf at hc
  obtain⟨p,_,hp⟩:=List.mem_filterMap.1 hc
  cases hx:entOf g.lex p with
  | none=>rw [hx] at hp;cases hp
  | some x=>
    rw [hx] at hp
    cases hp
    unfold entOf at hx
    cases hg:getE g.lex p.entry with
    | none=>rw [hg] at hx;cases hx
    | some e=>
      rw [hg] at hx
      dsimp only at hx
      split at hx
      · split at hx
        · cases hx
          obtain⟨_,h1,_,_⟩:=getE_at hg
          exact(h.lex e (List.mem_of_getElem? h1)).2.1
        · cases hx
      · cases hx
attribute [local irreducible] E EL K Val Enters Rt Calls bodyPost Code.wp RQ
end Go.Proofs.YtjicdgejhkgpgaaGreatDoor
namespace Go.Proofs.YtjicdgejhkgpgaaGreatDoor
open Go.RowKit Go.En Go.Pv
attribute [local irreducible] E EL K Val Enters Rt Calls bodyPost Code.wp RQ
end Go.Proofs.YtjicdgejhkgpgaaGreatDoor
