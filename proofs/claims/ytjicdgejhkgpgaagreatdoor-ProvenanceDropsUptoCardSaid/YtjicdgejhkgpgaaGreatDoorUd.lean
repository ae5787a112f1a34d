/-
  Own text of the proof.
-/
import Derived.Test.YtjicdgejhkgpgaaGreatDoorYj
import Derived.Test.YtjicdgejhkgpgaaGreatDoorUc
import Derived.Test.YtjicdgejhkgpgaaGreatDoorUb
import Derived.Test.YtjicdgejhkgpgaaGreatDoorY7
set_option linter.all false
namespace Go.En
open Go.RowKit
inductive Itm (Ω:Type) where
  | n
  | t (s:Nat) (v:Value)
  | d (s:Nat) (f:Ω→Value)
  | c (s:Nat) (f:Ω→Value)
def Itm.ev {Ω:Type} (x:Ω):Itm Ω→Option (Nat × Value)
  | .n=>none
  | .t s v=>some (s,v)
  | .d s f=>some (s,f x)
  | .c s f=>some (s,f x)
def Itm.key {Ω:Type}:Itm Ω→Option Nat
  | .n=>none
  | .t s _=>some s
  | .d s _=>some s
  | .c s _=>some s
def Itm.isC {Ω:Type}:Itm Ω→Bool
  | .c _ _=>true
  | _=>false
theorem Itm.ev_key {Ω:Type} (x:Ω) (i:Itm Ω):(i.ev x).map Prod.fst=i.key:=by cases i <;> rfl
abbrev evs3 {Ω:Type} (x:Ω) (its:List (Itm Ω)):List (Option (Nat × Value)):=its.map (Itm.ev x)
section
variable {P : Program} {n : Nat} {Q : Post} {ops : List Oper} {Ω : Type}
def VD (P:Program) (R:(Nat→Prop)→Ω→World→Prop) (L:List (Nat × Value)) (w0:World) (x:Ω) (o:Oper) (v:Value):Prop:=
  (∀ w G,Ext w0 w→R G x w→Val P L w o v)∨(∃ f args,(∀ w G,Ext w0 w→R G x w→Enters P L w o f args)∧∀ w G,Ext w0 w→R G x w→Calls P f args w (Rt fun u w'=>u=v∧Ext w w'))
theorem vdV {R:(Nat→Prop)→Ω→World→Prop} {L:List (Nat × Value)} {w0:World} {x:Ω} {o:Oper} {v:Value} (h:∀ w G,Ext w0 w→R G x w→Val P L w o v):VD P R L w0 x o v:=.inl h
theorem vdC {R:(Nat→Prop)→Ω→World→Prop} {L:List (Nat × Value)} {w0:World} {x:Ω} {o:Oper} {v:Value} {f:FuncId} {args:Array Value} (h:∀ w G,Ext w0 w→R G x w→Enters P L w o f args) (hc:∀ w G,Ext w0 w→R G x w→Calls P f args w (Rt fun u w'=>u=v∧Ext w w')):VD P R L w0 x o v:=.inr ⟨f,args,h,hc⟩
def VSq3 (P:Program) (R:(Nat→Prop)→Ω→World→Prop) (w0:World) (x:Ω):List (Nat × Value)→List Oper→List (Itm Ω)→Prop
  | L,o::r,.t s v::xs=>VC P L w0 o v∧VSq3 P R w0 x ((s,v)::L) r xs
  | L,o::r,.d s f::xs=>VD P R L w0 x o (f x)∧VSq3 P R w0 x ((s,f x)::L) r xs
  | L,o::r,.c s f::xs=>(∃ g args,(∀ w,Ext w0 w→Enters P L w o g args)∧∀ w,Ext w0 w→Calls P g args w (Rt fun u w'=>∃ y,u=f y∧R (fun b=>w.heap.size≤b) y w'∧Ext w w'))∧VSq3 P R w0 x ((s,f x)::L) r xs
  | L,_::r,.n::xs=>VSq3 P R w0 x L r xs
  | _,[],[]=>True
  | _,_,_=>False
theorem VSq3.get {R:(Nat→Prop)→Ω→World→Prop} {w0:World} {x:Ω}:∀ {ops:List Oper} {L:List (Nat × Value)} {its:List (Itm Ω)},VSq3 P R w0 x L ops its→∀ {i:Nat} {o:Oper} {y:Itm Ω},ops[i]?=some o→its[i]?=some y→
    match y with
    | .n=>True
    | .t _ v=>VC P (frame L (evs3 x its) i) w0 o v
    | .d _ f=>VD P R (frame L (evs3 x its) i) w0 x o (f x)
    | .c _ f=>∃ g args,(∀ w,Ext w0 w→Enters P (frame L (evs3 x its) i) w o g args)∧∀ w,Ext w0 w→Calls P g args w (Rt fun u w'=>∃ y,u=f y∧R (fun b=>w.heap.size≤b) y w'∧Ext w w')
  | o::r,L,.t s v::xs,h,0,o',y,ho,hy=>by
    simp at ho hy;subst ho;subst hy
    exact h.1
  | o::r,L,.d s f::xs,h,0,o',y,ho,hy=>by
    simp at ho hy;subst ho;subst hy
    exact h.1
  | o::r,L,.c s f::xs,h,0,o',y,ho,hy=>by
    simp at ho hy;subst ho;subst hy
    exact h.1
  | o::r,L,.n::xs,h,0,o',y,ho,hy=>by
    simp at hy;subst hy
    trivial
  | o::r,L,.t s v::xs,h,i+1,o',y,ho,hy=>VSq3.get (L:=(s,v)::L) h.2 (i:=i) (by simpa using ho) (by simpa using hy)
  | o::r,L,.d s f::xs,h,i+1,o',y,ho,hy=>VSq3.get (L:=(s,f x)::L) h.2 (i:=i) (by simpa using ho) (by simpa using hy)
  | o::r,L,.c s f::xs,h,i+1,o',y,ho,hy=>VSq3.get (L:=(s,f x)::L) h.2 (i:=i) (by simpa using ho) (by simpa using hy)
  | o::r,L,.n::xs,h,i+1,o',y,ho,hy=>VSq3.get (ops:=r) (its:=xs) (L:=L) (show VSq3 P R w0 x L r xs from h) (i:=i) (by simpa using ho) (by simpa using hy)
  | [],_,_,_,i,_,_,ho,_=>by simp at ho
  | _::_,_,[],h,_,_,_,_,_=>h.elim
def Mv3 (R:(Nat→Prop)→Ω→World→Prop):Prop:=∀ G G' x w w',R G x w→(∀ b,G b→b<w.heap.size→G' b∧w'.heap[b]?=w.heap[b]?)→R G' x w'
structure J3 (n:Nat) (L0:List (Nat × Value)) (its:List (Itm Ω)) (w0:World) (ops:List Oper) (ia is ic p:Nat) (t:TypeId) (Zc:List Value) (X:Ω→List Value) (R:(Nat→Prop)→Ω→World→Prop) (x:Ω) (G:Nat→Prop) (C:Nat→Prop) (a:Act) (w:World):Prop where
  size:a.tmps.size=n
  nod:a.defers=[]
  ext:Ext w0 w
  base:∀ s v,lk L0 s=some v→(∀ j o,C j→ops[j]?=some o→o.dst≠some s)→a.tmps[s]?=some v
  reads:∀ j s v,C j→(evs3 x its)[j]?=some (some (s,v))→a.tmps[s]?=some v
  hp:C ia→∃ b,a.tmps[p]?=some (.pointer (some ⟨b,0,none⟩))∧w0.heap.size≤b∧b<w.heap.size∧(C ic→¬ G b)∧(C is→Row w b t (X x))∧(¬ C is→Row w b t Zc)
  rel:C ic→R G x w
def C4h (ops : List Oper) (its : List (Itm Ω)) (ia is ic : Nat) : Bool :=
  Nat.beq its.length ops.length&&((List.range ops.length).all fun i=>match its[i]? with
    | some .n=>Nat.beq i ia||Nat.beq i is
    | some (.t _ _)=>true
    | some (.d _ _)=>((bf ops).getD i 0).testBit ic
    | some (.c _ _)=>Nat.beq i ic
    | none=>false)&&((bf ops).getD is 0).testBit ic
theorem E_rel {id:Nat} {L0:List (Nat × Value)} {w0:World} (ia is ic p sx:Nat) {t:TypeId} {z:Value} {size bytes:Nat} (R:(Nat→Prop)→Ω→World→Prop) (hR:Mv3 R) (x0:Ω) (X:Ω→List Value) (its:List (Itm Ω)) [TI P t z size bytes] (hm:P.follows .mixedOrders=true)
    (hc:(Z1 ops&&S5 ops ops.length&&A3y ops ops.length)=true) (hgd:ops.all (fun o=>o.guard.isNone)=true) (hds:ops.all (fun o=>okd n o.dst)=true)
    (h0:ops[ia]?.map (fun o=>(o.op,o.dst))=some (.alloc t,some p)) (h1:ops[is]?.map (fun o=>(o.op,o.dst))=some (.store t (.tmp p) (.tmp sx),none))
    (hLa:its[ia]?=some .n) (hLs:its[is]?=some .n) (hLc:(its[ic]?.map Itm.isC)=some true) (hLd:(ops.map (·.dst)).set ia none=its.map Itm.key) (hok:C4h ops its ia is ic=true) (hias:ia<is) (hp0:lk L0 p=none)
    (hX:∀ x,lk (frame L0 (evs3 x its) is) sx=some (.agg (X x).toArray)) (hXs:∀ x,(X x).length=size) (hX1:∀ x,(X x).all Value.oneCell'=true) (hz:z.cells.size=size)
    (hV:∀ x,VSq3 P R w0 x L0 ops its)
    (k:∀ x b w G,Ext w0 w→w0.heap.size≤b→¬ G b→R G x w→Row w b t (X x)→K n Q .normal ((p,.pointer (some ⟨b,0,none⟩))::frame L0 (evs3 x its) its.length) w):E P n (.region id ops.toArray true) Q L0 w0:=by
  intro a ha
  simp only [Bool.and_eq_true] at hc
  obtain⟨⟨hlow,hreads⟩,hdst⟩:=hc
  simp only [C4h,Bool.and_eq_true] at hok
  obtain⟨⟨hok1,hok2⟩,hok3⟩:=hok
  have hll:its.length=ops.length:=Nat.eq_of_beq_eq_true hok1
  have op_of:∀ {i:Nat} {x:Op × Option Tmp},ops[i]?.map (fun o=>(o.op,o.dst))=some x→∀ {o},ops[i]?=some o→o.op=x.1∧o.dst=x.2:=fun {i x} hx {o} ho=>by
    rw [ho] at hx;simp at hx;rw [← hx];exact⟨rfl,rfl⟩
  obtain⟨oa,hoa⟩:∃ o,ops[ia]?=some o:=by cases ho:ops[ia]? with|none=>rw [ho] at h0;cases h0|some o=>exact⟨o,rfl⟩
  obtain⟨os,hos⟩:∃ o,ops[is]?=some o:=by cases ho:ops[is]? with|none=>rw [ho] at h1;cases h1|some o=>exact⟨o,rfl⟩
  obtain⟨ha1,ha2⟩:=op_of h0 hoa
  obtain⟨hs1,hs2⟩:=op_of h1 hos
  dsimp only at ha1 ha2 hs1 hs2
  have evl:∀ {x:Ω} {j:Nat} {y:Itm Ω},its[j]?=some y→(evs3 x its)[j]?=some (y.ev x):=fun {x j y} h=>by rw [List.getElem?_map,h];rfl
  have hlr:∀ {i:Nat} {o:Oper},ops[i]?=some o→i≠ia→∃ y,its[i]?=some y∧o.dst=y.key:=fun {i o} ho hia=>by
    have e:=congrArg (·[i]?) hLd
    simp only [List.getElem?_map] at e
    rw [List.getElem?_set_ne (fun h=>hia h.symm),List.getElem?_map,ho,Option.map_some] at e
    cases hx:its[i]? with
    | none=>rw [hx] at e;cases e
    | some x=>rw [hx] at e;exact⟨x,rfl,by simpa using e⟩
  have rd_dst:∀ {x:Ω} {j s:Nat} {v:Value},(evs3 x its)[j]?=some (some (s,v))→j≠ia∧∃ o y,ops[j]?=some o∧o.dst=some s∧its[j]?=some y∧y.ev x=some (s,v):=fun {x j s v} hj=>by
    rw [List.getElem?_map] at hj
    cases hy:its[j]? with
    | none=>rw [hy] at hj;cases hj
    | some y=>
      rw [hy,Option.map_some,Option.some.injEq] at hj
      have hjl:=(List.getElem?_eq_some_iff.1 hy).1
      have hji:j≠ia:=fun e=>by subst e;rw [hLa] at hy;cases hy;cases hj
      obtain⟨o,ho⟩:∃ o,ops[j]?=some o:=⟨_,List.getElem?_eq_getElem (by omega)⟩
      obtain⟨y',hy',hd⟩:=hlr ho hji
      rw [hy] at hy';cases hy'
      refine⟨hji,o,y,ho,?_,rfl,hj⟩
      rw [hd,← Itm.ev_key x,hj];rfl
  have dst_j:∀ {i j:Nat} {o o':Oper} {s:Nat},ops[i]?=some o→ops[j]?=some o'→o.dst=some s→o'.dst=some s→i=j:=fun ho ho' hd hd'=>
    L3 hdst ho (List.getElem?_eq_some_iff.1 ho).1 ho' (List.getElem?_eq_some_iff.1 ho').1 hd hd'
  have hpn:p<n:=by have:=List.all_eq_true.1 hds oa (List.mem_of_getElem? hoa);rw [ha2] at this;exact Nat.le_of_ble_eq_true this
  have hzl:z.cells.toList.length=size:=by simpa using hz
  have plan:∀ {i:Nat} {y:Itm Ω},its[i]?=some y→(match y with | .n=>i=ia∨i=is | .t _ _=>True | .d _ _=>Rch ops i ic | .c _ _=>i=ic):=fun {i y} hy=>by
    have:=List.all_eq_true.1 hok2 i (by have:=(List.getElem?_eq_some_iff.1 hy).1;simp;omega)
    rw [hy] at this
    cases y with
    | n=>simp only [Bool.or_eq_true] at this;exact this.imp Nat.eq_of_beq_eq_true Nat.eq_of_beq_eq_true
    | t _ _=>trivial
    | d _ _=>exact A0t this
    | c _ _=>exact Nat.eq_of_beq_eq_true this
  have hsc:Rch ops is ic:=A0t hok3
  refine wp_region_any hm ?_
  rw [show ops.toArray.size=ops.length by simp]
  have hfl:∀ i,¬ LsD (Array.replicate ops.length false) i:=fun i=>by
    unfold LsD;simp [Array.getElem?_replicate];split <;> simp
  have look : ∀ {x : Ω} {G : Nat → Prop} {C : Nat → Prop} {a : Act} {w : World} {i : Nat} {o : Oper} {s : Nat} {u : Value}, J3 n L0 its w0 ops ia is ic p t z.cells.toList X R x G C a w → Clo ops C → ops[i]? = some o → ¬ C i → (∀ e ∈ o.after, Region.binds .any e = true → C e.on) → .tmp s ∈ o.op.operands → lk (frame L0 (evs3 x its) i) s = some u → a.tmps[s]? = some u := by
    intro x G C a w i o s u I hcl ho hi hed hxo hl
    have hil:=(List.getElem?_eq_some_iff.1 ho).1
    have hreach:∀ {j:Nat},Rch ops i j→C j:=fun hr=>hr.clo hcl (fun o2 ho2=>by rw [ho] at ho2;cases ho2;exact hed)
    rcases A0p hl with⟨j,h1,h2⟩|⟨h1,h2⟩
    · obtain⟨_,o2,_,ho2,hd2,_,_⟩:=rd_dst h2
      have hr:=H9 hreads ho hil ho2 (List.getElem?_eq_some_iff.1 ho2).1 (P4 hxo) hd2
      exact I.reads j s u (hreach (hr.1 (by assumption))) h2
    · refine I.base s u h1 (fun j o2 hj ho2 hd2=>?_)
      by_cases hja:j=ia
      · subst hja
        rw [hoa] at ho2;cases ho2
        rw [ha2] at hd2;cases hd2
        rw [hp0] at h1;cases h1
      · obtain⟨x2,hx2,hx3⟩:=hlr ho2 hja
        rw [hd2] at hx3
        by_cases hji:j<i
        · cases hxx:x2.ev x with
          | none=>rw [← Itm.ev_key x,hxx] at hx3;cases hx3
          | some y=>
            obtain⟨s2,v2⟩:=y
            rw [← Itm.ev_key x,hxx] at hx3
            simp at hx3;subst hx3
            exact h2 j hji _ (by rw [evl hx2,hxx])
        · by_cases hje:j=i
          · subst hje;exact hi hj
          · have hr:=H9 hreads ho hil ho2 (List.getElem?_eq_some_iff.1 ho2).1 (P4 hxo) hd2
            exact hi ((hr.2 (by omega)).clo hcl (fun o3 ho3 e he hb=>hcl _ _ ho3 hj e he hb))
  have hp_reads:∀ {C:Nat→Prop} {i:Nat} {o:Oper},Clo ops C→ops[i]?=some o→(∀ e∈o.after,Region.binds .any e=true→C e.on)→ia<i→.tmp p∈o.op.operands→C ia:=fun {C i o} hcl ho hed hlt hxo=>by
    have hr:=H9 hreads ho (List.getElem?_eq_some_iff.1 ho).1 hoa (List.getElem?_eq_some_iff.1 hoa).1 (P4 hxo) ha2
    exact(hr.1 hlt).clo hcl (fun o2 ho2=>by rw [ho] at ho2;cases ho2;exact hed)
  have hs_after:∀ {C:Nat→Prop},Clo ops C→C is→C ia:=fun {C} hcl h=>hp_reads hcl hos (fun e he hb=>hcl _ _ hos h e he hb) hias (by rw [hs1];simp [Op.operands])
  have c_in:∀ {C:Nat→Prop} {i:Nat},Clo ops C→C i→Rch ops i ic→C ic:=fun {C i} hcl h hr=>hr.clo hcl (fun o ho e he hb=>hcl _ _ ho h e he hb)
  have told:∀ {C:Nat→Prop} {j:Nat} {y:Itm Ω},Clo ops C→¬ C ic→C j→its[j]?=some y→∀ x x':Ω,y.ev x=y.ev x':=fun {C j y} hcl hnc hj hy x x'=>by
    have:=plan hy
    cases y with
    | n=>rfl
    | t _ _=>rfl
    | d _ _=>exact absurd (c_in hcl hj this) hnc
    | c _ _=>exact absurd (this▸hj) hnc
  refine C6n (J:=fun C a w=>∃ x G,J3 n L0 its w0 ops ia is ic p t z.cells.toList X R x G C a w) hlow (fun o ho=>by have:=List.all_eq_true.1 hgd o ho;simpa using this) ?_ ?_ _ _ a _ (by simp) (fun i o _ hi=>absurd hi (hfl i))
    ⟨x0,fun _=>True,⟨ha.size,ha.nod,P9 w0,fun s v hs _=>ha.get s v hs,fun j s v hj=>absurd hj (hfl j),fun hj=>absurd hj (hfl _),fun hj=>absurd hj (hfl _)⟩⟩ (by
      have:=J7 (N:=ops.length) (Nat.zero_le _) (listed:=Array.replicate ops.length false) (fun i=>⟨fun h=>absurd h (hfl i),fun h=>absurd h (Nat.not_lt_zero _)⟩)
      omega)
  · rintro C C' a w i o ⟨x,G,I⟩ hcl hi ho hed hC' K Q' hK
    have hil:=(List.getElem?_eq_some_iff.1 ho).1
    have hin:∀ {j:Nat},C j→C' j:=fun h=>(hC' _).2 (.inr h)
    have hback:∀ {j:Nat},C' j→j≠i→C j:=fun h hne=>((hC' _).1 h).resolve_left hne
    have hreachI:Rch ops i ic→C ic:=fun hr=>hr.clo hcl (fun o2 ho2=>by rw [ho] at ho2;cases ho2;exact hed)
    have stepB:∀(v:Value),(∀ s u,lk L0 s=some u→(∀ j q,C' j→ops[j]?=some q→q.dst≠some s)→(a.put o.dst v).tmps[s]?=some u):=fun v s u hs hno=>by
      rw [A0h (hno i o ((hC' i).2 (.inl rfl)) ho)]
      exact I.base s u hs (fun j o2 hj ho2=>hno j o2 (hin hj) ho2)
    have stepR:∀(x':Ω) (v:Value),(∀ j y,C j→its[j]?=some y→y.ev x'=y.ev x)→(∀ y,(evs3 x' its)[i]?=some (some y)→v=y.2)→∀ j s u,C' j→(evs3 x' its)[j]?=some (some (s,u))→(a.put o.dst v).tmps[s]?=some u:=fun x' v hsame hv j s u hj hju=>by
      obtain⟨hja,o2,y2,ho2,hd2,hy2,he2⟩:=rd_dst hju
      by_cases hji:j=i
      · subst hji
        rw [ho] at ho2;cases ho2
        have hsn:s<n:=by have:=List.all_eq_true.1 hds o (List.mem_of_getElem? ho);rw [hd2] at this;exact Nat.le_of_ble_eq_true this
        rw [hd2,hv _ hju]
        exact A6p (by rw [I.size];exact hsn)
      · rw [A0h (fun e=>hji (dst_j ho2 ho hd2 e))]
        refine I.reads j s u (hback hj hji) ?_
        rw [evl hy2,← hsame j y2 (hback hj hji) hy2,he2]
    by_cases hia:i=ia
    · subst hia
      rw [hoa] at ho;cases ho
      have hrun:=A9k (P:=P) ha1 a.eval w
      have hx:=H5 w (.cells z.cells t)
      have hnic:ic≠i:=fun e=>by subst e;rw [hLa] at hLc;cases hLc
      unfold Oper.wp
      rw [hrun]
      refine hK _ _ ⟨x,fun b=>G b∧b<w.heap.size,⟨by rw [R7];exact I.size,by rw [X7];exact I.nod,I.ext.trans hx,stepB _,stepR x _ (fun _ _ _ _=>rfl) (fun y hy=>by rw [evl hLa] at hy;cases hy),fun _=>?_,fun h=>?_⟩⟩
      · refine⟨w.heap.size,by rw [ha2];exact A6p (by rw [I.size];exact hpn),I.ext.size,(K1 _ _ _).lt,fun _ hb=>absurd hb.2 (Nat.lt_irrefl _),fun h=>?_,fun _=>K1 _ _ _⟩
        exact absurd (hs_after hcl (hback h (by omega))) hi
      · exact hR _ _ _ _ _ (I.rel (hback h hnic)) (fun b hb hlt=>⟨⟨hb,hlt⟩,hx.block hlt⟩)
    by_cases his:i=is
    · subst his
      rw [hos] at ho;cases ho
      have hca:C ia:=hp_reads hcl hos hed hias (by rw [hs1];simp [Op.operands])
      have hcc:C ic:=hreachI hsc
      have hnic:ic≠i:=fun e=>by subst e;rw [hLs] at hLc;cases hLc
      obtain⟨b,e1,e2,e3,e4,e5,e6⟩:=I.hp hca
      have hpv:a.eval (.tmp p)=.pointer (some ⟨b,0,none⟩):=by simp [Act.eval,Array.getD_eq_getD_getElem?,e1]
      have hxv:a.eval (.tmp sx)=.agg (X x).toArray:=by
        have:=look I hcl hos hi hed (by rw [hs1];simp [Op.operands]) (hX x)
        simp [Act.eval,Array.getD_eq_getD_getElem?,this]
      obtain⟨w',hrun,r1,k1,hsz1⟩:=B7g (P:=P) hs1 (ρ:=a.eval) (w:=w) hpv hxv (hXs x) (hX1 x) (e6 hi) hzl
      unfold Oper.wp
      rw [hrun]
      refine hK _ _ ⟨x,G,⟨by rw [R7];exact I.size,by rw [X7];exact I.nod,k1.ext I.ext (fun b' hb'=>by cases hb';exact e2),stepB _,stepR x _ (fun _ _ _ _=>rfl) (fun y hy=>by rw [evl hLs] at hy;cases hy),fun _=>?_,fun _=>?_⟩⟩
      · rw [hs2]
        exact⟨b,e1,e2,Nat.lt_of_lt_of_le e3 k1.size,fun _=>e4 hcc,fun _=>r1,fun h=>absurd ((hC' _).2 (.inl rfl)) h⟩
      · exact hR _ _ _ _ _ (I.rel hcc) (fun b' hb' hlt=>⟨hb',World.grownBy.block k1 b' hlt (fun e=>by cases e;exact e4 hcc hb')⟩)
    obtain⟨y,hy⟩:∃ y,its[i]?=some y:=⟨_,List.getElem?_eq_getElem (by omega)⟩
    have hag:Agree (frame L0 (evs3 x its) i) o a.eval:=fun z hzo u hu=>ev_of (fun s u he hl=>by
      subst he
      exact look I hcl ho hi hed hzo hl) hu
    have hpp:∀(v:Value),C' ia→∃ b,(a.put o.dst v).tmps[p]?=some (.pointer (some ⟨b,0,none⟩))∧w0.heap.size≤b∧b<w.heap.size∧(C ic→¬ G b)∧(C is→Row w b t (X x))∧(¬ C is→Row w b t z.cells.toList):=fun v hca=>by
      obtain⟨b,e1,e⟩:=I.hp (hback hca (fun e=>hia e.symm))
      refine⟨b,?_,e⟩
      rw [A0h (fun e=>hia (dst_j ho hoa e ha2))]
      exact e1
    have keep:∀(v:Value) (w':World),Ext w w'→(∀ q,(evs3 x its)[i]?=some (some q)→v=q.2)→i≠ic→K (a.put o.dst v) w':=fun v w' hx' hv hne=>by
      refine hK v w' ⟨x,G,⟨by rw [R7];exact I.size,by rw [X7];exact I.nod,I.ext.trans hx',stepB _,stepR x _ (fun _ _ _ _=>rfl) hv,fun hca=>?_,fun h=>?_⟩⟩
      · obtain⟨b,e1,e2,e3,e4,e5,e6⟩:=hpp v hca
        exact⟨b,e1,e2,Nat.lt_of_lt_of_le e3 hx'.size,fun h=>e4 (hback h (fun e=>hne e.symm)),fun h=>(e5 (hback h (fun e=>his e.symm))).ext hx',fun h=>(e6 fun h'=>h (hin h')).ext hx'⟩
      · exact hR _ _ _ _ _ (I.rel (hback h (fun e=>hne e.symm))) (fun b hb hlt=>⟨hb,hx'.block hlt⟩)
    have hpl:=plan hy
    have hVi:=VSq3.get (hV x) ho hy
    have hey:∀ q,(evs3 x its)[i]?=some (some q)→y.ev x=some q:=fun q hq=>by rw [evl hy] at hq;exact Option.some.inj hq
    cases y with
    | n=>exact absurd hpl (fun h=>h.elim hia his)
    | t s v =>
      have hne:i≠ic:=fun e=>by subst e;rw [hy] at hLc;cases hLc
      have hq:∀ q,(evs3 x its)[i]?=some (some q)→v=q.2:=fun q h=>by cases hey q h;rfl
      rcases hVi with hval|⟨f,args,hen,hca⟩
      · have hrun:=hval w I.ext a.eval hag
        unfold Oper.wp
        rw [hrun]
        exact keep v w (Ext.refl w) hq hne
      · have hrun:=hen w I.ext a.eval hag
        unfold Oper.wp
        rw [hrun,Oper.upon_enter]
        refine(hca w I.ext).mono ?_
        rintro e w' ⟨v',rfl,rfl,hxx⟩
        exact keep _ w' hxx hq hne
    | d s f =>
      have hcc:C ic:=hreachI hpl
      have hne:i≠ic:=fun e=>hi (e▸hcc)
      have hq:∀ q,(evs3 x its)[i]?=some (some q)→f x=q.2:=fun q h=>by cases hey q h;rfl
      rcases hVi with hval|⟨g,args,hen,hca⟩
      · have hrun:=hval w G I.ext (I.rel hcc) a.eval hag
        unfold Oper.wp
        rw [hrun]
        exact keep (f x) w (Ext.refl w) hq hne
      · have hrun:=hen w G I.ext (I.rel hcc) a.eval hag
        unfold Oper.wp
        rw [hrun,Oper.upon_enter]
        refine(hca w G I.ext (I.rel hcc)).mono ?_
        rintro e w' ⟨v',rfl,rfl,hxx⟩
        exact keep _ w' hxx hq hne
    | c s f=>
      subst hpl
      obtain⟨g,args,hen,hca⟩:=hVi
      have hrun:=hen w I.ext a.eval hag
      unfold Oper.wp
      rw [hrun,Oper.upon_enter]
      refine(hca w I.ext).mono ?_
      rintro e w' ⟨v',rfl,x',rfl,hR',hxx⟩
      refine hK _ w' ⟨x',fun b=>w.heap.size≤b,⟨by rw [R7];exact I.size,by rw [X7];exact I.nod,I.ext.trans hxx,stepB _,stepR x' _ (fun j q hj hq=>told hcl hi hj hq x' x) (fun q hq=>by rw [evl hy] at hq;cases Option.some.inj hq;rfl),fun hca'=>?_,fun _=>hR'⟩⟩
      obtain⟨b,e1,e2,e3,e4,e5,e6⟩:=hpp (f x') hca'
      have hns:¬ C is:=fun h=>hi (c_in hcl h hsc)
      exact⟨b,e1,e2,Nat.lt_of_lt_of_le e3 hxx.size,fun _ hb=>by omega,fun h=>absurd (hback h (fun e=>his e.symm)) hns,fun h=>(e6 fun h'=>h (hin h')).ext hxx⟩
  · rintro C a w hall ⟨x,G,I⟩
    obtain⟨b,e1,e2,e3,e4,e5,_⟩:=I.hp (hall _ (List.getElem?_eq_some_iff.1 hoa).1)
    have hicl:ic<ops.length:=by
      cases hy:its[ic]? with
      | none=>rw [hy] at hLc;cases hLc
      | some y=>have:=(List.getElem?_eq_some_iff.1 hy).1;omega
    refine k x b w G I.ext e2 (e4 (hall _ hicl)) (I.rel (hall _ hicl)) (e5 (hall _ (List.getElem?_eq_some_iff.1 hos).1)) a ⟨I.size,I.nod,fun s v hs=>?_⟩
    simp only [lk] at hs
    cases hb:Nat.beq p s with
    | true=>
      rw [hb] at hs;simp at hs
      have:=Nat.eq_of_beq_eq_true hb
      subst this;rw [e1,hs]
    | false =>
      rw [hb] at hs
      simp only [cond_false] at hs
      rcases A0p hs with⟨j,h1,h2⟩|⟨h1,h2⟩
      · exact I.reads j s v (hall j (by omega)) h2
      · refine I.base s v h1 (fun j o2 hj ho2 hd2=>?_)
        by_cases hja:j=ia
        · subst hja
          rw [hoa] at ho2;cases ho2
          rw [ha2] at hd2;cases hd2
          rw [hp0] at h1;cases h1
        · obtain⟨x2,hx2,hx3⟩:=hlr ho2 hja
          rw [hd2] at hx3
          cases hxx:x2.ev x with
          | none=>rw [← Itm.ev_key x,hxx] at hx3;cases hx3
          | some y=>
            obtain⟨s2,v2⟩:=y
            rw [← Itm.ev_key x,hxx] at hx3
            simp at hx3;subst hx3
            exact h2 j (by have:=(List.getElem?_eq_some_iff.1 hx2).1;omega) _ (by rw [evl hx2,hxx])
end
end Go.En
set_option maxHeartbeats 4000000
set_option maxRecDepth 8000
namespace Go.Proofs.YtjicdgejhkgpgaaGreatDoor
section
open Go.RowKit Go.En Go.Pv
def Sm (G:Nat→Prop) (w w':World):Prop:=∀ b,G b→b<w.heap.size→w'.heap[b]?=w.heap[b]?
theorem Sm.ext {G:Nat→Prop} {w w':World} (x:Ext w w'):Sm G w w':=fun _ _ h=>x.block h
attribute [local irreducible] E EL K Val Enters Rt Calls bodyPost Code.wp RQ
theorem B5n {G:Nat→Prop} {ds:List Dc} {rec:Int} {d:Dc} (hg:docF ds rec=some d) (dv:Value) (w:World) (hv:SlG G w dv ds) :
    ∃ X:List Value,Rep.at_ G w d X∧∀ w',Sm G w w'→Calls Tryz.prog 34 #[dv,int rec] w' (Rt fun u w2=>u=.tuple #[.agg X.toArray,.bool true]∧Ext w' w2):=by
  obtain⟨k,hk,hid,hlow⟩:=A3x hg
  have hkl:=(List.getElem?_eq_some_iff.1 hk).1
  have hv0:=hv
  obtain⟨a,cap,rfl,hc,hm,hp⟩:=hv.sl
  obtain⟨b,off,rfl⟩:=hp (by omega)
  obtain⟨a1,c1,a2,c2,a3,c3,hat,hrep⟩:=Q9 hv0 hk
  have hGb:=(hv0.ats (by omega)).1
  have hbl:=hat.lt (by simp)
  refine⟨_,hrep,fun w' xw=>?_⟩
  have hat0:=At.same hat (xw b hGb hbl)
  have hv1:=hv0.move (G':=G) (fun q hq hlt=>⟨hq,xw q hq hlt⟩)
  refine A6 (n:=22) (args:=[.slice (some ⟨b,off,none⟩) ds.length cap,int rec]) Tryz.func34 rfl Tryz.ntmps34 (by simp) ?_
  refine B4 ?_
  refine A9 ?_
  refine C3 Z Z Z (fun bA wA xA hbA rA0=>?_)
  have hwB:w'.heap.size≤bA:=by omega
  (repeat' (first|refine Sy ?_))
  refine B0 (ι:=Nat) (fun i=>[(1,int rec),(4,.pointer (some ⟨bA,0,none⟩)),(8,.slice (some ⟨b,off,none⟩) ds.length cap),(9,int ds.length),(10,int i)])
    (fun i wr=>i≤k∧Ext wA wr) (fun i=>k-i) 0
    ⟨rfl,rfl,rfl,rfl,rfl,trivial⟩ ⟨Nat.zero_le _,Ext.refl _⟩ ?_
  rintro i wr ⟨hi,hx⟩
  have hX:=xA.trans hx
  by_cases e0:i=k
  · subst e0
    have hat':=hat0.ext hX
    have hxA:=xA.trans hx
    replace rA0:=rA0.ext hx
    (repeat' (first|(refine C1 Z Z Z Z Z Z Z Z Z Z (fun bV wV xV hbV rV=>?_);replace hxA:=hxA.trans xV;replace rA0:=rA0.ext xV)|refine eV Z Z (A0 (m:=i) Z Z Z (by first|rfl|omega) (by omega)) ?_|(refine B7 (cs:=[_,_,_,_,_,_,_]) rA0 hxA hwB rfl rfl rfl rfl rfl rfl rfl rfl (Nat.le_refl _) (fun w9 r9 x9 k9=>?_))|refine Ly ?_|refine Dy (fun hh=>?_) fun hh=>?_))
    all_goals (try (exfalso;omega))
    exact M4 Z Z Z r9.at rfl rfl ⟨rfl,x9⟩
  · obtain⟨x,hx1⟩:∃ x,ds[i]?=some x:=⟨_,List.getElem?_eq_getElem (by omega)⟩
    have hne:=hlow i x (by omega) hx1
    obtain⟨_,_,_,_,_,_,hat2,_⟩:=Q9 (hv1.ext hX) hx1
    (repeat' (first|(refine C1 Z Z Z Z Z Z Z Z Z Z (fun bV wV xV hbV rV=>?_);replace hx:=hx.trans xV)|refine eV Z Z (A0 (m:=i) Z Z Z (by first|rfl|omega) (by omega)) ?_|refine Ly ?_|refine Dy (fun hh=>?_) fun hh=>?_))
    all_goals (try (exfalso;omega))
    exact B3 (i+1) ⟨rfl,rfl,rfl,rfl,rfl,trivial⟩ ⟨by omega,hx⟩ (by omega)
theorem doc34_G {G:Nat→Prop} (ds:List Dc) (rec:Int) (dv:Value) (w:World) (hv:SlG G w dv ds) :
    ∃ X:List Value,Rep.at_ G w (docD ds rec) X∧∀ w',Sm G w w'→Calls Tryz.prog 34 #[dv,int rec] w' (Rt fun u w2=>u=.tuple #[.agg X.toArray,.bool (docF ds rec).isSome]∧Ext w' w2):=by
  cases h:docF ds rec with
  | none=>exact⟨zeroD,by unfold docD;rw [h];exact⟨_,_,_,rfl,SlG.nil,SlG.nil,SlG.nil⟩,fun w' x=>A1v h dv w' (hv.move fun b hb hlt=>⟨trivial,x b hb hlt⟩)⟩
  | some d=>
    obtain⟨X,h1,h2⟩:=B5n h dv w hv
    exact⟨X,by unfold docD;rw [h];exact h1,h2⟩
structure DX where
  X:List Value
  hl:X.length=7
  h1:X.all Value.oneCell'=true
def RD (ds:List Dc) (rec:Int):(Nat→Prop)→Value × DX→World→Prop:=fun G y w=>Rep.at_ G w (docD ds rec) y.2.X∧∀ w',Sm G w w'→Calls Tryz.prog 34 #[y.1,int rec] w' (Rt fun u w2=>u=.tuple #[.agg y.2.X.toArray,.bool (docF ds rec).isSome]∧Ext w' w2)
theorem mvRD {ds:List Dc} {rec:Int}:Mv3 (RD ds rec):=fun G G' y w w' h hm=>⟨Rep.move h.1 hm,fun w2 h2=>h.2 w2 (fun b hb hlt=>by
  obtain⟨h3,h4⟩:=hm b hb hlt
  have hl:b<w'.heap.size:=by
    rw [Array.getElem?_eq_getElem hlt] at h4
    exact(Array.getElem?_eq_some_iff.1 h4).1
  exact(h2 b h3 hl).trans h4)⟩
theorem rd_call {ds:List Dc} (hL:LightDs ds) (rec:Int) (dv:Value) (w:World) (hv:Sl w dv ds):Calls Tryz.prog 15 #[dv] w (Rt fun u w'=>∃ y:Value × DX,u=y.1∧RD ds rec (fun b=>w.heap.size≤b) y w'∧Ext w w'):=
  C0 (B2f hL dv w hv) fun u w' h=>by
    obtain⟨X,h1,h2⟩:=doc34_G ds rec u w' h.2
    exact⟨(u,⟨X,Rep.len h1,Rep.one h1⟩),rfl,⟨h1,h2⟩,h.1⟩
def dx0 (v:Value):Value × DX:=(v,⟨zeroD,rfl,rfl⟩)
theorem Sm.refl (G:Nat→Prop) (w:World):Sm G w w:=fun _ _ _=>rfl
end
section
open Go.RowKit Go.En Go.Pv
attribute [local irreducible] E EL K Val Enters Rt Calls bodyPost Code.wp RQ
end
section
open Go.RowKit Go.En Go.Pv
attribute [local irreducible] E EL K Val Enters Rt Calls bodyPost Code.wp RQ
end
section
open Go.RowKit Go.En Go.Pv
attribute [local irreducible] E EL K Val Enters Rt Calls bodyPost Code.wp RQ
end
section
open Go.RowKit Go.En Go.Pv
attribute [local irreducible] E EL K Val Enters Rt Calls bodyPost Code.wp RQ
end
section
open Go.RowKit Go.En Go.Pv
theorem A7j {α β:Type} (f:α→β) (p:β→Bool):∀ l:List α,(l.map f).find? p=(l.find? (fun x=>p (f x))).map f
  | []=>rfl
  | x::r=>by
    rw [List.map_cons,List.find?_cons,List.find?_cons]
    cases h:p (f x) with
    | true=>rfl
    | false=>exact A7j f p r
theorem A4y {α:Type} (p q:α→Bool):∀ l:List α,(∀ x∈l,q x=true→p x=true)→(l.filter p).find? q=l.find? q
  | [],_=>rfl
  | x :: r, h => by
    have ih:=A4y p q r (fun y hy=>h y (List.mem_cons_of_mem _ hy))
    cases hq:q x with
    | true=>
      have hp:=h x List.mem_cons_self hq
      rw [List.filter_cons,if_pos hp,List.find?_cons,List.find?_cons,hq]
    | false=>
      rw [List.find?_cons,hq]
      cases hp:p x with
      | true=>rw [List.filter_cons,if_pos hp,List.find?_cons,hq];exact ih
      | false=>rw [List.filter_cons,if_neg (by rw [hp];decide)];exact ih
theorem C5i {ns ms:List Note} {out:List Int} (h:ms.map sk=(ns.map sk).filter (fun s=>!decide (s.1∈out))) {id:Int} (hid:id∉out):(getF ms id).map sk=(getF ns id).map sk:=by
  have e:∀ l:List Note,(getF l id).map sk=(l.map sk).find? (fun s=>decide (s.1=id)):=fun l=>(A7j sk (fun s=>decide (s.1=id)) l).symm
  rw [e,e,h]
  refine A4y _ _ _ (fun s _ hs=>?_)
  have:s.1=id:=of_decide_eq_true hs
  rw [this,decide_eq_false hid];rfl
def chD (rec:Int) (d':Dc) (ds:List Dc):List Dc:=ds.map fun x=>if x.rid=rec then d' else x
theorem docF_ch {ds:List Dc} {rec:Int} {d':Dc} (hd:d'.rid=rec) (rc:Int):docF (chD rec d' ds) rc=(docF ds rc).map fun x=>if x.rid=rec then d' else x:=by
  unfold docF chD
  rw [A7j]
  congr 2
  funext x
  by_cases h:x.rid=rec
  · rw [if_pos h,hd,h]
  · rw [if_neg h]
theorem call_ch {ds : List Dc} {g : Lg} {rec : Int} {d : Dc} {ns : List Note} {out : List Int} (hd : docF ds rec = some d) (h : ns.map sk = (d.notes.map sk).filter (fun s => !decide (s.1 ∈ out))) {x : Rf} (hx : x.rcd = rec → x.note ∉ out) : X2 (chD rec { d with notes := ns } ds) g x = X2 ds g x := by
  have hrid:d.rid=rec:=by have:=List.find?_some hd;simpa using this
  unfold X2
  rw [docF_ch (d':={ d with notes:=ns }) hrid]
  cases hc:docF ds x.rcd with
  | none=>rfl
  | some y=>
    have hy:y.rid=x.rcd:=by have:=List.find?_some hc;simpa using this
    simp only [Option.map_some]
    by_cases hr:x.rcd=rec
    · have hyd:y=d:=by rw [hr,hd] at hc;exact(Option.some.inj hc).symm
      subst hyd
      rw [if_pos hrid]
      have hg:=C5i h (hx hr)
      dsimp only
      cases h1:getF ns x.note with
      | none=>
        cases h2:getF y.notes x.note with
        | none=>rfl
        | some b=>rw [h1,h2] at hg;cases hg
      | some a=>
        cases h2:getF y.notes x.note with
        | none=>rw [h1,h2] at hg;cases hg
        | some b=>
          rw [h1,h2] at hg
          have hs:sk a=sk b:=by simpa using hg
          obtain⟨_,e1,_,e2⟩:=A4j hs
          dsimp only
          rw [e1,e2]
    · rw [if_neg (by rw [hy];exact hr)]
theorem att_ch {ds:List Dc} {g:Lg} {rec:Int} {d:Dc} {ns:List Note} {out:List Int} (hd:docF ds rec=some d) (h:ns.map sk=(d.notes.map sk).filter (fun s=>!decide (s.1∈out))) {x:Rf} (hx:x.rcd=rec→x.note∉out) (id:Int):attP (chD rec { d with notes:=ns } ds) g id x=attP ds g id x:=by
  unfold attP
  rw [call_ch hd h hx]
theorem C5n {lex:List En} {id:Int} {x:Rf} (h:x∈(entD lex id).refs):∃ e∈lex,x∈e.refs:=by
  unfold entD at h
  cases hg:getE lex id with
  | none=>rw [hg] at h;simp [A5s] at h
  | some e=>rw [hg] at h;exact⟨e,List.mem_of_find?_eq_some hg,h⟩
theorem B5h {ds:List Dc} {g:Lg} {rec:Int} {d:Dc} {ns:List Note} {out:List Int} (hd:docF ds rec=some d) (h:ns.map sk=(d.notes.map sk).filter (fun s=>!decide (s.1∈out))) (hall:∀ e∈g.lex,∀ x∈e.refs,x.rcd=rec→x.note∉out) (id:Int):K3 (chD rec { d with notes:=ns } ds) g id=K3 ds g id:=by
  unfold K3
  refine List.filter_congr fun x hx=>?_
  obtain⟨e,he,hxe⟩:=C5n hx
  exact att_ch hd h (hall e he x hxe) id
theorem miss_ch {ds:List Dc} {g:Lg} {rec:Int} {d:Dc} {ns:List Note} {out:List Int} (hd:docF ds rec=some d) (h:ns.map sk=(d.notes.map sk).filter (fun s=>!decide (s.1∈out))) (hall:∀ e∈g.lex,∀ x∈e.refs,x.rcd=rec→x.note∉out):A0l (chD rec { d with notes:=ns } ds) g=A0l ds g:=by
  unfold A0l
  congr 2
  funext e
  rw [B5h hd h hall]
theorem text_ch {ds:List Dc} (hL:LightDs ds) {rec:Int} {d:Dc} {ns:List Note} {out:List Int} (hd:docF ds rec=some d) (h:ns.map sk=(d.notes.map sk).filter (fun s=>!decide (s.1∈out))):A5f (chD rec { d with notes:=ns } ds):=fun y hy n hn=>by
  have hT:=Y5 hL
  obtain⟨x,hx,rfl⟩:=List.mem_map.1 hy
  by_cases hr:x.rid=rec
  · rw [if_pos hr] at hn
    have:sk n∈(d.notes.map sk).filter (fun s=>!decide (s.1∈out)):=by rw [← h];exact List.mem_map.2 ⟨n,hn,rfl⟩
    obtain⟨m,hm,e⟩:=List.mem_map.1 (List.mem_filter.1 this).1
    have:=hT d (A3b hd) m hm
    rw [(A4j e).2.2.2] at this
    exact this
  · rw [if_neg hr] at hn
    exact hT x hx n hn
theorem len_ch {ds:List Dc} (hL:LightDs ds) {rec:Int} {d:Dc} {ns:List Note} {out:List Int} (hd:docF ds rec=some d) (h:ns.map sk=(d.notes.map sk).filter (fun s=>!decide (s.1∈out))):∀ y∈chD rec { d with notes:=ns } ds,y.sp.length≤1000000∧y.tiers.length≤1000000∧y.notes.length≤1000000:=fun y hy=>by
  obtain⟨x,hx,rfl⟩:=List.mem_map.1 hy
  by_cases hr:x.rid=rec
  · rw [if_pos hr]
    have h1:=A2u hL d (A3b hd)
    have h2:=congrArg List.length h
    have h3:=List.length_filter_le (fun s=>!decide (s.1∈out)) (d.notes.map sk)
    rw [List.length_map] at h2 h3
    exact⟨h1.1,h1.2.1,by show ns.length≤_;omega⟩
  · rw [if_neg hr]
    exact A2u hL x hx
end
end Go.Proofs.YtjicdgejhkgpgaaGreatDoor