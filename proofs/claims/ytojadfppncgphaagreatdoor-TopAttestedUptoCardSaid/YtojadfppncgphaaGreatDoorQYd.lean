/- Own text. -/
import Derived.Test.YtojadfppncgphaaGreatDoorQYc
set_option linter.all false
namespace Go.Dl
open Go.RowKit Go.En
mutual
def undt:Lf→Option Dt
 | .d x=>some x
 | .g cs=>match undts cs with|some ds=>some (.g ds)|none=>none
 | .t xs=>match undts xs with|some ds=>some (.t ds)|none=>none
 | _=>none
def undts:List Lf→Option (List Dt)
 | []=>some []
 | x::r=>match undt x with|some d=>(match undts r with|some ds=>some (d::ds)|none=>none)|none=>none
end
section
variable {γ : Gh}{G : Nat → Prop}{w : World}
mutual
theorem T7:∀ {y:Lf} {x:Dt} {u:Value},undt y=some x→LR γ G w y u→DR G w x u
 | .d y,x,u,h,e=>by simp only [undt,Option.some.injEq] at h;subst h;rw [LR] at e;exact e
 | .g cs,x,u,h,e=>by
  rw [undt] at h
  split at h
  ·rename_i ds hd
   cases h
   rw [LR] at e
   obtain⟨vs,h1,h2⟩:=e
   rw [DR]
   exact⟨vs,h1,V6 hd h2⟩
  ·cases h
 | .t cs,x,u,h,e=>by
  rw [undt] at h
  split at h
  ·rename_i ds hd
   cases h
   rw [LR] at e
   obtain⟨vs,h1,h2⟩:=e
   rw [DR]
   exact⟨vs,h1,V6 hd h2⟩
  ·cases h
 | .o _ _,_,_,h,_=>by simp [undt] at h
 | .p _ _ _,_,_,h,_=>by simp [undt] at h
 | .m _,_,_,h,_=>by simp [undt] at h
 | .w ..,_,_,h,_=>by simp [undt] at h
 | .f _ _,_,_,h,_=>by simp [undt] at h
theorem V6 {one : Bool} : ∀ {ys : List Lf} {xs : List Dt} {us : List Value}, undts ys = some xs → LR.LsR γ G w one ys us → DR.valsR G w one xs us
 | [],xs,us,h,e=>by simp only [undts,Option.some.injEq] at h;subst h;rw [LR.LsR] at e;rw [DR.valsR];exact e
 | y :: r, xs, us, h, e => by
  rw [undts] at h
  split at h
  ·rename_i d hd
   split at h
   ·rename_i ds hds
    cases h
    rw [LR.LsR] at e
    obtain⟨u,us',h1,h2,h3,h4⟩:=e
    rw [DR.valsR]
    exact⟨u,us',h1,h2,T7 hd h3,V6 hds h4⟩
   ·cases h
  ·cases h
end
def of1:Dt→Lf
 | .g cs=>.g (cs.map .d)
 | x=>.d x
def ofd:Dt→Lf
 | .t xs=>.t (xs.map of1)
 | x=>of1 x
theorem A8u:∀ {x:Dt} {u:Value},DR G w x u→LR γ G w (of1 x) u
 | .v x,u,e=>by show LR γ G w (.d _) u;rw [LR];exact e
 | .s a b,u,e=>by show LR γ G w (.d _) u;rw [LR];exact e
 | .p a,u,e=>by show LR γ G w (.d _) u;rw [LR];exact e
 | .i t a,u,e=>by show LR γ G w (.d _) u;rw [LR];exact e
 | .t a,u,e=>by show LR γ G w (.d _) u;rw [LR];exact e
 | .g a,u,e=>by
  rw [DR] at e
  obtain⟨vs,h1,h2⟩:=e
  show LR γ G w (.g _) u
  rw [LR]
  exact⟨vs,h1,B0n h2⟩
theorem C9o {one:Bool}:∀ {xs:List Dt} {us:List Value},DR.valsR G w one xs us→LR.LsR γ G w one (xs.map of1) us
 | [],_,e=>by rw [DR.valsR] at e;subst e;rw [List.map_nil,LR.LsR]
 | x::r,_,e=>by
  rw [DR.valsR] at e
  obtain⟨u,us,rfl,h2,h3,h⟩:=e
  rw [List.map_cons,LR.LsR]
  exact⟨u,us,rfl,h2,A8u h3,C9o h⟩
theorem A3w:∀ {x:Dt} {u:Value},DR G w x u→LR γ G w (ofd x) u
 | .v x,u,e=>A8u e
 | .s a b,u,e=>A8u e
 | .p a,u,e=>A8u e
 | .i t a,u,e=>A8u e
 | .g a,u,e=>A8u e
 | .t a,u,e=>by
  rw [DR] at e
  obtain⟨vs,h1,h2⟩:=e
  show LR γ G w (.t _) u
  rw [LR]
  exact⟨vs,h1,C9o h2⟩
end
inductive wk:Dt→Dt→Prop
 | eq {x y:Dt}:x=y→wk x y
 | nil {sz:Nat}:wk (.v (.slice none 0 0)) (.s sz [])
 | g0:wk (.g []) (.g [])
 | g1 {x y:Dt} {a b:List Dt}:wk x y→wk (.g a) (.g b)→wk (.g (x::a)) (.g (y::b))
 | t0:wk (.t []) (.t [])
 | t1 {x y:Dt} {a b:List Dt}:wk x y→wk (.t a) (.t b)→wk (.t (x::a)) (.t (y::b))
theorem wk_r {G:Nat→Prop}{w:World}{x y:Dt}(h:wk x y):∀ {u:Value},DR G w x u→DR G w y u:=by
 induction h with
 | eq h=>subst h;exact fun h=>h
 | nil=>
  intro u h
  rw [DR] at h
  rw [DR]
  exact⟨none,0,h,Nat.le_refl _,Nat.zero_le _,fun h=>absurd h (Nat.lt_irrefl 0)⟩
 | g0=>exact fun h=>h
 | g1 h1 h2 i1 i2=>
  intro u h
  rw [DR] at h
  rw [DR]
  obtain⟨vs,rfl,h⟩:=h
  rw [DR.valsR] at h
  obtain⟨v,q,rfl,h3,h4,h5⟩:=h
  have:=i2 (u:=.agg q.toArray) (by rw [DR];exact⟨q,rfl,h5⟩)
  rw [DR] at this
  obtain⟨q',e,h6⟩:=this
  simp only [Value.agg.injEq] at e
  have e:q=q':=by simpa using congrArg Array.toList e
  subst e
  exact⟨v::q,rfl,by rw [DR.valsR];exact⟨v,q,rfl,h3,i1 h4,h6⟩⟩
 | t0=>exact fun h=>h
 | t1 h1 h2 i1 i2=>
  intro u h
  rw [DR] at h
  rw [DR]
  obtain⟨vs,rfl,h⟩:=h
  rw [DR.valsR] at h
  obtain⟨v,q,rfl,h3,h4,h5⟩:=h
  have:=i2 (u:=.tuple q.toArray) (by rw [DR];exact⟨q,rfl,h5⟩)
  rw [DR] at this
  obtain⟨q',e,h6⟩:=this
  simp only [Value.tuple.injEq] at e
  have e:q=q':=by simpa using congrArg Array.toList e
  subst e
  exact⟨v::q,rfl,by rw [DR.valsR];exact⟨v,q,rfl,h3,i1 h4,h6⟩⟩
def Fp (P : Program)(f : FuncId)(xs : List Dt)(x : Dt) : Prop :=
 ∀(w:World) (G:Nat→Prop) (us:List Value),(∀ b,G b→b<w.heap.size)→DR.valsR G w false xs us→
  Calls P f us.toArray w (Rt fun u w'=>Ext w w'∧DR (fun b=>G b∨(w.heap.size≤b∧b<w'.heap.size)) w' x u)
def efl (F:Fr):List Operand→Option (List Lf)
 | []=>some []
 | x::r=>match ef F x with|some y=>(match efl F r with|some ys=>some (y::ys)|none=>none)|none=>none
theorem A9t {F : Fr}{γ : Gh}{G : Nat → Prop}{w : World}{a : Act} : ∀ {xs : List Operand} {ys : List Lf}, efl F xs = some ys → (∀ x ∈ xs, ∀ z, ef F x = some z → LR γ G w z (a.eval x)) → LR.LsR γ G w false ys (xs.map a.eval)
 | [],ys,h,_=>by simp only [efl,Option.some.injEq] at h;subst h;rw [List.map_nil,LR.LsR]
 | x :: r, ys, h, hr => by
  rw [efl] at h
  split at h
  ·rename_i y hy
   split at h
   ·rename_i zs hzs
    cases h
    rw [List.map_cons,LR.LsR]
    exact⟨_,_,rfl,fun h=>Bool.noConfusion h,hr x (List.mem_cons_self ..) y hy,A9t hzs fun x hx=>hr x (List.mem_cons_of_mem _ hx)⟩
   ·cases h
  ·cases h
theorem Evo.ext {γ:Gh}{G:Nat→Prop}{w w':World}{H:Hp}{ks:List Nat}(hglt:∀ b,G b→b<w.heap.size)(hx:Ext w w'){x:Option Lf}{v:Value}(h:∀ y,x=some y→LR γ (fun b=>G b∨(w.heap.size≤b∧b<w'.heap.size)) w' y v) :
  Evo γ G w H ks [] x v γ (fun b=>G b∨(w.heap.size≤b∧b<w'.heap.size)) w':=
 ⟨Kx.of_ext hx,fun _ h=>.inl h,fun b hb=>by
  rcases hb with hb|hb
  ·exact⟨Nat.lt_of_lt_of_le (hglt b hb) hx.size,.inl hb⟩
  ·exact⟨hb.2,.inr (.inl hb.1)⟩,fun _ _=>rfl,fun _ h=>absurd rfl h,fun k ob h=>by simp [lo] at h,fun k ob b h=>by simp [lo] at h,fun k k' ob ob' b h=>by simp [lo] at h,h⟩
section
variable {P : Program}{o : Oper}{F : Fr}{H : Hp}
theorem A3 {f:FuncId}{as:List Operand}{ts:Array TypeId}{ys:List Lf}{xs zs:List Dt}{x:Dt}(ho:o.op=.call { callee:=.value (.func f),args:=as.toArray,argTypes:=ts })(hy:efl F as=some ys)(hu:undts ys=some xs)
  (he:∀ args w,(callFunc f args).run P w=.ok (.enter f args) w) (hc:Fp P f zs x)
  (hk:wk (.t xs) (.t zs):=by first|exact .eq rfl|(repeat (first|exact .eq rfl|exact .nil|refine .t1 ?_ ?_|refine .g1 ?_ ?_|exact .t0|exact .g0))):LS P o F H [] (some (ofd x)) []:=fun γ G w a ha hw K Q hK=>by
 have hL:=A9t (a:=a) hy fun x hx=>ha x (by rw [ho];simp [Op.operands,Call.operands,hx])
 have hD:DR.valsR G w false zs (as.map a.eval):=by
  have h:=wk_r hk (u:=.tuple (as.map a.eval).toArray) (G:=G) (w:=w) (by rw [DR];exact⟨_,rfl,V6 hu hL⟩)
  rw [DR] at h
  obtain⟨q,e,h⟩:=h
  simp only [Value.tuple.injEq] at e
  have e:as.map a.eval=q:=by simpa using congrArg Array.toList e
  rw [e];exact h
 have hev:evl (LA o a) as=some (as.map a.eval):=by
  have:∀ x∈as,ev (LA o a) x=some (a.eval x):=fun x hx=>C5 (by rw [ho];simp [Op.operands,Call.operands,hx])
  clear ho hy hL hD ha
  induction as with
  | nil=>rfl
  | cons x r ih=>
   rw [evl,this x (List.mem_cons_self ..),ih fun x hx=>this x (List.mem_cons_of_mem _ hx)]
   rfl
 have hen:=D5 (w:=w) ho hev he a.eval (S1 o a)
 unfold Oper.wp
 rw [hen,Oper.upon_enter]
 refine(hc w G _ hw.glt hD).mono ?_
 rintro e w' ⟨v,rfl,hx,hv⟩
 exact hK _ _ _ _ (Evo.ext hw.glt hx fun y hy=>by cases hy;exact A3w hv)
end
def B9u:List Dt→Nat→Fr
 | [],_=>[]
 | x::r,k=>(k,of1 x)::B9u r (k+1)
theorem B3y {G:Nat→Prop}{w:World}{γ:Gh}:∀ {xs:List Dt} {us:List Value} {k s:Nat} {y:Lf},DR.valsR G w false xs us→lf (B9u xs k) s=some y→k≤s∧∃ u,us[s-k]?=some u∧LR γ G w y u
 | [],_,_,_,_,_,h=>by simp [B9u,lf] at h
 | x :: r, us, k, s, y, e, h => by
  rw [DR.valsR] at e
  obtain⟨u,us',rfl,_,h3,h4⟩:=e
  rw [B9u,J9] at h
  split at h
  ·rename_i e;subst e
   cases h
   exact⟨Nat.le_refl _,u,by simp,A8u h3⟩
  ·rename_i hne
   obtain⟨h5,v,h6,h7⟩:=B3y h4 h
   have:s-k=(s-(k+1))+1:=by omega
   exact⟨by omega,v,by rw [this,List.getElem?_cons_succ];exact h6,h7⟩
def Res (c:Cx)(x:Dt):Ending→World→Prop:=Rt fun u w'=>Ext c.w0 w'∧DR (fun b=>c.G b∨(c.w0.heap.size≤b∧b<w'.heap.size)) w' x u
theorem fn_X {P:Program}{f:FuncId}{fn:Func}{k:Code}{n:Nat}{xs:List Dt}{x:Dt}(hf:P.funcs[f]?=some fn)(hb:fn.body=some k)(hn:fn.ntmps=n)(hle:Nat.ble xs.length n=true)
  (h:∀ c:Cx,c.M=(fun _=>False)→X P c n k (bodyPost P fn (Res c x)) (B9u xs 0) []):Fp P f xs x:=by
 intro w G us hG hv
 have hl:us.length=xs.length:=vals_len hv
 have hle':us.length≤n:=by rw [hl];exact Nat.le_of_ble_eq_true hle
 refine calls_of_wp hf hb (h ⟨w,G,fun _=>False,fun _=>(undef,0)⟩ rfl _ w ⟨by simp [hn];omega,rfl,fun _=>(undef,0),G,⟨Kx.refl _ _,fun _ h=>h,fun b hb=>⟨hG b hb,.inl hb⟩,fun k ob h=>by simp [lo] at h,fun k ob b h=>by simp [lo] at h,fun k k' ob ob' b h=>by simp [lo] at h,fun _ _=>.inl rfl⟩,fun s y hs=>?_⟩)
 obtain⟨_,u,h2,h3⟩:=B3y (γ:=fun _=>(undef,0)) hv hs
 refine⟨u,?_,h3⟩
 have hlt:s<us.length:=(List.getElem?_eq_some_iff.1 (by simpa using h2)).1
 rw [Array.getElem?_append_left (by simpa using hlt)]
 simpa using h2
def rvf (P : Program)(F : Fr)(H : Hp) : ResultVar → Option Lf
  | .tmp t=>lf F t
  | .cell s t =>
    match lf F s with
    | some (.p k n off) =>
      match lo H k with
      | some ob =>
        match obc ob with
        | some (m,cs)=>
          bif Nat.beq m n then
            (match P.info? t,P.underlying t with
             | some i,some d=>bif K1 d then (bif Nat.ble (off+i.size) cs.length then some (.g ((cs.drop off).take i.size)) else none) else cs[off]?
             | _,_=>none)
          else none
        | none=>none
      | none=>none
    | _=>none
def rvfs (P:Program)(F:Fr)(H:Hp):List ResultVar→Option (List Lf)
 | []=>some []
 | r::rs=>match rvf P F H r with|some y=>(match rvfs P F H rs with|some ys=>some (y::ys)|none=>none)|none=>none
def one1:List Dt→Dt
 | [x]=>x
 | xs=>.t xs
def rvq (tmps:Array Value):ResultVar→Sem Value
 | .tmp t=>pure (tmps.getD t undef)
 | .cell a t=>do loadVar t (← asAddr (tmps.getD a undef))
theorem B1w (fn:Func)(tmps:Array Value):results fn tmps=(do let vs ← fn.results.mapM (rvq tmps);pure (if h:vs.size=1 then vs[0] else .tuple vs)):=by
 unfold results
 congr 2
theorem G5h {P : Program}{c : Cx}{F : Fr}{H : Hp}{a : Act}{w : World}{γ : Gh}{G : Nat → Prop}(hw : Wf c γ G H w)(hs : ∀ s x, lf F s = some x → ∃ u, a.tmps[s]? = some u ∧ LR γ G w x u){r : ResultVar}{y : Lf}(h : rvf P F H r = some y) :
  ∃ u,(rvq a.tmps r).run P w=.ok u w∧LR γ G w y u:=by
 cases r with
 | tmp t=>
  obtain⟨u,h1,h2⟩:=hs t y h
  exact⟨u,by simp [rvq,Array.getD_eq_getD_getElem?,h1],h2⟩
 | cell s t=>
  simp only [rvf] at h
  split at h
  ·rename_i k n off hp
   split at h
   ·rename_i ob hob
    split at h
    ·rename_i m cs hcs
     cases hb:Nat.beq m n with
     | false=>rw [hb] at h;simp at h
     | true=>
      have:=Nat.eq_of_beq_eq_true hb
      subst this
      rw [hb] at h
      simp only [cond_true] at h
      obtain⟨u,h1,h2⟩:=hs s _ hp
      obtain⟨b,vs,h3,h4,h5,h6⟩:=Z4 (hw.obj k ob hob) hcs h2
      split at h
      ·rename_i i d hi hd
       have hia:(isAgg t).run P w=.ok (K1 d) w:=by
        have:UT P t d:=⟨hd⟩
        exact R1 (P:=P) (t:=t) w
       cases hg:K1 d with
       | true=>
        rw [hg] at h
        simp only [cond_true] at h
        cases hl:Nat.ble (off+i.size) cs.length with
        | false=>rw [hl] at h;simp at h
        | true=>
         rw [hl] at h
         simp only [cond_true,Option.some.injEq] at h
         subst h
         have hle:=Nat.le_of_ble_eq_true hl
         have h7:=A4y (k:=i.size) (A4z (k:=off) h5)
         have h8:=run_loadCells_list (P:=P) w ⟨b,off,none⟩ ((vs.drop off).take i.size) (fun j v hv=>by rw [D6];exact B6c (C5j h6 off) i.size j v hv)
         have h9:((vs.drop off).take i.size).length=i.size:=by rw [List.length_take,List.length_drop,A0c h5,Nat.min_eq_left (by omega)]
         rw [h9] at h8
         unfold loadCells at h8
         refine⟨.agg ((vs.drop off).take i.size).toArray,?_,by rw [LR];exact⟨_,rfl,h7⟩⟩
         simp [rvq,Array.getD_eq_getD_getElem?,h1,h4,asAddr,loadVar,go_sem,hia,hg,sizeOf,typeInfo,hi,h8]
       | false=>
        rw [hg] at h
        simp only [cond_false] at h
        obtain⟨u',h7,h8,h9⟩:=A1i h5 h
        have h10:=h6 off u' h7
        rw [Nat.zero_add] at h10
        refine⟨u',?_,h9⟩
        simp [rvq,Array.getD_eq_getD_getElem?,h1,h4,asAddr,loadVar,go_sem,hia,hg,h10]
      ·cases h
    ·cases h
   ·cases h
  ·cases h
theorem C0t {P : Program}{c : Cx}{F : Fr}{H : Hp}{a : Act}{w : World}{γ : Gh}{G : Nat → Prop}(hw : Wf c γ G H w)(hs : ∀ s x, lf F s = some x → ∃ u, a.tmps[s]? = some u ∧ LR γ G w x u) : ∀ {rs : List ResultVar} {ys : List Lf}, rvfs P F H rs = some ys →
  ∃ us,(rs.mapM (rvq a.tmps)).run P w=.ok us w∧LR.LsR γ G w false ys us
 | [],ys,h=>by
  simp only [rvfs,Option.some.injEq] at h
  subst h
  exact⟨[],by simp,by rw [LR.LsR]⟩
 | r :: rs, ys, h => by
  rw [rvfs] at h
  split at h
  ·rename_i y hy
   split at h
   ·rename_i zs hzs
    cases h
    obtain⟨u,h1,h2⟩:=G5h hw hs hy
    obtain⟨us,h3,h4⟩:=C0t hw hs hzs
    refine⟨u::us,?_,by rw [LR.LsR];exact⟨u,us,rfl,fun h=>Bool.noConfusion h,h2,h4⟩⟩
    rw [List.mapM_cons,Sem.run_bind,h1]
    simp only [Result.andThen_ok,Sem.run_bind,h3,Sem.run_pure]
   ·cases h
  ·cases h
theorem D9f {P : Program}{c : Cx}{n : Nat}{F : Fr}{H : Hp}{fn : Func}{rs : List ResultVar}{ys : List Lf}{xs : List Dt}{x : Dt}(hM : c.M = fun _ => False)(hr : fn.results = rs.toArray)(hy : rvfs P F H rs = some ys)(hu : undts ys = some xs)
  (hx:wk (one1 xs) x:=by first|exact .eq rfl|(repeat (first|exact .eq rfl|exact .nil|refine .t1 ?_ ?_|refine .g1 ?_ ?_|exact .t0|exact .g0))):XK c n (bodyPost P fn (Res c x)) .ret F H:=by
 intro a w hrel
 obtain⟨_,h2,γ,G,hw,hs⟩:=hrel
 obtain⟨us,h3,h4⟩:=C0t hw hs hy
 have h5:=V6 hu h4
 have hext:Ext c.w0 w:=by have:=hw.off;rw [hM] at this;exact this.ext
 have hG:∀ b,G b→(c.G b∨(c.w0.heap.size≤b∧b<w.heap.size))∧w.heap[b]?=w.heap[b]?:=fun b hb=>by
  obtain⟨h6,h7⟩:=hw.glt b hb
  rcases h7 with h7|h7|h7
  ·exact⟨.inl h7,rfl⟩
  ·exact⟨.inr ⟨h7,h6⟩,rfl⟩
  ·rw [hM] at h7;exact h7.elim
 have hrun:(results fn a.tmps).run P w=.ok (if h:us.toArray.size=1 then us.toArray[0] else .tuple us.toArray) w:=by
  simp only [B1w,hr,List.mapM_toArray,Sem.run_bind]
  rw [map_eq_pure_bind,Sem.run_bind,h3]
  simp
 refine⟨h2,_,hrun,_,rfl,hext,wk_r hx ?_⟩
 have hl:=vals_len h5
 cases us with
 | nil=>
  cases xs with
  | nil=>simp only [one1];rw [DR];exact⟨[],by simp,G4 hG false _ _ h5⟩
  | cons _ _=>simp at hl
 | cons u r=>
  cases r with
  | nil =>
   cases xs with
   | nil=>simp at hl
   | cons y q=>
    cases q with
    | nil=>
     rw [DR.valsR] at h5
     obtain⟨u',us',h6,_,h7,_⟩:=h5
     cases h6
     simpa [one1] using DR.mv hG _ _ h7
    | cons _ _=>simp at hl
  | cons u2 r=>
   cases xs with
   | nil=>simp at hl
   | cons y q=>
    cases q with
    | nil=>simp at hl
    | cons y2 q=>simp only [one1];rw [DR];exact⟨u::u2::r,by simp,G4 hG false _ _ h5⟩
end Go.Dl
namespace Go.Dl
open Go.RowKit Go.En
def lds (y:Lf):Option (List Dt):=match lcs y with|some cs=>undts cs|none=>none
theorem D9o {γ:Gh}{G:Nat→Prop}{w:World}{y:Lf}{u:Value}{ds:List Dt}(h:LR γ G w y u)(hc:lds y=some ds):DR.valsR G w true ds u.cells.toList:=by
 unfold lds at hc
 split at hc
 ·rename_i cs hcs
  exact V6 hc (C3w h hcs)
 ·cases hc
def efd (F:Fr)(size:Nat):Nat→List (Nat × Operand)→Option (List (List Dt))
 | _,[]=>some []
 | k,(i,x)::r=>bif Nat.beq i k then (match ef F x with|some y=>(match lds y with|some ds=>bif Nat.beq ds.length size then (match efd F size (k+1) r with|some rs=>some (ds::rs)|none=>none) else none|none=>none)|none=>none) else none
theorem G2a {F : Fr}{size : Nat}{γ : Gh}{G : Nat → Prop}{w : World}{f : Operand → Value} : ∀ {ps : List (Nat × Operand)} {k : Nat} {rows : List (List Dt)}, efd F size k ps = some rows → (∀ p ∈ ps, ∀ z, ef F p.2 = some z → LR γ G w z (f p.2)) →
  (ps.map fun p=>(p.1,f p.2))=((ps.map fun p=>f p.2).zipIdx k).map (fun p=>(p.2,p.1))∧(∀ v∈ps.map fun p=>f p.2,v.cells.size=size)∧rows.length=ps.length∧(∀ r∈rows,r.length=size)∧DR.valsR G w true rows.flatten ((ps.map fun p=>f p.2).map fun v=>v.cells.toList).flatten
 | [],k,rows,h,_=>by
  simp only [efd,Option.some.injEq] at h
  subst h
  exact⟨rfl,by simp,rfl,by simp,by simp only [List.flatten_nil,List.map_nil];rw [DR.valsR]⟩
 | (i, x) :: r, k, rows, h, hr => by
  rw [efd] at h
  cases hb:Nat.beq i k with
  | false=>rw [hb] at h;simp at h
  | true=>
   have:=Nat.eq_of_beq_eq_true hb
   subst this
   rw [hb,cond_true] at h
   split at h
   ·rename_i y hy
    split at h
    ·rename_i ds hds
     cases hb2:Nat.beq ds.length size with
     | false=>rw [hb2] at h;simp at h
     | true=>
      rw [hb2,cond_true] at h
      split at h
      ·rename_i rs hrs
       cases h
       obtain⟨h1,h2,h3,h4,h5⟩:=G2a (f:=f) hrs fun p hp=>hr p (List.mem_cons_of_mem _ hp)
       have h6:=D9o (hr (i,x) (List.mem_cons_self ..) y hy) hds
       have h7:=Nat.eq_of_beq_eq_true hb2
       refine⟨by simp only [List.map_cons,List.zipIdx_cons,h1],?_,by simp [h3],?_,?_⟩
       ·intro v hv
        rcases List.mem_cons.1 hv with rfl|hv
        ·have:=vals_len h6
         rw [Array.length_toList] at this
         dsimp only at this ⊢
         omega
        ·exact h2 v hv
       ·intro q hq
        rcases List.mem_cons.1 hq with rfl|hq
        ·exact h7
        ·exact h4 q hq
       ·simp only [List.flatten_cons,List.map_cons]
        exact R7 h6 h5
      ·cases h
    ·cases h
   ·cases h
section
variable {P : Program}{o : Oper}{F : Fr}{H : Hp}
theorem run_lit {t e:TypeId}{z:Value}{size bytes len:Nat}{ps:List (Nat × Operand)}{rows:List (List Dt)}[ut:UT P t (.slice e)][ti:TI P e z size bytes](ho:o.op=.buildSlice t len ps.toArray)(hps:efd F size 0 ps=some rows)(hl:Nat.beq rows.length len=true)(hsm:Nat.ble (len*size) 16777216=true)
  {γ:Gh} {G:Nat→Prop} {w:World} {a:Act} (ha:Args F o γ G w a):∃ cs,(execOp a.eval o).run P w=.ok (.value (.slice (some ⟨w.heap.size,0,none⟩) len len)) (w.alloc (.cells cs.toArray e))∧DR.valsR G w true rows.flatten cs∧(∀ r∈rows,r.length=size)∧rows.length=len:=by
 obtain⟨h1,h2,h3,h4,h5⟩:=G2a (f:=a.eval) hps fun p hp z hz=>ha p.2 (by rw [ho];simp [Op.operands];exact⟨p.1,hp⟩) z hz
 have hlen:=Nat.eq_of_beq_eq_true hl
 have:=Go.En.run_buildSlice (P:=P) (t:=t) (w:=w) (len:=len) h2 (by rw [List.length_map,← h3,hlen]) (Nat.le_of_ble_eq_true hsm)
 refine⟨_,?_,h5,h4,hlen⟩
 simp only [execOp,ho,List.map_toArray,h1]
 rw [Sem.run_bind,this]
 rfl
theorem D0e {t e:TypeId}{z:Value}{size bytes len:Nat}{ps:List (Nat × Operand)}{rows:List (List Dt)}[ut:UT P t (.slice e)][ti:TI P e z size bytes](ho:o.op=.buildSlice t len ps.toArray)(hps:efd F size 0 ps=some rows)(hl:Nat.beq rows.length len=true)(hsm:Nat.ble (len*size) 16777216=true)(hln:Nat.ble len 140737488355328=true) :
  LS P o F H [] (some (.d (.s size rows))) []:=fun γ G w a ha hw K Q hK=>by
 obtain⟨cs,hr,h1,h2,h3⟩:=run_lit (F:=F) (ut:=ut) (ti:=ti) ho hps hl hsm ha
 have hx:=J1 w (.cells cs.toArray e)
 have hrow:=K4 w e cs.toArray
 unfold Oper.wp
 rw [hr]
 refine hK _ _ _ _ (Evo.ext hw.glt hx fun y hy=>?_)
 cases hy
 rw [LR,DR,h3]
 refine⟨_,_,rfl,Nat.le_refl _,Nat.le_of_ble_eq_true hln,fun _=>⟨_,_,rfl,.inr ⟨Nat.le_refl _,hrow.lt⟩,?_⟩⟩
 refine A2b h2 hrow.at ?_
 exact G4 (fun b hb=>⟨.inl hb,hx.block (hw.glt b hb)⟩) true _ _ h1
theorem A1x {size:Nat}:∀ {rows:List (List Dt)},(∀ r∈rows,r.length=size)→rows.flatten.length=rows.length*size
 | [],_=>by simp
 | r::rs,h=>by rw [List.flatten_cons,List.length_append,A1x fun q hq=>h q (List.mem_cons_of_mem _ hq),h r (List.mem_cons_self ..),List.length_cons,Nat.add_mul];omega
theorem L1 {t e:TypeId}{z:Value}{size bytes len:Nat}{ps:List (Nat × Operand)}{rows:List (List Dt)}[ut:UT P t (.slice e)][ti:TI P e z size bytes](k:Nat)(ho:o.op=.buildSlice t len ps.toArray)(hps:efd F size 0 ps=some rows)(hl:Nat.beq rows.length len=true)(hsm:Nat.ble (len*size) 16777216=true)(hln:Nat.ble len 140737488355328=true) :
  LS P o F H [] (some (.o k 0)) [(k,.ls e size 0 rows)]:=fun γ G w a ha hw K Q hK=>by
 obtain⟨cs,hr,h1,h2,h3⟩:=run_lit (F:=F) (ut:=ut) (ti:=ti) ho hps hl hsm ha
 have hx:=J1 w (.cells cs.toArray e)
 have hrow:=K4 w e cs.toArray
 have hlc:cs.length=len*size:=by
  rw [vals_len h1,← h3]
  exact A1x h2
 unfold Oper.wp
 rw [hr]
 refine hK _ _ _ _ (Evo.new (p:=(.slice (some ⟨w.heap.size,0,none⟩) len len,0)) hx hw.glt (by simp) ⟨by rw [C3],h2,cs,?_,G4 (D1t hx hw.glt) true _ _ h1⟩ (fun b hb=>?_) fun y hy=>?_)
 ·rw [C3,h3]
  exact D6p hrow hlc (Nat.zero_le _) (Nat.le_trans (Nat.le_of_ble_eq_true hln) (by decide))
 ·cases hb;exact⟨Nat.le_refl _,hrow.lt⟩
 ·cases hy
  rw [LR,C3]
  exact⟨⟨Nat.le_refl _,rfl⟩,fun _=>rfl⟩
end
def B3r (F : Fr)(ps : List (Nat × Nat)) : List Lf → List (Nat × Operand) → Option (List Lf)
  | cs,[]=>some cs
  | cs, (i, x) :: r =>
    match ps[i]? with
    | some (off,size)=>
      (match ef F x with
       | some y=>(match lcs y with
         | some ys=>bif Nat.beq ys.length size&&Nat.ble (off+size) cs.length then B3r F ps (cs.take off++ys++cs.drop (off+size)) r else none
         | none=>none)
       | none=>none)
    | none=>none
theorem B5r {F : Fr}{ps : List (Nat × Nat)}{γ : Gh}{G : Nat → Prop}{w : World}{f : Operand → Value} : ∀ {qs : List (Nat × Operand)} {cs ds : List Lf} {us : List Value}, B3r F ps cs qs = some ds → LR.LsR γ G w true cs us → (∀ q ∈ qs, ∀ z, ef F q.2 = some z → LR γ G w z (f q.2)) →
  ∃ vs,A6n ps us (qs.map fun q=>(q.1,f q.2))=some vs∧LR.LsR γ G w true ds vs
 | [],cs,ds,us,h,hu,_=>by
  simp only [B3r,Option.some.injEq] at h
  subst h
  exact⟨us,rfl,hu⟩
 | (i, x) :: r, cs, ds, us, h, hu, hq => by
  rw [B3r] at h
  split at h
  ·rename_i off size hps
   split at h
   ·rename_i y hy
    split at h
    ·rename_i ys hys
     cases hb:(Nat.beq ys.length size&&Nat.ble (off+size) cs.length) with
     | false=>rw [hb] at h;simp at h
     | true=>
      rw [hb,cond_true] at h
      simp only [Bool.and_eq_true] at hb
      have h1:=C3w (hq (i,x) (List.mem_cons_self ..) y hy) hys
      have h2:(f x).cells.size=size:=by
       have:=A0c h1
       rw [Array.length_toList] at this
       rw [this];exact Nat.eq_of_beq_eq_true hb.1
      obtain⟨vs,h3,h4⟩:=B5r h (A5v (A5v (A4y hu) h1) (A4z hu)) fun q hq'=>hq q (List.mem_cons_of_mem _ hq')
      refine⟨vs,?_,h4⟩
      simp only [List.map_cons,A6n,hps]
      rw [show Nat.beq (f x).cells.size size=true by rw [h2];exact Nat.beq_refl _,show Nat.ble (off+size) us.length=true by rw [A0c hu];exact hb.2]
      exact h3
    ·cases h
   ·cases h
  ·cases h
theorem C5r {γ:Gh}{G:Nat→Prop}{w:World}{us:List Value}(h:us.all Value.oneCell'=true):LR.LsR γ G w true (us.map fun u=>.d (.v u)) us:=D4h h
theorem B8j {P:Program}{o:Oper}{F:Fr}{H:Hp}{t:TypeId}{z:Value}{size bytes:Nat}{ps:List (Nat × Nat)}[BT P t ps][TI P t z size bytes]{qs:List (Nat × Operand)}{cs:List Lf}(ho:o.op=.build t qs.toArray)(hz:z.cells.toList.all Value.oneCell'=true)(hf:B3r F ps (z.cells.toList.map fun u=>.d (.v u)) qs=some cs) :
  LS P o F H [] (some (.g cs)) []:=LS_v fun γ G w a ha _=>by
 have hmem:∀ q∈qs,q.2∈o.op.operands:=fun q hq=>by rw [ho];simp [Op.operands];exact⟨q.1,hq⟩
 obtain⟨vs,h1,h2⟩:=B5r (f:=a.eval) hf (C5r hz) fun q hq z hz=>ha q.2 (hmem q hq) z hz
 refine⟨_,B1g (z:=z) (vs:=qs.map fun q=>(q.1,a.eval q.2)) vs ho ?_ h1,by rw [LR];exact⟨vs,rfl,h2⟩⟩
 rw [List.map_map]
 exact List.map_congr_left fun q hq=>by simp [C5 (a:=a) (hmem q hq)]
section
variable {P : Program}{c : Cx}{n : Nat}{Q : Post}{F : Fr}{H : Hp}{ops rest : List Oper}{o : Oper}
theorem XL_x {x:Lf}{d:Nat}{ks:List Nat}(h:LS P o F H ks (some x) [])(hg:gsf ops F o=some true)(hd:odst n o.dst=some d)(k:XL P c n ops Q rest ((d,x)::F) H):XL P c n ops Q (o::rest) F H:=by
 have h2:=D1 hd
 refine G2u h hg ?_ rfl ?_
 ·rw [h2.1];rw [h2.1] at h2;exact h2.2
 ·rw [h2.1];exact k
theorem Rel.bd {a:Act}{w:World}(h:Rel c n F H a w){x:Operand}{sz:Nat}{rows:List (List Dt)}(hx:ef F x=some (.d (.s sz rows))):rows.length≤140737488355328:=by
 obtain⟨_,_,γ,G,_,hs⟩:=h
 have:=Rel.ev hs hx
 rw [LR,DR] at this
 obtain⟨_,_,_,_,h3,_⟩:=this
 exact h3
theorem G4r {d:Nat}{t e:TypeId}{x:Operand}{sz m:Nat}{rows:List (List Dt)}[UT P t (.slice e)](ho:o.op=.call { callee:=.builtin .len,args:=#[x],argTypes:=#[t] })(hx:ef F x=some (.d (.s sz rows)))(hl:rows.length=m)(hg:gsf ops F o=some true)(hd:odst n o.dst=some d)
  (k:m≤140737488355328→XL P c n ops Q rest ((d,.d (.v (int m)))::F) H):XL P c n ops Q (o::rest) F H:=fun a w hr=>
 XL_x (C1e ho hx hl) hg hd (k (by have:=hr.bd hx;omega)) a w hr
theorem at_X {k:Code}(h:X P c n k Q F H):X P c n k Q F H:=h
theorem G2f {e:Exit}(h:XK c n Q e F H):XK c n Q e F H:=h
end
theorem Rel.give {c:Cx}{n:Nat}{F:Fr}{H:Hp}{a:Act}{w:World}{s k m:Nat}{t:TypeId}{sz:Nat}{rows:List (List Dt)}(h:Rel c n F H a w)(hs:lf F s=some (.o k m))(hk:lo H k=some (.ls t sz m rows))(hl:rows.length≤140737488355328):Rel c n ((s,.d (.s sz rows))::F) ((k,.dead)::H) a w:=by
 obtain⟨h1,h2,γ,G,hw,hsl⟩:=h
 obtain⟨u,h3,h4⟩:=hsl s _ hs
 have hOR:=hw.obj k _ hk
 obtain⟨h5,vs,h6,h7⟩:=own_sl hOR h4
 have hblk:∀ b,blk u=some b→oblk γ k (.ls t sz m rows)=some b:=fun b hb=>by rw [h5] at hb;exact hb
 have hG:∀ b,G b→(G b∨blk u=some b)∧w.heap[b]?=w.heap[b]?:=fun b hb=>⟨.inl hb,rfl⟩
 refine⟨h1,h2,γ,fun b=>G b∨blk u=some b,⟨hw.off,fun b hb=>.inl (hw.g0 b hb),fun b hb=>?_,fun j ob hj=>?_,fun j ob b hj hb=>?_,fun j j' ob ob' b hj hj' hb hb'=>?_,hw.lnk⟩,fun q x hq=>?_⟩
 ·rcases hb with hb|hb
  ·exact hw.glt b hb
  ·obtain⟨g1,_,g3⟩:=hw.own k _ b hk (hblk b hb)
   exact⟨g1,g3.elim (fun h=>.inr (.inr h)) fun h=>.inr (.inl h)⟩
 ·rw [D3] at hj
  split at hj
  ·cases hj;trivial
  ·exact OR.mv hG rfl (fun _ _=>.inl rfl) (fun _ _=>rfl) (hw.obj j ob hj)
 ·rw [D3] at hj
  split at hj
  ·cases hj;cases hb
  ·rename_i hne
   obtain⟨g1,g2,g3⟩:=hw.own j ob b hj hb
   refine⟨g1,fun hg=>?_,g3⟩
   rcases hg with hg|hg
   ·exact g2 hg
   ·exact hne (hw.dis k j _ _ b hk hj (hblk b hg) hb)
 ·rw [D3] at hj hj'
  split at hj
  ·cases hj;cases hb
  ·split at hj'
   ·cases hj';cases hb'
   ·exact hw.dis j j' ob ob' b hj hj' hb hb'
 ·rw [J9] at hq
  split at hq
  ·rename_i e;subst e
   cases hq
   refine⟨u,h3,?_⟩
   rw [LR,DR]
   rcases O0 h6 with⟨g1,g2,_⟩|⟨b,cap,g1,g2,_,_,g6⟩
   ·exact⟨none,0,by rw [g1,g2],by omega,hl,fun h=>absurd h (by omega)⟩
   ·exact⟨_,cap,g1,g2,hl,fun _=>⟨b,0,rfl,.inr (by rw [g1];rfl),A2b hOR.2.1 g6 (G4 hG true _ _ h7)⟩⟩
  ·obtain⟨v,g1,g2⟩:=hsl q x hq
   exact⟨v,g1,LR.mv hG x v (fun _ _=>.inl rfl) g2⟩
theorem Rel.take {c:Cx}{n:Nat}{F:Fr}{H:Hp}{a:Act}{w:World}(s k:Nat)(t:TypeId)(sz:Nat)(h:Rel c n F H a w)(hs:lf F s=some (.d (.v (.slice none 0 0))))(hf:frs [(k,.ls t sz 0 [])] [] F H=true):Rel c n ((s,.o k 0)::F) ((k,.ls t sz 0 [])::H) a w:=by
 obtain⟨h1,h2,γ,G,hw,hsl⟩:=h
 obtain⟨u,h3,h4⟩:=hsl s _ hs
 rw [LR,DR] at h4
 subst h4
 have hlt:s<a.tmps.size:=(Array.getElem?_eq_some_iff.1 h3).1
 have:=Rel.step (he:=[(k,.ls t sz 0 [])]) (ks:=[]) (x:=some (.o k 0)) (v:=.slice none 0 0) (d:=some s) h1 h2 hw hsl (by unfold dok;rw [← h1];exact Nat.ble_eq_true_of_le hlt) hf
  (Evo.new (p:=(.slice none 0 0,0)) (Ext.refl w) (fun b hb=>(hw.glt b hb).1) (by simp) ⟨by rw [C3],fun r hr=>by simp at hr,[],by rw [C3];exact World.ownsRow_nil w 0 t sz,by rw [List.flatten_nil,DR.valsR]⟩ (fun b hb=>by cases hb) fun y hy=>by cases hy;rw [LR,C3];exact⟨⟨Nat.le_refl _,rfl⟩,fun _=>rfl⟩)
 have he:a.put (some s) (.slice none 0 0)=a:=by
  simp only [Act.put]
  have:a.tmps.setIfInBounds s (.slice none 0 0)=a.tmps:=by
   apply Array.ext_getElem?
   intro i
   by_cases e:s=i
   ·subst e;rw [Array.getElem?_setIfInBounds_self_of_lt hlt,h3]
   ·rw [Array.getElem?_setIfInBounds_ne e]
  rw [this]
 rw [he] at this
 exact this
section
variable {P : Program}{c : Cx}{n : Nat}{Q : Post}{F : Fr}{H : Hp}{ops rest : List Oper}
theorem B0h {x:Code}(s:Nat){k m:Nat}{t:TypeId}{sz:Nat}{rows:List (List Dt)}(hs:lf F s=some (.o k m))(hk:lo H k=some (.ls t sz m rows))(hl:rows.length≤140737488355328)(h:X P c n x Q ((s,.d (.s sz rows))::F) ((k,.dead)::H)):X P c n x Q F H:=fun a w hr=>h a w (hr.give hs hk hl)
theorem D8j (s:Nat){k m:Nat}{t:TypeId}{sz:Nat}{rows:List (List Dt)}(hs:lf F s=some (.o k m))(hk:lo H k=some (.ls t sz m rows))(hl:rows.length≤140737488355328)(h:XL P c n ops Q rest ((s,.d (.s sz rows))::F) ((k,.dead)::H)):XL P c n ops Q rest F H:=fun a w hr=>h a w (hr.give hs hk hl)
theorem B9 {e:Exit}(s:Nat){k m:Nat}{t:TypeId}{sz:Nat}{rows:List (List Dt)}(hs:lf F s=some (.o k m))(hk:lo H k=some (.ls t sz m rows))(hl:rows.length≤140737488355328)(h:XK c n Q e ((s,.d (.s sz rows))::F) ((k,.dead)::H)):XK c n Q e F H:=fun a w hr=>h a w (hr.give hs hk hl)
theorem D0 {x:Code}(s k:Nat)(t:TypeId)(sz:Nat)(hs:lf F s=some (.d (.v (.slice none 0 0))))(hf:frs [(k,.ls t sz 0 [])] [] F H=true)(h:X P c n x Q ((s,.o k 0)::F) ((k,.ls t sz 0 [])::H)):X P c n x Q F H:=fun a w hr=>h a w (hr.take s k t sz hs hf)
theorem D8l {e:Exit}(s k:Nat)(t:TypeId)(sz:Nat)(hs:lf F s=some (.d (.v (.slice none 0 0))))(hf:frs [(k,.ls t sz 0 [])] [] F H=true)(h:XK c n Q e ((s,.o k 0)::F) ((k,.ls t sz 0 [])::H)):XK c n Q e F H:=fun a w hr=>h a w (hr.take s k t sz hs hf)
end
end Go.Dl
