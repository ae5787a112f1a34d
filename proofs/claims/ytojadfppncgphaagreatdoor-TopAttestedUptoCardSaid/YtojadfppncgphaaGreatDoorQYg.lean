/- Own text. -/
import Derived.Test.YtojadfppncgphaaGreatDoorQYf
set_option linter.all false
namespace Go.Dl
open Go.RowKit Go.En Go.MapKept
section
variable {P : Program}{w : World}
theorem C0p {t e : TypeId}(h : TwoInts P t e) : ∃ f g, P.fieldsOf t = #[f, g] ∧ f.name ≠ "_" ∧ f.type = e ∧ f.offset = 0 ∧ g.name ≠ "_" ∧ g.type = e ∧ g.offset = 1 := by
 have hf:=h.hf
 obtain⟨f,g,hl⟩:∃ f g,(P.fieldsOf t).toList=[f,g]:=by
  have:=congrArg List.length hf
  rw [List.length_map] at this
  generalize (P.fieldsOf t).toList=l at this ⊢
  cases l with
  | nil=>simp at this
  | cons f l=>cases l with
   | nil=>simp at this
   | cons g l=>cases l with
    | nil=>exact⟨f,g,rfl⟩
    | cons=>simp at this
 rw [hl] at hf
 simp only [List.map_cons,List.map_nil,List.cons.injEq,Prod.mk.injEq,and_true] at hf
 obtain⟨⟨n1,t1,o1⟩,n2,t2,o2⟩:=hf
 refine⟨f,g,?_,by simpa using n1,t1,o1,by simpa using n2,t2,o2⟩
 have:P.fieldsOf t=(P.fieldsOf t).toList.toArray:=by simp
 rw [this,hl]
theorem B0v {e:TypeId}(he:P.underlying e=some (.int .i64))(em:Bool)(n:Nat)(a:Int):(Instr.checkKey em (n+1) e (int a)).run P w=.ok () w:=by
 simp [Instr.checkKey,run_underlying he,int]
theorem A8n {t e:TypeId}(h:TwoInts P t e)(em:Bool)(n:Nat)(a b:Int):(Instr.checkKey em (n+1+1) t (.agg #[int a,int b])).run P w=.ok () w:=by
 obtain⟨f,g,hl,m1,t1,o1,m2,t2,o2⟩:=C0p h
 have hst:=h.st
 rw [hl] at hst
 have p1:=M9 (P:=P) (w:=w) (xs:=#[int a,int b]) (off:=0) h.he rfl
 have p2:=M9 (P:=P) (w:=w) (xs:=#[int a,int b]) (off:=1) h.he rfl
 have q:=fun x=>B0v (P:=P) (w:=w) h.he em n x
 rw [Instr.checkKey]
 simp [run_underlying hst,m1,m2,t1,t2,o1,o2,p1,p2,q]
theorem B0u {t e:TypeId}(h:TwoInts P t e)(em:Bool)(a b:Int):(Instr.checkKey em 10000 t (.agg #[int a,int b])).run P w=.ok () w:=A8n h em 9998 a b
theorem A3r {t e : TypeId}(h : TwoInts P t e)(a b : Int) : ∀ (l : List MapEntry) (i : Nat), (∀ x ∈ l, ∃ j : Ky, j.kind = 2 ∧ x.key = j.enc) →
  ((Instr.findAsking t (.agg #[int a,int b]) l i).run P w=.ok none w∧∀ x∈l,x.key≠.agg #[int a,int b])∨∃ k e,(Instr.findAsking t (.agg #[int a,int b]) l i).run P w=.ok (some (i+k,e.val)) w∧l[k]?=some e∧e.key=.agg #[int a,int b]
 | [],i,_=>.inl ⟨rfl,fun x hx=>by cases hx⟩
 | x :: r, i, hl => by
  obtain⟨j,hj,hk⟩:=hl x (List.mem_cons_self ..)
  obtain⟨c,d,rfl⟩:∃ c d,j=.p c d:=by cases j <;> simp [Ky.kind] at hj;exact⟨_,_,rfl⟩
  have he:(Op.equal t (.agg #[int a,int b]) x.key).run P w=.ok (decide (a=c)&&decide (b=d)) w:=by rw [hk];exact A2v h a b c d
  by_cases hab:a=c∧b=d
  ·obtain⟨rfl,rfl⟩:=hab
   refine .inr ⟨0,x,?_,rfl,hk⟩
   simp [Instr.findAsking,he]
  ·have hb:(decide (a=c)&&decide (b=d))=false:=by
    rw [Bool.eq_false_iff]
    intro hh
    rw [Bool.and_eq_true] at hh
    exact hab ⟨of_decide_eq_true hh.1,of_decide_eq_true hh.2⟩
   rw [hb] at he
   have hr:(Instr.findAsking t (.agg #[int a,int b]) (x::r) i).run P w=(Instr.findAsking t (.agg #[int a,int b]) r (i+1)).run P w:=by
    simp [Instr.findAsking,he]
   rw [hr]
   rcases A3r h a b r (i+1) (fun y hy=>hl y (List.mem_cons_of_mem _ hy)) with⟨h1,h2⟩|⟨k,e',h1,h2,h3⟩
   ·refine .inl ⟨h1,fun y hy=>?_⟩
    rcases List.mem_cons.1 hy with rfl|hy
    ·rw [hk]
     intro heq
     have:=Ky.inj (a:=.p c d) (b:=.p a b) heq
     cases this
     exact hab ⟨rfl,rfl⟩
    ·exact h2 y hy
   ·exact .inr ⟨k+1,e',by rw [h1,show i+1+k=i+(k+1) by omega],h2,h3⟩
theorem ktP {t e : TypeId}(h : TwoInts P t e) : KtOK P t 2 where
 chk w em k hk:=by
  obtain⟨a,b,rfl⟩:∃ c d,k=.p c d:=by cases k <;> simp [Ky.kind] at hk;exact⟨_,_,rfl⟩
  exact B0u h em a b
 find w k hk l hl:=by
  obtain⟨a,b,rfl⟩:∃ c d,k=.p c d:=by cases k <;> simp [Ky.kind] at hk;exact⟨_,_,rfl⟩
  have hst:=run_underlying (w:=w) h.st
  cases l with
  | nil=>exact .inl ⟨by simp [Instr.findKey,hst,Instr.findNow],fun x hx=>by cases hx⟩
  | cons x r=>
   have hn:Instr.findNow (.struct (P.fieldsOf t)) (Ky.p a b).enc (x::r) 0=none:=by
    simp [Instr.findNow,Instr.sameNow,Ky.enc]
   have hr:(Instr.findKey t (Ky.p a b).enc (x::r)).run P w=(Instr.findAsking t (.agg #[int a,int b]) (x::r) 0).run P w:=by
    simp [Instr.findKey,hst,hn];rfl
   rw [hr]
   rcases A3r h a b (x::r) 0 hl with⟨h1,h2⟩|⟨k,e',h1,h2,h3⟩
   ·exact .inl ⟨h1,h2⟩
   ·rw [Nat.zero_add] at h1
    exact .inr ⟨k,e',h1,h2,h3⟩
end
end Go.Dl
namespace Go.Dl
open Go.RowKit Go.En
mutual
def nms:Lf→List Nat
 | .d _=>[]
 | .o j _=>[j]
 | .p j _ _=>[j]
 | .m j=>[j]
 | .w j _ _ _ _=>[j]
 | .f _ caps=>nmss caps
 | .g cells=>nmss cells
 | .t xs=>nmss xs
def nmss:List Lf→List Nat
 | []=>[]
 | x::r=>nms x++nmss r
end
mutual
theorem C3k:∀ {k:Nat} {x:Lf},nam k x=true→k∈nms x
 | _,.d _,h=>by simp [nam] at h
 | k,.o j _,h=>by simp only [nam] at h;rw [nms,Nat.eq_of_beq_eq_true h];exact List.mem_singleton.2 rfl
 | k,.p j _ _,h=>by simp only [nam] at h;rw [nms,Nat.eq_of_beq_eq_true h];exact List.mem_singleton.2 rfl
 | k,.m j,h=>by simp only [nam] at h;rw [nms,Nat.eq_of_beq_eq_true h];exact List.mem_singleton.2 rfl
 | k,.w j _ _ _ _,h=>by simp only [nam] at h;rw [nms,Nat.eq_of_beq_eq_true h];exact List.mem_singleton.2 rfl
 | k,.f _ caps,h=>by rw [nms];exact A0s (by simpa [nam] using h)
 | k,.g cells,h=>by rw [nms];exact A0s (by simpa [nam] using h)
 | k,.t xs,h=>by rw [nms];exact A0s (by simpa [nam] using h)
theorem A0s:∀ {k:Nat} {xs:List Lf},nams k xs=true→k∈nmss xs
 | _,[],h=>by simp [nams] at h
 | k,x::r,h=>by
  rw [nams,Bool.or_eq_true] at h
  rw [nmss]
  rcases h with h|h
  ·exact List.mem_append_left _ (C3k h)
  ·exact List.mem_append_right _ (A0s h)
end
def nmo:Ob→List Nat
 | .box _ cs=>nmss cs
 | _=>[]
theorem C9s {k:Nat}{ob:Ob}(h:namo k ob=true):k∈nmo ob:=by
 cases ob with
 | box t cs=>exact A0s (by simpa [namo] using h)
 | _=>simp [namo] at h
def dom (H:Hp):List Nat:=H.map (·.1)
theorem G4h {H:Hp}{k:Nat}(h:k∈dom H):lo H k≠none:=by
 induction H with
 | nil=>simp [dom] at h
 | cons p r ih=>
  obtain⟨j,ob⟩:=p
  rw [D3]
  split
  ·simp
  ·rename_i hne
   simp only [dom,List.map_cons,List.mem_cons] at h
   rcases h with h|h
   ·exact absurd h.symm hne
   ·exact ih h
theorem A5k {H:Hp}{k:Nat}{ob:Ob}(h:lo H k=some ob):k∈dom H:=List.mem_map.2 ⟨_,A2z h,rfl⟩
def clo (he:Hp)(x:Lf):Bool:=(he.all fun p=>(nmo p.2).all fun j=>(lo he j).isSome)&&(nms x).all fun j=>(lo he j).isSome
def Fo (P:Program)(f:FuncId)(ys:List Lf)(H:Hp)(x:Lf)(he:Hp):Prop:=
 ∀ γ G w us,HW γ G (dom H) H w→LR.LsR γ G w false ys us→Calls P f us.toArray w (Rt fun u w'=>∃ γ' G',Evo γ G w H (dom H) he (some x) u γ' G' w')
def B9t:List Lf→Nat→Fr
 | [],_=>[]
 | x::r,k=>(k,x)::B9t r (k+1)
theorem B3w {γ:Gh}{G:Nat→Prop}{w:World}:∀ {xs:List Lf} {us:List Value} {k s:Nat} {y:Lf},LR.LsR γ G w false xs us→lf (B9t xs k) s=some y→k≤s∧∃ u,us[s-k]?=some u∧LR γ G w y u
 | [],_,_,_,_,_,h=>by simp [B9t,lf] at h
 | x :: r, us, k, s, y, e, h => by
  rw [LR.LsR] at e
  obtain⟨u,us',rfl,_,h3,h4⟩:=e
  rw [B9t,J9] at h
  split at h
  ·rename_i e;subst e
   cases h
   exact⟨Nat.le_refl _,u,by simp,h3⟩
  ·rename_i hne
   obtain⟨h5,v,h6,h7⟩:=B3w h4 h
   have:s-k=(s-(k+1))+1:=by omega
   exact⟨by omega,v,by rw [this,List.getElem?_cons_succ];exact h6,h7⟩
def ResO (c:Cx)(H:Hp)(x:Lf)(he:Hp):Ending→World→Prop:=Rt fun u w'=>∃ γ' G',Evo c.γ0 c.G c.w0 H (dom H) he (some x) u γ' G' w'
theorem fo_X {P:Program}{f:FuncId}{fn:Func}{k:Code}{n:Nat}{ys:List Lf}{H he:Hp}{x:Lf}(hf:P.funcs[f]?=some fn)(hb:fn.body=some k)(hn:fn.ntmps=n)(hle:Nat.ble ys.length n=true)
  (h:∀ c:Cx,(∀ b,c.M b↔∃ k∈dom H,∃ ob,lo H k=some ob∧oblk c.γ0 k ob=some b)→X P c n k (bodyPost P fn (ResO c H x he)) (B9t ys 0) H):Fo P f ys H x he:=by
 intro γ G w us hw hv
 have hl:us.length=ys.length:=A0c hv
 have hle':us.length≤n:=by rw [hl];exact Nat.le_of_ble_eq_true hle
 refine calls_of_wp hf hb (h ⟨w,G,fun b=>∃ k∈dom H,∃ ob,lo H k=some ob∧oblk γ k ob=some b,γ⟩ (fun _=>Iff.rfl) _ w ⟨by simp [hn];omega,rfl,γ,G,⟨Kx.refl _ _,fun _ h=>h,fun b hb=>⟨hw.glt b hb,.inl hb⟩,fun k ob h=>hw.obj k (A5k h) ob h,fun k ob b h hb=>?_,fun k k' ob ob' b h h' hb hb'=>hw.dis k (A5k h) k' (A5k h') ob ob' b h h' hb hb',fun _ _=>.inl rfl⟩,fun s y hs=>?_⟩)
 ·obtain⟨g1,g2⟩:=hw.own k (A5k h) ob b h hb
  exact⟨g1,g2,.inl ⟨k,A5k h,ob,h,hb⟩⟩
 ·obtain⟨_,u,h2,h3⟩:=B3w hv hs
  refine⟨u,?_,h3⟩
  have hlt:s<us.length:=(List.getElem?_eq_some_iff.1 (by simpa using h2)).1
  rw [Array.getElem?_append_left (by simpa using hlt)]
  simpa using h2
def onel:List Lf→Lf
 | [x]=>x
 | xs=>.t xs
theorem A9 {P:Program}{c:Cx}{n:Nat}{F:Fr}{H Hc he:Hp}{fn:Func}{rs:List ResultVar}{ys:List Lf}{x:Lf}(hM:∀ b,c.M b↔∃ k∈dom H,∃ ob,lo H k=some ob∧oblk c.γ0 k ob=some b)(hr:fn.results=rs.toArray)(hy:rvfs P F Hc rs=some ys)(hx:onel ys=x)
  (hh:hsub he Hc) (hd:(dom H).all (fun k=>(lo he k).isSome&&Nat.ble 1000 k)=true) (hc:clo he x=true):XK c n (bodyPost P fn (ResO c H x he)) .ret F Hc:=by
 intro a w hrel
 obtain⟨_,h2,γ,G,hw,hs⟩:=hrel
 obtain⟨us,h3,h4⟩:=C0t hw hs hy
 have hrun:(results fn a.tmps).run P w=.ok (if h:us.toArray.size=1 then us.toArray[0] else .tuple us.toArray) w:=by
  simp only [B1w,hr,List.mapM_toArray,Sem.run_bind]
  rw [map_eq_pure_bind,Sem.run_bind,h3]
  simp
 have hdom:∀ k∈dom H,lo he k≠none∧1000≤k:=fun k hk=>by
  have:=List.all_eq_true.1 hd k hk
  rw [Bool.and_eq_true] at this
  exact⟨fun e=>by rw [e] at this;exact absurd this.1 (by simp),Nat.le_of_ble_eq_true this.2⟩
 unfold clo at hc
 rw [Bool.and_eq_true] at hc
 obtain⟨γ2,hγ2⟩:∃ γ2:Gh,γ2=fun k=>if (lo he k).isSome then γ k else c.γ0 k:=⟨_,rfl⟩
 have g1:∀ k,lo he k≠none→γ2 k=γ k:=fun k hk=>by
  rw [hγ2]
  cases h:lo he k with
  | none=>exact absurd h hk
  | some ob=>simp [h]
 have g2:∀ k,lo he k=none→γ2 k=c.γ0 k:=fun k hk=>by rw [hγ2];simp [hk]
 have hnm:∀ k ob,lo he k=some ob→∀ j,namo j ob=true→γ.to γ2 j:=fun k ob hk j hj=>by
  have:=List.all_eq_true.1 (List.all_eq_true.1 hc.1 _ (A2z hk)) j (C9s hj)
  exact .inl (g1 j (fun e=>by rw [e] at this;simp at this))
 have hG:∀ b,G b→G b∧w.heap[b]?=w.heap[b]?:=fun b hb=>⟨hb,rfl⟩
 have hMT:∀ b,c.M b→Tb c.γ0 (dom H) H he b:=fun b hb=>by
  obtain⟨k,hk,ob,h5,h6⟩:=(hM b).1 hb
  exact⟨k,hk,ob,h5,(hdom k hk).1,h6⟩
 have hbl:∀ k ob b,lo he k=some ob→oblk γ2 k ob=some b→oblk γ k ob=some b:=fun k ob b hk hb=>by
  have:=g1 k (by rw [hk];simp)
  cases ob <;> simpa [oblk,this] using hb
 refine⟨h2,_,hrun,_,rfl,γ2,G,⟨hw.off.wk fun q _ hq=>hMT q hq,hw.g0,fun b hb=>?_,g2,fun k hk hm=>?_,fun k ob hk=>?_,fun k ob b hk hb=>?_,fun k k' ob ob' b hk hk' hb hb'=>?_,fun y hy=>?_⟩⟩
 ·obtain⟨h5,h6⟩:=hw.glt b hb
  exact⟨h5,h6.elim .inl fun h=>h.elim (fun h=>.inr (.inl h)) fun h=>.inr (.inr (hMT b h))⟩
 ·unfold Gh.to
  rw [g1 k hk]
  exact hw.lnk k (hdom k hm).2
 ·exact OR.mv hG (g1 k (by rw [hk];simp)) (hnm k ob hk) (fun _ _=>rfl) (hw.obj k ob (hh.get k ob hk))
 ·obtain⟨h5,h6,h7⟩:=hw.own k ob b (hh.get k ob hk) (hbl k ob b hk hb)
  exact⟨h5,h6,h7.elim (fun h=>.inr (hMT b h)) .inl⟩
 ·exact hw.dis k k' ob ob' b (hh.get k ob hk) (hh.get k' ob' hk') (hbl k ob b hk hb) (hbl k' ob' b hk' hb')
 ·cases hy
  have hnx:∀ j,nam j x=true→γ.to γ2 j:=fun j hj=>by
   have:=List.all_eq_true.1 hc.2 j (C3k hj)
   exact .inl (g1 j (fun e=>by rw [e] at this;simp at this))
  refine LR.mv hG x _ hnx ?_
  subst hx
  have hl:=A0c h4
  cases us with
  | nil=>
   cases ys with
   | nil=>simp only [onel];rw [LR];exact⟨[],by simp,h4⟩
   | cons _ _=>simp at hl
  | cons u r=>
   cases r with
   | nil =>
    cases ys with
    | nil=>simp at hl
    | cons y q=>
     cases q with
     | nil=>
      rw [LR.LsR] at h4
      obtain⟨u',us',h6,_,h7,_⟩:=h4
      cases h6
      simpa [onel] using h7
     | cons _ _=>simp at hl
   | cons u2 r=>
    cases ys with
    | nil=>simp at hl
    | cons y q=>
     cases q with
     | nil=>simp at hl
     | cons y2 q=>simp only [onel];rw [LR];exact⟨u::u2::r,by simp,h4⟩
mutual
def ren (ρ:Nat→Nat):Lf→Lf
 | .d x=>.d x
 | .o k n=>.o (ρ k) n
 | .p k n off=>.p (ρ k) n off
 | .m k=>.m (ρ k)
 | .w k n sz a b=>.w (ρ k) n sz a b
 | .f fn caps=>.f fn (rens ρ caps)
 | .g cells=>.g (rens ρ cells)
 | .t xs=>.t (rens ρ xs)
def rens (ρ:Nat→Nat):List Lf→List Lf
 | []=>[]
 | x::r=>ren ρ x::rens ρ r
end
def renO (ρ:Nat→Nat):Ob→Ob
 | .box t cs=>.box t (rens ρ cs)
 | .ls t sz n rows=>.ls t sz n rows
 | .it l pos=>.it l pos
 | .mp kd es=>.mp kd es
 | .dead=>.dead
def renH (ρ:Nat→Nat):Hp→Hp
 | []=>[]
 | (k,ob)::r=>(ρ k,renO ρ ob)::renH ρ r
section
variable {ρ : Nat → Nat}{γ : Gh}{G : Nat → Prop}{w : World}
mutual
theorem D4l:∀ {x:Lf} {u:Value},LR γ G w (ren ρ x) u↔LR (fun k=>γ (ρ k)) G w x u
 | .d x,u=>by rw [ren,LR,LR]
 | .o k n,u=>by rw [ren,LR,LR]
 | .p k n off,u=>by rw [ren,LR,LR]
 | .m k,u=>by rw [ren,LR,LR]
 | .w k n sz a b,u=>by rw [ren,LR,LR]
 | .f fn caps,u=>by rw [ren,LR,LR];exact exists_congr fun vs=>and_congr_right fun _=>A2c
 | .g caps,u=>by rw [ren,LR,LR];exact exists_congr fun vs=>and_congr_right fun _=>A2c
 | .t caps,u=>by rw [ren,LR,LR];exact exists_congr fun vs=>and_congr_right fun _=>A2c
theorem A2c {one:Bool}:∀ {xs:List Lf} {us:List Value},LR.LsR γ G w one (rens ρ xs) us↔LR.LsR (fun k=>γ (ρ k)) G w one xs us
 | [],us=>by rw [rens,LR.LsR,LR.LsR]
 | x::r,us=>by
  rw [rens,LR.LsR,LR.LsR]
  exact exists_congr fun u=>exists_congr fun q=>and_congr_right fun _=>and_congr_right fun _=>and_congr D4l A2c
end
theorem D4f {γ γ':Gh}:∀ {es:List (Ky × Dt)} {ms:List MapEntry},MpR γ G w es ms↔MpR γ' G w es ms
 | [],ms=>by rw [MpR,MpR]
 | (k,x)::r,ms=>by
  rw [MpR,MpR]
  exact exists_congr fun e=>exists_congr fun q=>and_congr_right fun _=>and_congr_right fun _=>and_congr_right fun _=>D4f
theorem D4e {k:Nat}{ob:Ob}:OR γ G w (ρ k) (renO ρ ob)↔OR (fun k=>γ (ρ k)) G w k ob:=by
 cases ob with
 | box t cs=>exact and_congr_right fun _=>exists_congr fun b=>exists_congr fun vs=>and_congr_right fun _=>and_congr_right fun _=>A2c
 | ls t sz n rows=>exact Iff.rfl
 | it l p=>exact Iff.rfl
 | mp kd es=>
  exact and_congr_right fun _=>exists_congr fun b=>exists_congr fun ms=>exists_congr fun cl=>and_congr_right fun _=>and_congr_right fun _=>and_congr_right fun _=>and_congr_right fun _=>D4f
 | dead=>exact Iff.rfl
theorem X9 {k:Nat}{ob:Ob}:oblk γ (ρ k) (renO ρ ob)=oblk (fun k=>γ (ρ k)) k ob:=by cases ob <;> rfl
end
def rn (l:List (Nat × Nat))(k:Nat):Nat:=match l with | []=>k+100000|(a,b)::r=>bif Nat.beq a k then b else rn r k
theorem C0v:∀ {l:List (Nat × Nat)} {k:Nat},(∃ p∈l,p.1=k∧rn l k=p.2)∨(rn l k=k+100000∧∀ p∈l,p.1≠k)
 | [],k=>.inr ⟨rfl,by simp⟩
 | (a,b)::r,k=>by
  rw [rn]
  cases hb:Nat.beq a k with
  | true=>exact .inl ⟨(a,b),List.mem_cons_self ..,Nat.eq_of_beq_eq_true hb,rfl⟩
  | false=>
   have hne:a≠k:=fun e=>by subst e;simp at hb
   rw [cond_false]
   rcases C0v (l:=r) (k:=k) with⟨p,hp,h1,h2⟩|⟨h1,h2⟩
   ·exact .inl ⟨p,List.mem_cons_of_mem _ hp,h1,h2⟩
   ·exact .inr ⟨h1,fun p hp=>by
     rcases List.mem_cons.1 hp with rfl|hp
     ·exact hne
     ·exact h2 p hp⟩
def rnok (l:List (Nat × Nat)):Bool:=(l.all fun p=>Nat.blt p.2 100000)&&l.all fun p=>l.all fun q=>Nat.beq p.1 q.1||!Nat.beq p.2 q.2
theorem C0w {l:List (Nat × Nat)}(h:rnok l=true){j k:Nat}(e:rn l j=rn l k):j=k:=by
 unfold rnok at h
 rw [Bool.and_eq_true] at h
 have hlt:∀ p∈l,p.2<100000:=fun p hp=>Nat.le_of_ble_eq_true (List.all_eq_true.1 h.1 p hp)
 rcases C0v (l:=l) (k:=j) with⟨p,hp,h1,h2⟩|⟨h1,_⟩ <;> rcases C0v (l:=l) (k:=k) with⟨q,hq,h3,h4⟩|⟨h3,_⟩
 ·have:=List.all_eq_true.1 (List.all_eq_true.1 h.2 p hp) q hq
  rw [h2,h4] at e
  rw [e,Nat.beq_refl,Bool.not_true,Bool.or_false] at this
  rw [← h1,← h3,Nat.eq_of_beq_eq_true this]
 ·have:=hlt p hp;omega
 ·have:=hlt q hq;omega
 ·omega
theorem A1u {l:List (Nat × Nat)}(h:rnok l=true):∀ {H:Hp} {k:Nat},lo (renH (rn l) H) (rn l k)=(lo H k).map (renO (rn l))
 | [],_=>rfl
 | (j,ob)::r,k=>by
  rw [renH,D3,D3]
  by_cases e:j=k
  ·subst e;simp
  ·rw [if_neg e,if_neg fun e1=>e (C0w h e1)]
   exact A1u h
theorem A6k {l:List (Nat × Nat)}:∀ {H:Hp} {q:Nat},lo (renH (rn l) H) q≠none→∃ k∈dom H,rn l k=q
 | [],_,h=>absurd rfl h
 | (j,ob)::r,q,h=>by
  rw [renH,D3] at h
  split at h
  ·rename_i e;exact⟨j,by simp [dom],e⟩
  ·obtain⟨k,hk,e⟩:=A6k h
   exact⟨k,by simp only [dom,List.map_cons,List.mem_cons] at hk ⊢;exact .inr hk,e⟩
section
variable {P : Program}{o : Oper}{F : Fr}{Hc : Hp}
def hren (ρ:Nat→Nat):Hp→Hp→Prop
 | [],_=>True
 | (k,ob)::r,Hc=>lo Hc (ρ k)=some (renO ρ ob)∧hren ρ r Hc
theorem hren.get {ρ:Nat→Nat}:∀ {H Hc:Hp},hren ρ H Hc→∀ k ob,lo H k=some ob→lo Hc (ρ k)=some (renO ρ ob)
 | [],_,_,_,_,h=>by simp [lo] at h
 | (j,q)::r,Hc,hs,k,ob,h=>by
  rw [D3] at h
  split at h
  ·rename_i e;subst e;cases h;exact hs.1
  ·exact hren.get hs.2 k ob h
theorem B9o {f : FuncId}{ys zs : List Lf}{H he : Hp}{x : Lf}(l : List (Nat × Nat))(hl : rnok l = true)(hz : rens (rn l) zs = ys)(hH : hren (rn l) H Hc)(hc : Fo P f zs H x he)
  {γ:Gh} {G:Nat→Prop} {w:World} {us:List Value} (hw:HW γ G ((dom H).map (rn l)) Hc w) (hu:LR.LsR γ G w false ys us) :
  Calls P f us.toArray w (Rt fun u w'=>∃ γ' G',Evo γ G w Hc ((dom H).map (rn l)) (renH (rn l) he) (some (ren (rn l) x)) u γ' G' w'):=by
 have hmm:∀ {k},k∈dom H→rn l k∈(dom H).map (rn l):=fun hk=>List.mem_map.2 ⟨_,hk,rfl⟩
 have hw':HW (fun k=>γ (rn l k)) G (dom H) H w:=⟨hw.glt,fun k hk ob h=>D4e.1 (hw.obj _ (hmm hk) _ (hH.get k ob h)),fun k hk ob b h hb=>hw.own _ (hmm hk) _ b (hH.get k ob h) (by rw [X9];exact hb),
  fun k hk k' hk' ob ob' b h h' hb hb'=>C0w hl (hw.dis _ (hmm hk) _ (hmm hk') _ _ b (hH.get k ob h) (hH.get k' ob' h') (by rw [X9];exact hb) (by rw [X9];exact hb'))⟩
 subst hz
 refine(hc _ G w us hw' (A2c.1 hu)).mono ?_
 rintro e w' ⟨u,rfl,γ',G',ev⟩
 refine⟨u,rfl,?_⟩
 obtain⟨γ2,hγ2⟩:∃ γ2:Gh,γ2=fun q=>match (dom he).find? (fun k=>Nat.beq (rn l k) q) with|some k=>γ' k|none=>γ q:=⟨_,rfl⟩
 have g1:∀ k,lo he k≠none→γ2 (rn l k)=γ' k:=fun k hk=>by
  rw [hγ2]
  dsimp only
  cases hf:(dom he).find? (fun j=>Nat.beq (rn l j) (rn l k)) with
  | none=>
   exfalso
   cases hh:lo he k with
   | none=>exact hk hh
   | some ob=>
    have:=List.find?_eq_none.1 hf k (A5k hh)
    simp at this
  | some j=>
   have h1:rn l j=rn l k:=by have:=List.find?_some hf;simpa using this
   have:j=k:=C0w hl h1
   subst this
   rfl
 have g2:∀ q,lo (renH (rn l) he) q=none→γ2 q=γ q:=fun q hq=>by
  rw [hγ2]
  dsimp only
  cases hf:(dom he).find? (fun j=>Nat.beq (rn l j) q) with
  | none=>rfl
  | some j=>
   exfalso
   have h1:rn l j=q:=by have:=List.find?_some hf;simpa using this
   have h2:=G4h (List.mem_of_find?_eq_some hf)
   rw [← h1,A1u hl] at hq
   cases hh:lo he j with
   | none=>exact h2 hh
   | some ob=>rw [hh] at hq;cases hq
 have g3:∀ k,γ2 (rn l k)=γ' k:=fun k=>by
  by_cases hk:lo he k=none
  ·rw [g2 _ (by rw [A1u hl,hk];rfl),ev.gh k hk]
  ·exact g1 k hk
 have gf:(fun k=>γ2 (rn l k))=γ':=funext g3
 have htb:∀ b,Tb (fun k=>γ (rn l k)) (dom H) H he b→Tb γ ((dom H).map (rn l)) Hc (renH (rn l) he) b:=by
  rintro b ⟨k,hk,ob,h1,h2,h3⟩
  refine⟨rn l k,hmm hk,renO (rn l) ob,hH.get k ob h1,?_,by rw [X9];exact h3⟩
  rw [A1u hl]
  cases hh:lo he k with
  | none=>exact absurd hh h2
  | some _=>simp
 have back:∀ q ob,lo (renH (rn l) he) q=some ob→∃ k ob0,rn l k=q∧lo he k=some ob0∧ob=renO (rn l) ob0:=fun q ob hq=>by
  obtain⟨k,hk,rfl⟩:=A6k (by rw [hq];simp)
  rw [A1u hl] at hq
  cases hh:lo he k with
  | none=>rw [hh] at hq;cases hq
  | some ob0=>rw [hh] at hq;cases hq;exact⟨k,ob0,rfl,hh,rfl⟩
 refine⟨γ2,G',ev.kx.wk fun q _ h=>htb q h,ev.gg,fun b hb=>?_,g2,fun q hq hm=>?_,fun q ob hq=>?_,fun q ob b hq hb=>?_,fun q q' ob ob' b hq hq' hb hb'=>?_,fun y hy=>?_⟩
 ·obtain⟨h1,h2⟩:=ev.gn b hb
  exact⟨h1,h2.imp id (Or.imp id (htb b))⟩
 ·obtain⟨k,hk,rfl⟩:=List.mem_map.1 hm
  have hk2:lo he k≠none:=fun e=>hq (by rw [A1u hl,e];rfl)
  have:=ev.gv k hk2 hk
  unfold Gh.to at this ⊢
  rw [g3]
  exact this
 ·obtain⟨k,ob0,rfl,h1,rfl⟩:=back q ob hq
  rw [D4e,gf]
  exact ev.ob k ob0 h1
 ·obtain⟨k,ob0,rfl,h1,rfl⟩:=back q ob hq
  rw [X9,gf] at hb
  obtain⟨h2,h3,h4⟩:=ev.ow k ob0 b h1 hb
  exact⟨h2,h3,h4.imp id (htb b)⟩
 ·obtain⟨k,ob0,rfl,h1,rfl⟩:=back q ob hq
  obtain⟨k',ob0',rfl,h1',rfl⟩:=back q' ob' hq'
  rw [X9,gf] at hb hb'
  rw [ev.ds k k' ob0 ob0' b h1 h1' hb hb']
 ·cases hy
  rw [D4l,gf]
  exact ev.lr x rfl
theorem B4 {f:FuncId}{as:List Operand}{ts:Array TypeId}{ys zs:List Lf}{H he:Hp}{x:Lf}(l:List (Nat × Nat))(hc:Fo P f zs H x he)(ho:o.op=.call { callee:=.value (.func f),args:=as.toArray,argTypes:=ts })(hy:efl F as=some ys)(hl:rnok l=true)(hz:rens (rn l) zs=ys)(hH:hren (rn l) H Hc)
  (he':∀ args w,(callFunc f args).run P w=.ok (.enter f args) w):LS P o F Hc ((dom H).map (rn l)) (some (ren (rn l) x)) (renH (rn l) he):=fun γ G w a ha hw K Q hK=>by
 have hL:=A9t (a:=a) hy fun x hx=>ha x (by rw [ho];simp [Op.operands,Call.operands,hx])
 have hev:evl (LA o a) as=some (as.map a.eval):=by
  have:∀ x∈as,ev (LA o a) x=some (a.eval x):=fun x hx=>C5 (by rw [ho];simp [Op.operands,Call.operands,hx])
  clear ho hy hL ha
  induction as with
  | nil=>rfl
  | cons x r ih=>
   rw [evl,this x (List.mem_cons_self ..),ih fun x hx=>this x (List.mem_cons_of_mem _ hx)]
   rfl
 have hen:=D5 (w:=w) ho hev he' a.eval (S1 o a)
 unfold Oper.wp
 rw [hen,Oper.upon_enter]
 refine(B9o l hl hz hH hc hw hL).mono ?_
 rintro e w' ⟨u,rfl,γ',G',ev⟩
 exact hK _ _ _ _ ev
theorem J8 {f:FuncId}{g:Operand}{as:List Operand}{ts:Array TypeId}{ys zs caps:List Lf}{H he:Hp}{x:Lf}(l:List (Nat × Nat))(hc:Fo P f zs H x he)(ho:o.op=.call { callee:=.value g,args:=as.toArray,argTypes:=ts })(hg:ef F g=some (.f (.func f) caps))(hy:efl F as=some ys)(hl:rnok l=true)(hz:rens (rn l) zs=ys++caps)(hH:hren (rn l) H Hc)
  (he':∀ args w,(callFunc f args).run P w=.ok (.enter f args) w):LS P o F Hc ((dom H).map (rn l)) (some (ren (rn l) x)) (renH (rn l) he):=fun γ G w a ha hw K Q hK=>by
 have hmem:∀ x∈as,x∈o.op.operands:=fun x hx=>by rw [ho];simp [Op.operands,Call.operands,hx]
 have hmg:g∈o.op.operands:=by rw [ho];simp [Op.operands,Call.operands]
 have hL:=A9t (a:=a) hy fun x hx=>ha x (hmem x hx)
 have hgr:=ha g hmg _ hg
 rw [LR] at hgr
 obtain⟨vs,hgv,hgl⟩:=hgr
 have hgl':LR.LsR γ G w false caps vs:=by
  clear hg hy hz hgv
  induction caps generalizing vs with
  | nil=>rw [LR.LsR] at hgl ⊢;exact hgl
  | cons x r ih=>
   rw [LR.LsR] at hgl ⊢
   obtain⟨u,us,h1,_,h3,h4⟩:=hgl
   exact⟨u,us,h1,fun h=>Bool.noConfusion h,h3,ih us h4⟩
 have hev:evl (LA o a) as=some (as.map a.eval):=by
  have:∀ x∈as,ev (LA o a) x=some (a.eval x):=fun x hx=>C5 (hmem x hx)
  clear ho hy hL ha hmem hmg
  induction as with
  | nil=>rfl
  | cons x r ih=>
   rw [evl,this x (List.mem_cons_self ..),ih fun x hx=>this x (List.mem_cons_of_mem _ hx)]
   rfl
 have hge:=C5 (a:=a) hmg
 rw [hgv] at hge
 have hen:=A1z (w:=w) ho hge hev he' a.eval (S1 o a)
 unfold Oper.wp
 rw [hen,Oper.upon_enter]
 refine(B9o l hl hz hH hc hw (A5v hL hgl')).mono ?_
 rintro e w' ⟨u,rfl,γ',G',ev⟩
 exact hK _ _ _ _ ev
theorem Fp.fo {f:FuncId}{xs:List Dt}{x:Dt}{ys:List Lf}(h:Fp P f xs x)(hu:undts ys=some xs):Fo P f ys [] (ofd x) []:=fun γ G w us hw hv=>by
 refine(h w G us hw.glt (V6 hu hv)).mono ?_
 rintro e w' ⟨u,rfl,h1,h2⟩
 exact⟨u,rfl,γ,_,Evo.ext hw.glt h1 fun y hy=>by cases hy;exact A3w h2⟩
theorem A6i {fn : Fn}{cap : List Operand}{ys : List Lf}(ho : o.op = .makeFunc fn #[] cap.toArray)(hy : efl F cap = some ys)(hc : (ys.all fun y => match lcs y with | some [_] => (match y with | .g _ => false | .d (.g _) => false | _ => true) | _ => false) = true) : LS P o F Hc [] (some (.f fn ys)) [] := LS_v fun γ G w a ha _ => by
 have hmem:∀ x∈cap,x∈o.op.operands:=fun x hx=>by rw [ho];simp [Op.operands,hx]
 have hL:=A9t (a:=a) hy fun x hx=>ha x (hmem x hx)
 refine⟨_,J5 (vs:=cap.map a.eval) ho ?_,?_⟩
 ·rw [List.map_map]
  exact List.map_congr_left fun x hx=>C5 (hmem x hx)
 ·rw [LR]
  refine⟨_,rfl,?_⟩
  clear ho hy ha hmem
  generalize cap.map a.eval=us at hL
  induction ys generalizing us with
  | nil=>rw [LR.LsR] at hL ⊢;exact hL
  | cons y r ih=>
   simp only [List.all_cons,Bool.and_eq_true] at hc
   rw [LR.LsR] at hL ⊢
   obtain⟨u,q,h1,_,h3,h4⟩:=hL
   refine⟨u,q,h1,fun _=>?_,h3,ih hc.2 q h4⟩
   cases y with
   | d x =>
    cases x with
    | v x=>
     rw [LR,DR] at h3
     subst h3
     have:=hc.1
     simp only [lcs] at this
     cases ho:u.oneCell' with
     | true=>rfl
     | false=>rw [ho] at this;simp at this
    | s a b=>rw [LR,DR] at h3;obtain⟨_,_,rfl,_⟩:=h3;rfl
    | p a=>rw [LR,DR] at h3;obtain⟨_,_,rfl,_⟩:=h3;rfl
    | i t a=>rw [LR,DR] at h3;obtain⟨_,rfl,_⟩:=h3;rfl
    | g a=>have:=hc.1;simp [lcs] at this;split at this <;> simp at this
    | t a=>have:=hc.1;simp [lcs] at this
   | o k n=>rw [LR] at h3;exact h3.1.2
   | p k n off=>rw [LR] at h3;exact h3.1.2
   | m k=>rw [LR] at h3;exact h3.1
   | w k n sz a b=>rw [LR] at h3;exact h3.1.2
   | f a b=>rw [LR] at h3;obtain⟨_,rfl,_⟩:=h3;rfl
   | g a=>have:=hc.1;simp [lcs] at this;split at this <;> simp at this
   | t a=>have:=hc.1;simp [lcs] at this
end
section
variable {d' : Bool}{P : Program}{c : Cx}{n : Nat}{ops rest : List Oper}{Q : Post}{F0 F : Fr}{H0 H : Hp}{sps : List Sp}{o : Oper}
theorem G_c {x:Lf}{d:Nat}{he:Hp}{ks:List Nat}(h:LS P o F H ks (some x) he)(hg:gsf ops F o=some true)(hd:odst n o.dst=some d)(hf:frs he ks F H=true)(r:XG d' P c n ops Q F0 H0 (sps++[⟨some x,he,ks⟩]) rest ((d,x)::F) (he++H)):XG d' P c n ops Q F0 H0 sps (o::rest) F H:=by
 have h2:=D1 hd
 refine G_ls h hg ?_ hf ?_
 ·rw [h2.1];rw [h2.1] at h2;exact h2.2
 ·rw [h2.1];exact r
end
end Go.Dl
namespace Go.Dl
open Go.RowKit Go.En
def fle (M F:Fr):Prop:=∀ s v,lf M s=some v→lf F s=some v
def hle (M H:Hp):Prop:=∀ s v,lo M s=some v→lo H s=some v
def dr (W:Nat):Fr→Fr
 | []=>[]
 | (s,x)::r=>bif W.testBit s then dr W r else (s,x)::dr W r
def dh (W:Nat)(L:List Nat):Hp→Hp
 | []=>[]
 | (s,x)::r=>bif W.testBit s||L.any (Nat.beq s) then dh W L r else (s,x)::dh W L r
theorem B5t {W s:Nat}:∀ {F:Fr},lf (dr W F) s=if W.testBit s then none else lf F s
 | []=>by simp [dr,lf]
 | (k,x)::r=>by
  rw [dr]
  cases hb:W.testBit k with
  | true=>
   rw [cond_true,B5t,J9]
   by_cases e:k=s
   ·subst e;simp [hb]
   ·rw [if_neg e]
  | false=>
   rw [cond_false,J9,J9,B5t]
   by_cases e:k=s
   ·subst e;simp [hb]
   ·rw [if_neg e,if_neg e]
theorem B5v {W s:Nat}{L:List Nat}:∀ {H:Hp},lo (dh W L H) s=if (W.testBit s||L.any (Nat.beq s)) then none else lo H s
 | []=>by simp [dh,lo]
 | (k,x)::r=>by
  rw [dh]
  cases hb:(W.testBit k||L.any (Nat.beq k)) with
  | true=>
   rw [cond_true,B5v,D3]
   by_cases e:k=s
   ·subst e;rw [hb];simp
   ·rw [if_neg e]
  | false=>
   rw [cond_false,D3,D3,B5v]
   by_cases e:k=s
   ·subst e;rw [hb];simp
   ·rw [if_neg e,if_neg e]
theorem H4 (F:Fr):fle F F:=fun _ _ h=>h
theorem G6 (H:Hp):hle H H:=fun _ _ h=>h
theorem B8 (F:Fr):fle [] F:=fun s v h=>by simp [lf] at h
theorem A4 (H:Hp):hle [] H:=fun s v h=>by simp [lo] at h
theorem A6 {M F:Fr}{s:Nat}{x:Lf}(h:lf F s=some x)(k:fle M F):fle ((s,x)::M) F:=fun q v hq=>by
 rw [J9] at hq
 split at hq
 ·rename_i e;subst e;cases hq;exact h
 ·exact k q v hq
theorem A1 {M H:Hp}{s:Nat}{x:Ob}(h:lo H s=some x)(k:hle M H):hle ((s,x)::M) H:=fun q v hq=>by
 rw [D3] at hq
 split at hq
 ·rename_i e;subst e;cases hq;exact h
 ·exact k q v hq
theorem H5 {W s:Nat}{F0 F:Fr}{x:Lf}(h:W.testBit s=true)(k:fle (dr W F0) F):fle (dr W F0) ((s,x)::F):=fun q v hq=>by
 have h1:=k q v hq
 rw [B5t] at hq
 rw [J9]
 split
 ·rename_i e;subst e;rw [h] at hq;simp at hq
 ·exact h1
theorem G8 {W s:Nat}{L:List Nat}{H0 H:Hp}{x:Ob}(h:(W.testBit s||L.any (Nat.beq s))=true)(k:hle (dh W L H0) H):hle (dh W L H0) ((s,x)::H):=fun q v hq=>by
 have h1:=k q v hq
 rw [B5v] at hq
 rw [D3]
 split
 ·rename_i e;subst e;rw [h] at hq;simp at hq
 ·exact h1
theorem G7 {s:Nat}{M H:Hp}{x:Ob}(h:lo H s=some x)(k:hle M H):hle M ((s,x)::H):=fun q v hq=>by
 have h1:=k q v hq
 rw [D3]
 split
 ·rename_i e;subst e;rw [h] at h1;exact h1
 ·exact h1
theorem O7 {W:Nat}{F:Fr}:fle (dr W F) F:=fun s v h=>by
 rw [B5t] at h
 split at h
 ·cases h
 ·exact h
theorem O6 {W:Nat}{L:List Nat}{H:Hp}:hle (dh W L H) H:=fun s v h=>by
 rw [B5v] at h
 split at h
 ·cases h
 ·exact h
theorem G3t (A B:Fr)(k:Nat):lf (A++B) k=(lf A k).or (lf B k):=by
 induction A with
 | nil=>simp [lf]
 | cons p r ih=>
  obtain⟨j,x⟩:=p
  rw [List.cons_append,J9,J9]
  split
  ·rfl
  ·exact ih
theorem B5q {A B F:Fr}(h:fle A F)(k:fle B F):fle (A++B) F:=by
 intro q v hq
 rw [G3t] at hq
 cases hx:lf A q with
 | none=>rw [hx,Option.none_or] at hq;exact k q v hq
 | some y=>rw [hx] at hq;cases hq;exact h q _ hx
theorem B5n {A B H:Hp}(h:hle A H)(k:hle B H):hle (A++B) H:=by
 intro q v hq
 rw [Z8] at hq
 cases hx:lo A q with
 | none=>rw [hx,Option.none_or] at hq;exact k q v hq
 | some y=>rw [hx] at hq;cases hq;exact h q _ hx
theorem Rel.le {c:Cx}{n:Nat}{F F':Fr}{H H':Hp}{a:Act}{w:World}(h:Rel c n F H a w)(hf:fle F' F)(hh:hle H' H):Rel c n F' H' a w:=by
 obtain⟨h1,h2,γ,G,hw,hs⟩:=h
 exact⟨h1,h2,γ,G,⟨hw.off,hw.g0,hw.glt,fun k ob hk=>hw.obj k ob (hh k ob hk),fun k ob b hk=>hw.own k ob b (hh k ob hk),fun k k' ob ob' b hk hk'=>hw.dis k k' ob ob' b (hh k ob hk) (hh k' ob' hk'),hw.lnk⟩,fun s x hx=>hs s x (hf s x hx)⟩
section
variable {P : Program}{c : Cx}{n : Nat}{Q : Post}{F F0 : Fr}{H H0 : Hp}{W : Nat}{L : List Nat}
def Rn {ι:Type}(c:Cx)(n W:Nat)(L:List Nat)(F0:Fr)(H0:Hp)(vs:ι→Fr)(os:ι→Hp)(M:ι→Prop)(m:ι→Nat)(x:ι)(Q:Post):Post:=Rnd c n (fun x=>vs x++dr W F0) (fun x=>os x++dh W L H0) M m x Q
theorem X_lp {ι : Type}(W : Nat)(L : List Nat)(vs : ι → Fr)(os : ι → Hp)(M : ι → Prop)(m : ι → Nat)(x : ι){k : Code}(hm : M x)
  (round:∀ x,M x→X P c n k (Rn c n W L F H vs os M m x Q) (vs x++dr W F) (os x++dh W L H))
  (hf:fle (vs x) F:=by(repeat (refine A6 (by first|rfl|simp) ?_));exact B8 _)
  (hh:hle (os x) H:=by(repeat (refine A1 (by first|rfl|simp) ?_));exact A4 _):X P c n (.loop k) Q F H:=by
 intro a w hr b ks cs
 have key:∀ g x a w,m x=g→Rel c n (vs x++dr W F) (os x++dh W L H) a w→M x→
   ∃ e a' w',Q e a' w'∧Arrives P (lone (b.at a (.code k::.inLoop k::ks)) cs w) b ks cs e a' w':=by
  intro g
  induction g using Nat.strongRecOn with
  | _ g ih =>
   intro x a w hg hst hM
   obtain⟨e,a₁,w₁,hq,harr⟩:=round x hM a w hst b (.inLoop k::ks) cs
   cases e with
   | normal=>
    obtain⟨y,hst₁,hM₁,hlt⟩:=hq
    obtain⟨e₂,a₂,w₂,hq₂,harr₂⟩:=ih (m y) (hg▸hlt) y a₁ w₁ rfl hst₁ hM₁
    exact⟨e₂,a₂,w₂,hq₂,.of_steps (Steps.trans harr (.one step_inLoop)) harr₂⟩
   | exit id=>exact⟨_,a₁,w₁,hq,.pass (x:=.inLoop k) rfl (fun _ _=>.inl (by simp)) harr⟩
   | goto l=>exact⟨_,a₁,w₁,hq,.pass (x:=.inLoop k) rfl (fun _ _=>.inl (by simp)) harr⟩
   | ret=>exact⟨_,a₁,w₁,hq,.pass (x:=.inLoop k) rfl (fun _ _=>.inl (by simp)) harr⟩
   | panic ch=>exact⟨_,a₁,w₁,hq,.pass (x:=.inLoop k) rfl (fun _ _=>.inl (by simp)) harr⟩
   | outgrown=>exact⟨_,a₁,w₁,hq,.pass (x:=.inLoop k) rfl (fun _ _=>.inl (by simp)) harr⟩
 obtain⟨e,a',w',hq,harr⟩:=key _ x a w rfl (hr.le (B5q hf O7) (B5n hh O6)) hm
 exact⟨e,a',w',hq,.of_steps (.one step_loop) harr⟩
theorem A0 {ι:Type}{vs:ι→Fr}{os:ι→Hp}{M:ι→Prop}{m:ι→Nat}{x:ι}(y:ι)(hm:M y)(hlt:m y<m x)
  (hf:fle (vs y) F:=by(repeat (refine A6 (by first|rfl|simp) ?_));exact B8 _)
  (hh:hle (os y) H:=by(repeat (refine A1 (by first|rfl|simp) ?_));exact A4 _)
  (hf':fle (dr W F0) F:=by(repeat (refine H5 rfl ?_));exact H4 _)
  (hh':hle (dh W L H0) H:=by(repeat (first|refine G8 rfl ?_|refine G7 rfl ?_));exact G6 _):XK c n (Rn c n W L F0 H0 vs os M m x Q) .normal F H:=
 fun _ _ hr=>⟨y,hr.le (B5q hf hf') (B5n hh hh'),hm,hlt⟩
theorem B4a {ι:Type}{vs:ι→Fr}{os:ι→Hp}{M:ι→Prop}{m:ι→Nat}{x:ι}(h:XK c n Q .ret F H):XK c n (Rn c n W L F0 H0 vs os M m x Q) .ret F H:=h
theorem B0j {ι:Type}{vs:ι→Fr}{os:ι→Hp}{M:ι→Prop}{m:ι→Nat}{x:ι}{id:Nat}(h:XK c n Q (.exit id) F H):XK c n (Rn c n W L F0 H0 vs os M m x Q) (.exit id) F H:=h
end
end Go.Dl
