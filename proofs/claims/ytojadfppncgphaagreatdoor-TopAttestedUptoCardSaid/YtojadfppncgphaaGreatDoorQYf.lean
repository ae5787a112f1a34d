/- Own text. -/
import Derived.Test.YtojadfppncgphaaGreatDoorQYe
import Derived.Laws.StructEq
set_option linter.all false
namespace Go.Dl
open Go.RowKit Go.En
section
variable {P : Program}{o : Oper}{F : Fr}{H : Hp}
theorem A5g {G:Nat→Prop}{w:World}{b sz:Nat}:∀ {rows:List (List Dt)} {off:Nat} (k:Nat),DR.rowsR G w b sz off rows→DR.rowsR G w b sz (off+k*sz) (rows.drop k)
 | [],_,k,_=>by rw [List.drop_nil,DR.rowsR];trivial
 | r::rs,off,0,e=>by simpa using e
 | r::rs,off,k+1,e=>by
  rw [DR.rowsR] at e
  have:=A5g k e.2
  rw [List.drop_succ_cons]
  rwa [show off+sz+k*sz=off+(k+1)*sz by rw [Nat.add_mul];omega] at this
theorem A5f {G:Nat→Prop}{w:World}{b sz:Nat}:∀ {rows:List (List Dt)} {off:Nat} (k:Nat),DR.rowsR G w b sz off rows→DR.rowsR G w b sz off (rows.take k)
 | [],_,k,_=>by rw [List.take_nil,DR.rowsR];trivial
 | r::rs,off,0,e=>by rw [List.take_zero,DR.rowsR];trivial
 | r::rs,off,k+1,e=>by
  rw [DR.rowsR] at e
  rw [List.take_succ_cons,DR.rowsR]
  exact⟨e.1,A5f k e.2⟩
theorem B4w {G:Nat→Prop}{w:World}{sz a b:Nat}{rows:List (List Dt)}{p:Option Addr}{cap:Nat}(h:DR G w (.s sz rows) (.slice p rows.length cap))(hab:a≤b)(hb:b≤rows.length):DR G w (.s sz ((rows.take b).drop a)) (.slice (if cap=a then p else p.map (·.add (a*sz))) (b-a) (cap-a)):=by
 rw [DR] at h ⊢
 obtain⟨p',cap',h1,h2,h3,h4⟩:=h
 simp only [Value.slice.injEq,true_and] at h1
 obtain⟨rfl,rfl⟩:=h1
 have hl:((rows.take b).drop a).length=b-a:=by rw [List.length_drop,List.length_take,Nat.min_eq_left hb]
 refine⟨_,_,by rw [hl],by omega,by omega,fun h0=>?_⟩
 rw [hl] at h0
 obtain⟨B,off,rfl,hG,h5⟩:=h4 (by omega)
 have h6:=A5g a (A5f b h5)
 by_cases hc:cap=a
 ·omega
 ·rw [if_neg hc]
  exact⟨B,off+a*sz,by simp [D6],hG,h6⟩
theorem A4b {t e:TypeId}{x p q:Operand}{a b sz:Nat}{kl kh:IntKind}{za zb:Int}{zv:Value}{bytes:Nat}{rows:List (List Dt)}[UT P t (.slice e)][TI P e zv sz bytes](ho:o.op=.slice t x (some p) (some q) none)(hx:ef F x=some (.d (.s sz rows)))
  (hlo:ef F p=some (.d (.v (.int kl za)))) (hhi:ef F q=some (.d (.v (.int kh zb)))) (hza:za=(a:Int)) (hzb:zb=(b:Int)) (hab:a≤b) (hb:b≤rows.length):LS P o F H [] (some (.d (.s sz ((rows.take b).drop a)))) []:=LS_v fun γ G w A ha _=>by
 have hm:∀ y,y=x∨y=p∨y=q→y∈o.op.operands:=fun y hy=>by rw [ho];simpa [Op.operands] using hy
 have h1:=ha x (hm x (.inl rfl)) _ hx
 rw [LR] at h1
 have h0:=h1
 rw [DR] at h0
 obtain⟨P',cap,h2,h3,h4,h5⟩:=h0
 rw [h2] at h1
 have g1:=C5 (a:=A) (hm x (.inl rfl))
 have g2:=C5 (a:=A) (hm p (.inr (.inl rfl)))
 have g3:=C5 (a:=A) (hm q (.inr (.inr rfl)))
 have k2:=ha p (hm p (.inr (.inl rfl))) _ hlo
 have k3:=ha q (hm q (.inr (.inr rfl))) _ hhi
 rw [LR,DR] at k2 k3
 rw [h2] at g1
 rw [k2] at g2
 rw [k3] at g3
 refine⟨_,fun ρ hag=>?_,by rw [LR];exact B4w h1 hab hb⟩
 have r1:=hag.ev (hm x (.inl rfl)) g1
 have r2:=hag.ev (hm p (.inr (.inl rfl))) g2
 have r3:=hag.ev (hm q (.inr (.inr rfl))) g3
 have r4:=G5 (t:=t) (P:=P) w
 have r5:=Go.En.run_sizeOf (P:=P) (t:=e) w
 subst hza;subst hzb
 have hb':b≤cap:=by omega
 simp only [execOp,ho,Instr.sliceAt,Instr.slice,Instr.sliceBounds,Instr.sliceBound,asIntOf,r1,r2,r3,Option.map_some,Option.map_none]
 simp [go_sem,r4,hab,hb',r5]
theorem R3 {t e:TypeId}{x p:Operand}{a sz:Nat}{kl:IntKind}{za:Int}{zv:Value}{bytes:Nat}{rows:List (List Dt)}[UT P t (.slice e)][TI P e zv sz bytes](ho:o.op=.slice t x (some p) none none)(hx:ef F x=some (.d (.s sz rows)))
  (hlo:ef F p=some (.d (.v (.int kl za)))) (hza:za=(a:Int)) (ha':a≤rows.length):LS P o F H [] (some (.d (.s sz (rows.drop a)))) []:=LS_v fun γ G w A ha _=>by
 have hm:∀ y,y=x∨y=p→y∈o.op.operands:=fun y hy=>by rw [ho];simpa [Op.operands] using hy
 have h1:=ha x (hm x (.inl rfl)) _ hx
 rw [LR] at h1
 have h0:=h1
 rw [DR] at h0
 obtain⟨P',cap,h2,h3,h4,h5⟩:=h0
 rw [h2] at h1
 have g1:=C5 (a:=A) (hm x (.inl rfl))
 have g2:=C5 (a:=A) (hm p (.inr rfl))
 have k2:=ha p (hm p (.inr rfl)) _ hlo
 rw [LR,DR] at k2
 rw [h2] at g1
 rw [k2] at g2
 refine⟨_,V4 ho g1 g2 hza ha',?_⟩
 rw [LR]
 have:=B4w h1 ha' (Nat.le_refl _)
 rwa [List.take_length] at this
theorem M2 {t e:TypeId}{x q:Operand}{b sz:Nat}{kh:IntKind}{zb:Int}{zv:Value}{bytes:Nat}{rows:List (List Dt)}[UT P t (.slice e)][TI P e zv sz bytes](ho:o.op=.slice t x none (some q) none)(hx:ef F x=some (.d (.s sz rows)))
  (hhi:ef F q=some (.d (.v (.int kh zb)))) (hzb:zb=(b:Int)) (hb:b≤rows.length):LS P o F H [] (some (.d (.s sz (rows.take b)))) []:=LS_v fun γ G w A ha _=>by
 have hm:∀ y,y=x∨y=q→y∈o.op.operands:=fun y hy=>by rw [ho];simpa [Op.operands] using hy
 have h1:=ha x (hm x (.inl rfl)) _ hx
 rw [LR] at h1
 have h0:=h1
 rw [DR] at h0
 obtain⟨P',cap,h2,h3,h4,h5⟩:=h0
 rw [h2] at h1
 have g1:=C5 (a:=A) (hm x (.inl rfl))
 have g2:=C5 (a:=A) (hm q (.inr rfl))
 have k2:=ha q (hm q (.inr rfl)) _ hhi
 rw [LR,DR] at k2
 rw [h2] at g1
 rw [k2] at g2
 refine⟨_,A5x ho g1 g2 hzb (by omega),?_⟩
 rw [LR]
 have:=B4w h1 (Nat.zero_le b) hb
 simpa [Addr.add] using this
def sc0:Dt→Bool
 | .v _=>true
 | _=>false
def sc1:Dt→Bool
 | .v _=>true
 | .g cs=>cs.all sc0
 | _=>false
def scd:Dt→Bool
 | .v _=>true
 | .g cs=>cs.all sc0
 | .t xs=>xs.all sc1
 | _=>false
theorem D9c {G G':Nat→Prop}{w w':World}{x:Dt}{u:Value}(h:sc0 x=true)(e:DR G w x u):DR G' w' x u:=by
 cases x with
 | v x=>rw [DR] at e ⊢;exact e
 | _=>simp [sc0] at h
theorem A7b {one:Bool}{G G':Nat→Prop}{w w':World}{f:Dt→Bool}(hf:∀ {x:Dt} {u:Value},f x=true→DR G w x u→DR G' w' x u):∀ {xs:List Dt} {us:List Value},xs.all f=true→DR.valsR G w one xs us→DR.valsR G' w' one xs us
 | [],_,_,e=>by rw [DR.valsR] at e ⊢;exact e
 | x::r,_,h,e=>by
  simp only [List.all_cons,Bool.and_eq_true] at h
  rw [DR.valsR] at e ⊢
  obtain⟨u,us,rfl,h2,h3,h4⟩:=e
  exact⟨u,us,rfl,h2,hf h.1 h3,A7b hf h.2 h4⟩
theorem G5g {G G':Nat→Prop}{w w':World}{x:Dt}{u:Value}(h:sc1 x=true)(e:DR G w x u):DR G' w' x u:=by
 cases x with
 | v x=>rw [DR] at e ⊢;exact e
 | g cs=>
  rw [DR] at e ⊢
  obtain⟨vs,h1,h2⟩:=e
  exact⟨vs,h1,A7b D9c h h2⟩
 | _=>simp [sc1] at h
theorem G5f {G G':Nat→Prop}{w w':World}{x:Dt}{u:Value}(h:scd x=true)(e:DR G w x u):DR G' w' x u:=by
 cases x with
 | v x=>rw [DR] at e ⊢;exact e
 | g cs=>
  rw [DR] at e ⊢
  obtain⟨vs,h1,h2⟩:=e
  exact⟨vs,h1,A7b D9c h h2⟩
 | t xs=>
  rw [DR] at e ⊢
  obtain⟨vs,h1,h2⟩:=e
  exact⟨vs,h1,A7b G5g h h2⟩
 | _=>simp [scd] at h
def rdt (H:Hp)(ks:List Nat):Lf→Dt→Prop
 | .o k n,y=>k∈ks∧∃ t sz rows,y=.s sz rows∧lo H k=some (.ls t sz n rows)∧rows.length≤140737488355328
 | x,y=>undt x=some y
def rdts (H:Hp)(ks:List Nat):List Lf→List Dt→Prop
 | [],ys=>ys=[]
 | x::r,ys=>∃ y q,ys=y::q∧rdt H ks x y∧rdts H ks r q
theorem G5k {γ:Gh}{G:Nat→Prop}{w:World}{ks:List Nat}(hw:HW γ G ks H w){x:Lf}{y:Dt}{u:Value}(h:rdt H ks x y)(e:LR γ G w x u):DR (fun b=>G b∨b<w.heap.size) w y u:=by
 have hG:∀ b,G b→(G b∨b<w.heap.size)∧w.heap[b]?=w.heap[b]?:=fun b hb=>⟨.inl hb,rfl⟩
 cases x with
 | o k n=>
  obtain⟨hk,t,sz,rows,rfl,h1,hl⟩:=h
  have hOR:=hw.obj k hk _ h1
  obtain⟨_,vs,h2,h3⟩:=own_sl hOR e
  rw [DR]
  rcases O0 h2 with⟨g1,g2,_⟩|⟨b,cap,g1,g2,_,g4,g6⟩
  ·exact⟨none,0,by rw [g1,g2],by omega,hl,fun h=>absurd h (by omega)⟩
  ·exact⟨_,cap,g1,g2,hl,fun _=>⟨b,0,rfl,.inr g4,A2b hOR.2.1 g6 (G4 hG true _ _ h3)⟩⟩
 | d x=>exact DR.mv hG _ _ (T7 (show undt (.d x)=some y from h) e)
 | p a b c=>exact DR.mv hG _ _ (T7 (show undt (.p a b c)=some y from h) e)
 | m a=>exact DR.mv hG _ _ (T7 (show undt (.m a)=some y from h) e)
 | w a b c d f=>exact DR.mv hG _ _ (T7 (show undt (.w a b c d f)=some y from h) e)
 | f a b=>exact DR.mv hG _ _ (T7 (show undt (.f a b)=some y from h) e)
 | g a=>exact DR.mv hG _ _ (T7 (show undt (.g a)=some y from h) e)
 | t a=>exact DR.mv hG _ _ (T7 (show undt (.t a)=some y from h) e)
theorem C8t {γ:Gh}{G:Nat→Prop}{w:World}{ks:List Nat}(hw:HW γ G ks H w):∀ {xs:List Lf} {ys:List Dt} {us:List Value},rdts H ks xs ys→LR.LsR γ G w false xs us→DR.valsR (fun b=>G b∨b<w.heap.size) w false ys us
 | [],_,_,h,e=>by rw [rdts] at h;subst h;rw [LR.LsR] at e;rw [DR.valsR];exact e
 | x::r,_,_,h,e=>by
  rw [rdts] at h
  obtain⟨y,q,rfl,h1,h2⟩:=h
  rw [LR.LsR] at e
  obtain⟨u,us,rfl,h3,h4,h5⟩:=e
  rw [DR.valsR]
  exact⟨u,us,rfl,h3,G5k hw h1 h4,C8t hw h2 h5⟩
theorem A0v {f:FuncId}{as:List Operand}{ts:Array TypeId}{ys:List Lf}{xs:List Dt}{x:Dt}(ks:List Nat)(ho:o.op=.call { callee:=.value (.func f),args:=as.toArray,argTypes:=ts })(hy:efl F as=some ys)(hu:rdts H ks ys xs)(hs:scd x=true)
  (he:∀ args w,(callFunc f args).run P w=.ok (.enter f args) w) (hc:Fp P f xs x):LS P o F H ks (some (ofd x)) []:=fun γ G w a ha hw K Q hK=>by
 have hL:=A9t (a:=a) hy fun x hx=>ha x (by rw [ho];simp [Op.operands,Call.operands,hx])
 have hD:=C8t hw hu hL
 have hev:evl (LA o a) as=some (as.map a.eval):=by
  have:∀ x∈as,ev (LA o a) x=some (a.eval x):=fun x hx=>C5 (by rw [ho];simp [Op.operands,Call.operands,hx])
  clear ho hy hL hD ha
  induction as with
  | nil=>rfl
  | cons x r ih=>
   rw [evl,this x (List.mem_cons_self ..),ih fun x hx=>this x (List.mem_cons_of_mem _ hx)]
   rfl
 have hen:=D5 (w:=w) ho hev he a.eval (S1 o a)
 unfold Oper.wp
 rw [hen,Oper.upon_enter]
 refine(hc w (fun b=>G b∨b<w.heap.size) _ (fun b hb=>hb.elim (hw.glt b) id) hD).mono ?_
 rintro e w' ⟨v,rfl,hx,hv⟩
 exact hK _ _ _ _ (Evo.ext hw.glt hx fun y hy=>by cases hy;exact A3w (G5f hs hv))
end
end Go.Dl
namespace Go.Dl
open Go.RowKit Go.En Go.MapKept
def mget:List (Ky × Dt)→Ky→Option Dt
 | [],_=>none
 | (k,x)::r,j=>if k=j then some x else mget r j
def mset:List (Ky × Dt)→Ky→Dt→List (Ky × Dt)
 | [],j,y=>[(j,y)]
 | (k,x)::r,j,y=>if k=j then (k,y)::r else (k,x)::mset r j y
def mdel:List (Ky × Dt)→Ky→List (Ky × Dt)
 | [],_=>[]
 | (k,x)::r,j=>if k=j then r else (k,x)::mdel r j
class KtOK (P:Program)(kt:TypeId)(kd:outParam Nat):Prop where
 chk:∀(w:World) (e:Bool) (k:Ky),k.kind=kd→(Instr.checkKey e 10000 kt k.enc).run P w=.ok () w
 find:∀(w:World) (k:Ky),k.kind=kd→∀(l:List MapEntry),(∀ x∈l,∃ j:Ky,j.kind=kd∧x.key=j.enc)→
  ((Instr.findKey kt k.enc l).run P w=.ok none w∧∀ x∈l,x.key≠k.enc)∨∃ i e,(Instr.findKey kt k.enc l).run P w=.ok (some (i,e.val)) w∧l[i]?=some e∧e.key=k.enc
theorem C3y {P:Program}{kt:TypeId}{kd:Nat}{d:TypeDesc}(hd:P.underlying kt=some d)(hk:∀ k:Ky,k.kind=kd→IsKey d k.enc):KtOK P kt kd where
 chk w e k h:=run_checkKey hd (hk k h) e 9999
 find w k h l hl:=by
  rcases findNow_spec (hk k h) l 0 (fun x hx=>by obtain⟨j,h1,h2⟩:=hl x hx;rw [h2];exact hk j h1) with⟨h1,h2⟩|⟨i,e,h1,h2,h3⟩
  ·exact .inl ⟨run_findKey hd h1,h2⟩
  ·rw [Nat.zero_add] at h1
   exact .inr ⟨i,e,run_findKey hd h1,h2,h3⟩
instance ktI {P:Program}{kt:TypeId}[h:UT P kt (.int .i64)]:KtOK P kt 0:=C3y h.u fun k hk=>by cases k <;> simp [Ky.kind] at hk;rfl
instance ktS {P:Program}{kt:TypeId}[h:UT P kt .string]:KtOK P kt 1:=C3y h.u fun k hk=>by cases k <;> simp [Ky.kind] at hk;trivial
section
variable {γ : Gh}{G : Nat → Prop}{w : World}
theorem A3y {kd:Nat}:∀ {es:List (Ky × Dt)} {ms:List MapEntry},MpR γ G w es ms→(∀ e∈es,e.1.kind=kd)→∀ x∈ms,∃ j:Ky,j.kind=kd∧x.key=j.enc
 | [],_,h,_,x,hx=>by rw [MpR] at h;subst h;simp at hx
 | (k,y)::r,_,h,hk,x,hx=>by
  rw [MpR] at h
  obtain⟨e,q,rfl,h1,_,h3⟩:=h
  rcases List.mem_cons.1 hx with rfl|hx
  ·exact⟨k,hk (k,y) (List.mem_cons_self ..),h1⟩
  ·exact A3y h3 (fun e he=>hk e (List.mem_cons_of_mem _ he)) x hx
theorem A7e:∀ {es:List (Ky × Dt)} {ms:List MapEntry} {k:Ky},MpR γ G w es ms→(∀ x∈ms,x.key≠k.enc)→mget es k=none
 | [],_,_,_,_=>rfl
 | (j,y)::r,_,k,h,hn=>by
  rw [MpR] at h
  obtain⟨e,q,rfl,h1,_,h3⟩:=h
  have:j≠k:=fun e1=>hn e (List.mem_cons_self ..) (by rw [h1,e1])
  rw [mget,if_neg this]
  exact A7e h3 fun x hx=>hn x (List.mem_cons_of_mem _ hx)
theorem B5i:∀ {es:List (Ky × Dt)} {ms:List MapEntry} {k:Ky} {i:Nat} {e:MapEntry},MpR γ G w es ms→(ms.map (·.key)).Nodup→ms[i]?=some e→e.key=k.enc→∃ x,mget es k=some x∧DR G w x e.val
 | [],_,_,i,_,h,_,hi,_=>by rw [MpR] at h;subst h;simp at hi
 | (j,y)::r,_,k,i,e,h,hnd,hi,hk=>by
  rw [MpR] at h
  obtain⟨e0,q,rfl,h1,h2,h3⟩:=h
  simp only [List.map_cons,List.nodup_cons] at hnd
  cases i with
  | zero=>
   simp at hi
   subst hi
   have:j=k:=Ky.inj (h1.symm.trans hk)
   exact⟨y,by rw [mget,if_pos this],h2⟩
  | succ i=>
   have hi':q[i]?=some e:=by simpa using hi
   have:j≠k:=fun e1=>hnd.1 (by rw [h1,e1,← hk];exact List.mem_map.2 ⟨e,List.mem_of_getElem? hi',rfl⟩)
   rw [mget,if_neg this]
   exact B5i h3 hnd.2 hi' hk
theorem C3m:∀ {es:List (Ky × Dt)} {ms:List MapEntry} {k:Ky} {x:Dt} {e:MapEntry},MpR γ G w es ms→(∀ m∈ms,m.key≠k.enc)→e.key=k.enc→DR G w x e.val→MpR γ G w (mset es k x) (ms++[e])
 | [],_,k,x,e,h,_,he,hx=>by rw [MpR] at h;subst h;rw [mset,MpR];exact⟨e,[],rfl,he,hx,by rw [MpR]⟩
 | (j,y)::r,_,k,x,e,h,hn,he,hx=>by
  rw [MpR] at h
  obtain⟨e0,q,rfl,h1,h2,h3⟩:=h
  have:j≠k:=fun e1=>hn e0 (List.mem_cons_self ..) (by rw [h1,e1])
  rw [mset,if_neg this,List.cons_append,MpR]
  exact⟨e0,_,rfl,h1,h2,C3m h3 (fun m hm=>hn m (List.mem_cons_of_mem _ hm)) he hx⟩
theorem C9u:∀ {es:List (Ky × Dt)} {ms:List MapEntry} {k:Ky} {x:Dt} {i:Nat} {e:MapEntry} {f:MapEntry→MapEntry},MpR γ G w es ms→(ms.map (·.key)).Nodup→ms[i]?=some e→e.key=k.enc→(f e).key=k.enc→DR G w x (f e).val→MpR γ G w (mset es k x) (ms.set i (f e))
 | [],_,_,_,i,_,_,h,_,hi,_,_,_=>by rw [MpR] at h;subst h;simp at hi
 | (j,y)::r,_,k,x,i,e,f,h,hnd,hi,hk,hf,hx=>by
  rw [MpR] at h
  obtain⟨e0,q,rfl,h1,h2,h3⟩:=h
  simp only [List.map_cons,List.nodup_cons] at hnd
  cases i with
  | zero=>
   simp at hi
   subst hi
   have:j=k:=Ky.inj (h1.symm.trans hk)
   rw [mset,if_pos this,List.set_cons_zero,MpR]
   exact⟨_,_,rfl,by rw [hf,this],hx,h3⟩
  | succ i=>
   have hi':q[i]?=some e:=by simpa using hi
   have:j≠k:=fun e1=>hnd.1 (by rw [h1,e1,← hk];exact List.mem_map.2 ⟨e,List.mem_of_getElem? hi',rfl⟩)
   rw [mset,if_neg this,List.set_cons_succ,MpR]
   exact⟨_,_,rfl,h1,h2,C9u h3 hnd.2 hi' hk hf hx⟩
theorem C9w:∀ {es:List (Ky × Dt)} {ms:List MapEntry} {k:Ky} {i:Nat} {e:MapEntry},MpR γ G w es ms→(ms.map (·.key)).Nodup→ms[i]?=some e→e.key=k.enc→MpR γ G w (mdel es k) (ms.eraseIdx i)
 | [],_,_,i,_,h,_,hi,_=>by rw [MpR] at h;subst h;simp at hi
 | (j,y)::r,_,k,i,e,h,hnd,hi,hk=>by
  rw [MpR] at h
  obtain⟨e0,q,rfl,h1,h2,h3⟩:=h
  simp only [List.map_cons,List.nodup_cons] at hnd
  cases i with
  | zero=>
   simp at hi
   subst hi
   have:j=k:=Ky.inj (h1.symm.trans hk)
   rw [mdel,if_pos this,List.eraseIdx_cons_zero]
   exact h3
  | succ i=>
   have hi':q[i]?=some e:=by simpa using hi
   have:j≠k:=fun e1=>hnd.1 (by rw [h1,e1,← hk];exact List.mem_map.2 ⟨e,List.mem_of_getElem? hi',rfl⟩)
   rw [mdel,if_neg this,List.eraseIdx_cons_succ,MpR]
   exact⟨_,_,rfl,h1,h2,C9w h3 hnd.2 hi' hk⟩
theorem C3n:∀ {es:List (Ky × Dt)} {k:Ky},mget es k=none→mdel es k=es
 | [],_,_=>rfl
 | (j,y)::r,k,h=>by
  rw [mget] at h
  split at h
  ·cases h
  ·rename_i hne
   rw [mdel,if_neg hne,C3n h]
theorem C9v:∀ {es:List (Ky × Dt)} {ms:List MapEntry},MpR γ G w es ms→ms.length=es.length
 | [],_,h=>by rw [MpR] at h;subst h;rfl
 | (j,y)::r,_,h=>by
  rw [MpR] at h
  obtain⟨e0,q,rfl,_,_,h3⟩:=h
  simp [C9v h3]
theorem B2j {kd:Nat}{k:Ky}{x:Dt}(hk:k.kind=kd):∀ {es:List (Ky × Dt)},(∀ e∈es,e.1.kind=kd)→∀ e∈mset es k x,e.1.kind=kd
 | [],_,e,he=>by simp [mset] at he;subst he;exact hk
 | (j,y)::r,h,e,he=>by
  rw [mset] at he
  split at he
  ·rcases List.mem_cons.1 he with rfl|he
   ·exact h (j,y) (List.mem_cons_self ..)
   ·exact h e (List.mem_cons_of_mem _ he)
  ·rcases List.mem_cons.1 he with rfl|he
   ·exact h (j,y) (List.mem_cons_self ..)
   ·exact B2j hk (fun e he=>h e (List.mem_cons_of_mem _ he)) e he
theorem B8c {k:Ky}:∀ {es:List (Ky × Dt)},∀ e∈mdel es k,e∈es
 | [],e,he=>he
 | (j,y)::r,e,he=>by
  rw [mdel] at he
  split at he
  ·exact List.mem_cons_of_mem _ he
  ·rcases List.mem_cons.1 he with rfl|he
   ·exact List.mem_cons_self ..
   ·exact List.mem_cons_of_mem _ (B8c e he)
end
theorem C3o {α:Type}{f:α→α}:∀ {l:List α} {j:Nat} {e:α},l[j]?=some e→l.modify j f=l.set j (f e)
 | [],_,_,h=>by simp at h
 | x::r,0,e,h=>by simp at h;subst h;rfl
 | x::r,j+1,e,h=>by
  have:=C3o (f:=f) (l:=r) (j:=j) (e:=e) (by simpa using h)
  simp [List.modify_succ_cons,this]
theorem D0m (k:Ky):Instr.keyThatStays k.enc k.enc=pure k.enc:=by
 have:Instr.sameBits 10000 k.enc k.enc=true:=by
  cases k with
  | i z=>simp [Ky.enc,Instr.sameBits]
  | s l=>simpa [Ky.enc,Instr.sameBits] using (bytes_beq _ _).2 rfl
  | p a b=>simp [Ky.enc,Instr.sameBits]
 simp [Instr.keyThatStays,this]
def zdt (z:Value):Dt:=match z with | .agg cs=>.g (cs.toList.map fun u=>.v u)|v=>.v v
theorem C2h {G:Nat→Prop}{w:World}:∀ {us:List Value},us.all Value.oneCell'=true→DR.valsR G w true (us.map fun u=>.v u) us
 | [],_=>by rw [List.map_nil,DR.valsR]
 | u::r,h=>by
  simp only [List.all_cons,Bool.and_eq_true] at h
  rw [List.map_cons,DR.valsR]
  exact⟨u,r,rfl,fun _=>h.1,by rw [DR],C2h h.2⟩
theorem D8v {G:Nat→Prop}{w:World}{z:Value}(h:z.cells.toList.all Value.oneCell'=true):DR G w (zdt z) z:=by
 unfold zdt
 split
 ·rename_i cs
  rw [DR]
  exact⟨cs.toList,by simp,C2h (by simpa [Value.cells] using h)⟩
 ·rw [DR]
section
variable {P : Program}{o : Oper}{F : Fr}{H : Hp}
theorem Z6 {t:TypeId}(k kd:Nat)(ho:o.op=.makeMap t none):LS P o F H [] (some (.m k)) [(k,.mp kd [])]:=fun γ G w a ha hw K Q hK=>by
 have hr:(execOp a.eval o).run P w=.ok (.value (.map (some w.heap.size))) (w.alloc (.map #[] 0)):=by simp [execOp,ho,Instr.makeMap,go_sem]
 have hh:=(heap_alloc w (.map #[] 0)).1
 unfold Oper.wp
 rw [hr]
 refine hK _ _ _ _ (Evo.new (p:=(.map (some w.heap.size),0)) (J1 _ _) hw.glt (by simp) ⟨by rw [C3],w.heap.size,#[],0,by rw [C3],hh,stamped_empty 0,by simp,by rw [MpR]⟩ (fun b hb=>?_) fun y hy=>?_)
 ·cases hb;exact⟨Nat.le_refl _,(Array.getElem?_eq_some_iff.1 hh).1⟩
 ·cases hy
  rw [LR,C3]
  exact⟨rfl,fun _=>rfl⟩
theorem A8y {γ:Gh}{G:Nat→Prop}{w:World}{k kd:Nat}{es:List (Ky × Dt)}{u:Value}(h:OR γ G w k (.mp kd es))(hu:LR γ G w (.m k) u):∃ b ms clock,u=.map (some b)∧(γ k).1=.map (some b)∧w.heap[b]?=some (.map ms clock)∧Stamped ms clock∧(∀ e∈es,e.1.kind=kd)∧MpR γ G w es ms.toList:=by
 obtain⟨h1,b,ms,cl,h2,h3,h4,h5,h6⟩:=h
 rw [LR] at hu
 exact⟨b,ms,cl,by rw [hu.2 h1,h2],h2,h3,h4,h5,h6⟩
theorem B0 {t kt et:TypeId}{x i:Operand}{k kd:Nat}{es:List (Ky × Dt)}{y:Lf}{ky:Ky}{z:Value}{size bytes:Nat}{r:Dt}[um:UT P t (.map kt et)][uk:KtOK P kt kd][ti:TI P et z size bytes](ho:o.op=.lookup t x i false)(hx:ef F x=some (.m k))(hk:lo H k=some (.mp kd es))(hi:ef F i=some y)(hy:sv y=some ky.enc)(hkd:ky.kind=kd)(hz:z.cells.toList.all Value.oneCell'=true)(hr:(mget es ky).getD (zdt z)=r) :
  LS P o F H [k] (some (ofd r)) []:=LS_v fun γ G w a ha hw=>by
 have hm1:x∈o.op.operands:=by rw [ho];simp [Op.operands]
 have hm2:i∈o.op.operands:=by rw [ho];simp [Op.operands]
 obtain⟨b,ms,cl,h1,h2,h3,h4,h5,h6⟩:=A8y (hw.obj k (List.mem_singleton.2 rfl) _ hk) (ha x hm1 _ hx)
 have g1:=C5 (a:=a) hm1
 have g2:=C5 (a:=a) hm2
 rw [h1] at g1
 rw [sv_r hy (ha i hm2 _ hi)] at g2
 obtain⟨i0,hi0,hz0,_,_⟩:=Q0 (P:=P) (t:=et) w
 have hz5:(zeroValue et).run P w=.ok z w:=by simp [zeroValue,hi0,hz0]
 have hc:=uk.chk w ms.isEmpty ky hkd
 rcases uk.find w ky hkd ms.toList (A3y h6 h5) with⟨e1,e2⟩|⟨j,e,e1,e2,e3⟩
 ·rw [A7e h6 e2] at hr
  subst hr
  refine⟨z,fun ρ hag=>?_,A3w (D8v hz)⟩
  have r1:=hag.ev hm1 g1
  have r2:=hag.ev hm2 g2
  simp only [execOp,ho,Instr.lookup,r1,r2]
  simp [run_underlying um.u,Go.MapKept.run_getObj_map h3,hc,e1,hz5,Result.andThen]
 ·obtain⟨q,h7,h8⟩:=B5i h6 h4.2.2 e2 e3
  rw [h7] at hr
  subst hr
  refine⟨e.val,fun ρ hag=>?_,A3w h8⟩
  have r1:=hag.ev hm1 g1
  have r2:=hag.ev hm2 g2
  simp only [execOp,ho,Instr.lookup,r1,r2]
  simp [run_underlying um.u,Go.MapKept.run_getObj_map h3,hc,e1,Result.andThen]
theorem A0t {t kt et:TypeId}{x i:Operand}{k kd:Nat}{es:List (Ky × Dt)}{y:Lf}{ky:Ky}{z:Value}{size bytes:Nat}{r:Option Dt}[um:UT P t (.map kt et)][uk:KtOK P kt kd][ti:TI P et z size bytes](ho:o.op=.lookup t x i true)(hx:ef F x=some (.m k))(hk:lo H k=some (.mp kd es))(hi:ef F i=some y)(hy:sv y=some ky.enc)(hkd:ky.kind=kd)(hz:z.cells.toList.all Value.oneCell'=true)(hr:mget es ky=r) :
  LS P o F H [k] (some (.t [ofd (r.getD (zdt z)),.d (.v (.bool r.isSome))])) []:=LS_v fun γ G w a ha hw=>by
 have hm1:x∈o.op.operands:=by rw [ho];simp [Op.operands]
 have hm2:i∈o.op.operands:=by rw [ho];simp [Op.operands]
 obtain⟨b,ms,cl,h1,h2,h3,h4,h5,h6⟩:=A8y (hw.obj k (List.mem_singleton.2 rfl) _ hk) (ha x hm1 _ hx)
 have g1:=C5 (a:=a) hm1
 have g2:=C5 (a:=a) hm2
 rw [h1] at g1
 rw [sv_r hy (ha i hm2 _ hi)] at g2
 obtain⟨i0,hi0,hz0,_,_⟩:=Q0 (P:=P) (t:=et) w
 have hz5:(zeroValue et).run P w=.ok z w:=by simp [zeroValue,hi0,hz0]
 have hc:=uk.chk w ms.isEmpty ky hkd
 have pr:∀(x:Lf) (u:Value) (c:Bool),LR γ G w x u→LR γ G w (.t [x,.d (.v (.bool c))]) (.tuple #[u,.bool c]):=fun x u c h=>by
  rw [LR]
  refine⟨[u,.bool c],rfl,?_⟩
  rw [LR.LsR]
  refine⟨_,_,rfl,fun h=>Bool.noConfusion h,h,?_⟩
  rw [LR.LsR]
  refine⟨_,_,rfl,fun h=>Bool.noConfusion h,by rw [LR,DR],by rw [LR.LsR]⟩
 rcases uk.find w ky hkd ms.toList (A3y h6 h5) with⟨e1,e2⟩|⟨j,e,e1,e2,e3⟩
 ·rw [A7e h6 e2] at hr
  subst hr
  refine⟨.tuple #[z,.bool false],fun ρ hag=>?_,pr _ _ _ (A3w (D8v hz))⟩
  have r1:=hag.ev hm1 g1
  have r2:=hag.ev hm2 g2
  simp only [execOp,ho,Instr.lookup,r1,r2]
  simp [run_underlying um.u,Go.MapKept.run_getObj_map h3,hc,e1,hz5,Result.andThen]
 ·obtain⟨q,h7,h8⟩:=B5i h6 h4.2.2 e2 e3
  rw [h7] at hr
  subst hr
  refine⟨.tuple #[e.val,.bool true],fun ρ hag=>?_,pr _ _ _ (A3w h8)⟩
  have r1:=hag.ev hm1 g1
  have r2:=hag.ev hm2 g2
  simp only [execOp,ho,Instr.lookup,r1,r2]
  simp [run_underlying um.u,Go.MapKept.run_getObj_map h3,hc,e1,Result.andThen]
theorem B5j {t kt et:TypeId}{x:Operand}{k kd m:Nat}{es:List (Ky × Dt)}[um:UT P t (.map kt et)](ho:o.op=.call { callee:=.builtin .len,args:=#[x],argTypes:=#[t] })(hx:ef F x=some (.m k))(hk:lo H k=some (.mp kd es))(hl:es.length=m):LS P o F H [k] (some (.d (.v (int m)))) []:=LS_v fun γ G w a ha hw=>by
 have hm1:x∈o.op.operands:=by rw [ho];simp [Op.operands,Call.operands]
 obtain⟨b,ms,cl,h1,h2,h3,h4,h5,h6⟩:=A8y (hw.obj k (List.mem_singleton.2 rfl) _ hk) (ha x hm1 _ hx)
 have g1:=C5 (a:=a) hm1
 rw [h1] at g1
 refine⟨int m,fun ρ hag=>?_,by rw [LR,DR]⟩
 have r1:=hag.ev hm1 g1
 have hlen:=C9v h6
 rw [Array.length_toList,hl] at hlen
 simp [execOp,ho,resolve,invoke,builtin,Builtin.len_,r1,run_underlying um.u,Go.MapKept.run_getObj_map h3,hlen,go_sem]
theorem N2 {t kt et:TypeId}{x i y:Operand}{k kd:Nat}{es:List (Ky × Dt)}{q r':Lf}{r:Dt}{ky:Ky}[um:UT P t (.map kt et)][uk:KtOK P kt kd](ho:o.op=.mapUpdate t x i y)(hx:ef F x=some (.m k))(hk:lo H k=some (.mp kd es))(hi:ef F i=some q)(hq:sv q=some ky.enc)(hkd:ky.kind=kd)(hy:ef F y=some r')(hr:undt r'=some r) :
  LS P o F H [k] none [(k,.mp kd (mset es ky r))]:=fun γ G w a ha hw K Q hK=>by
 have hm1:x∈o.op.operands:=by rw [ho];simp [Op.operands]
 have hm2:i∈o.op.operands:=by rw [ho];simp [Op.operands]
 have hm3:y∈o.op.operands:=by rw [ho];simp [Op.operands]
 obtain⟨b,ms,cl,h1,h2,h3,h4,h5,h6⟩:=A8y (hw.obj k (List.mem_singleton.2 rfl) _ hk) (ha x hm1 _ hx)
 have r2:=sv_r hq (ha i hm2 _ hi)
 have r3:=T7 hr (ha y hm3 _ hy)
 have hc:=uk.chk w false ky hkd
 have hkb:∀ o':Obj,Kb (some b) w { w with heap:=w.heap.setIfInBounds b o' }:=fun o'=>⟨rfl,rfl,rfl,by simp,fun c hlt hne=>(heap_set h3).2 c (fun e=>hne (by rw [e]))⟩
 have hown:=fun c=>hw.own k (List.mem_singleton.2 rfl) (.mp kd es) c hk
 have hob:oblk γ k (.mp kd es)=some b:=by simp [oblk,h2,blk]
 have hnb:=hown b hob
 have hG:∀(o':Obj),∀ c,G c→G c∧({ w with heap:=w.heap.setIfInBounds b o' }:World).heap[c]?=w.heap[c]?:=fun o' c hc=>⟨hc,World.grownBy.block (hkb o') c (hw.glt c hc) fun e=>hnb.2 (by cases e;exact hc)⟩
 have fin:∀ ms' cl',Stamped ms' cl'→MpR γ G w (mset es ky r) ms'.toList→Evo γ G w H [k] [(k,.mp kd (mset es ky r))] none undef (upg γ k (γ k)) G { w with heap:=w.heap.setIfInBounds b (.map ms' cl') }:=fun ms' cl' hs hR=>
  Evo.chg (b0:=some b) (hkb _) hw.glt (List.mem_singleton.2 rfl) hk hob.symm (.inl rfl) ⟨by rw [C3];exact(hw.obj k (List.mem_singleton.2 rfl) _ hk).1,b,ms',cl',by rw [C3];exact h2,(heap_set h3).1,hs,B2j hkd h5,MpR.mv (hG _) hR⟩ (fun c hc=>by cases hc;exact⟨hnb.2,hnb.1⟩) (fun c hc=>by rw [h2] at hc;cases hc;exact .inl rfl) (fun _ h=>by cases h)
 rcases uk.find w ky hkd ms.toList (A3y h6 h5) with⟨e1,e2⟩|⟨j,e,e1,e2,e3⟩
 ·have hr:(execOp a.eval o).run P w=.ok .skip { w with heap:=w.heap.setIfInBounds b (.map (ms.push { key:=ky.enc,val:=a.eval y,born:=cl }) (cl+1)) }:=by
   simp only [execOp,ho,h1,r2]
   simp [Instr.mapUpdate,run_underlying um.u,Go.MapKept.run_getObj_map h3,hc,e1,Go.MapKept.run_setObj_map _ h3,Result.andThen]
  unfold Oper.wp
  rw [hr]
  refine hK undef _ _ _ (fin _ _ (stamped_push h4 e2) ?_)
  rw [Array.toList_push]
  exact C3m h6 e2 rfl r3
 ·have hj:ms[j]?=some e:=by simpa using e2
  have hst:=D0m ky
  have hr:(execOp a.eval o).run P w=.ok .skip { w with heap:=w.heap.setIfInBounds b (.map (ms.modify j fun e=>{ e with key:=ky.enc,val:=a.eval y }) cl) }:=by
   simp only [execOp,ho,h1,r2]
   simp [Instr.mapUpdate,run_underlying um.u,Go.MapKept.run_getObj_map h3,hc,e1,hj,e3,hst,Go.MapKept.run_setObj_map _ h3,Result.andThen]
  unfold Oper.wp
  rw [hr]
  refine hK undef _ _ _ (fin _ _ (stamped_modify h4 _ _ (fun _ _=>rfl) (fun e' _ he'=>by rw [hj] at he';cases he';exact e3.symm)) ?_)
  rw [show(ms.modify j fun e=>{ e with key:=ky.enc,val:=a.eval y }).toList=ms.toList.set j { e with key:=ky.enc,val:=a.eval y } by
   rw [Array.toList_modify]
   exact C3o e2]
  exact C9u (f:=fun e=>{ e with key:=ky.enc,val:=a.eval y }) h6 h4.2.2 e2 e3 rfl r3
theorem B2s {t t' kt et:TypeId}{x i:Operand}{k kd:Nat}{es:List (Ky × Dt)}{q:Lf}{ky:Ky}[um:UT P t (.map kt et)][uk:KtOK P kt kd](ho:o.op=.call { callee:=.builtin .delete,args:=#[x,i],argTypes:=#[t,t'] })(hx:ef F x=some (.m k))(hk:lo H k=some (.mp kd es))(hi:ef F i=some q)(hq:sv q=some ky.enc)(hkd:ky.kind=kd) :
  LS P o F H [k] none [(k,.mp kd (mdel es ky))]:=fun γ G w a ha hw K Q hK=>by
 have hm1:x∈o.op.operands:=by rw [ho];simp [Op.operands,Call.operands]
 have hm2:i∈o.op.operands:=by rw [ho];simp [Op.operands,Call.operands]
 obtain⟨b,ms,cl,h1,h2,h3,h4,h5,h6⟩:=A8y (hw.obj k (List.mem_singleton.2 rfl) _ hk) (ha x hm1 _ hx)
 have r2:=sv_r hq (ha i hm2 _ hi)
 have hc:=uk.chk w ms.isEmpty ky hkd
 have hkb:∀ o':Obj,Kb (some b) w { w with heap:=w.heap.setIfInBounds b o' }:=fun o'=>⟨rfl,rfl,rfl,by simp,fun c hlt hne=>(heap_set h3).2 c (fun e=>hne (by rw [e]))⟩
 have hob:oblk γ k (.mp kd es)=some b:=by simp [oblk,h2,blk]
 have hnb:=hw.own k (List.mem_singleton.2 rfl) (.mp kd es) b hk hob
 have hG:∀(o':Obj),∀ c,G c→G c∧({ w with heap:=w.heap.setIfInBounds b o' }:World).heap[c]?=w.heap[c]?:=fun o' c hc=>⟨hc,World.grownBy.block (hkb o') c (hw.glt c hc) fun e=>hnb.2 (by cases e;exact hc)⟩
 have fin:∀ ms' cl',Stamped ms' cl'→MpR γ G w (mdel es ky) ms'.toList→Evo γ G w H [k] [(k,.mp kd (mdel es ky))] none (.tuple #[]) (upg γ k (γ k)) G { w with heap:=w.heap.setIfInBounds b (.map ms' cl') }:=fun ms' cl' hs hR=>
  Evo.chg (b0:=some b) (hkb _) hw.glt (List.mem_singleton.2 rfl) hk hob.symm (.inl rfl) ⟨by rw [C3];exact(hw.obj k (List.mem_singleton.2 rfl) _ hk).1,b,ms',cl',by rw [C3];exact h2,(heap_set h3).1,hs,fun e he=>h5 e (B8c e he),MpR.mv (hG _) hR⟩ (fun c hc=>by cases hc;exact⟨hnb.2,hnb.1⟩) (fun c hc=>by rw [h2] at hc;cases hc;exact .inl rfl) (fun _ h=>by cases h)
 rcases uk.find w ky hkd ms.toList (A3y h6 h5) with⟨e1,e2⟩|⟨j,e,e1,e2,e3⟩
 ·have hr:(execOp a.eval o).run P w=.ok (.value (.tuple #[])) { w with heap:=w.heap.setIfInBounds b (.map ms cl) }:=by
   simp only [execOp,ho,resolve,invoke,builtin,Sem.run_bind,Sem.run_pure,Result.andThen_ok,List.map_toArray,List.map_cons,List.map_nil,h1,r2]
   simp [Builtin.delete_,run_underlying um.u,Go.MapKept.run_getObj_map h3,hc,e1,Go.MapKept.run_setObj_map _ h3,Result.andThen]
  unfold Oper.wp
  rw [hr]
  refine hK _ _ _ _ (fin _ _ h4 ?_)
  rw [C3n (A7e h6 e2)]
  exact h6
 ·have hr:(execOp a.eval o).run P w=.ok (.value (.tuple #[])) { w with heap:=w.heap.setIfInBounds b (.map (ms.eraseIdxIfInBounds j) cl) }:=by
   simp only [execOp,ho,resolve,invoke,builtin,Sem.run_bind,Sem.run_pure,Result.andThen_ok,List.map_toArray,List.map_cons,List.map_nil,h1,r2]
   simp [Builtin.delete_,run_underlying um.u,Go.MapKept.run_getObj_map h3,hc,e1,Go.MapKept.run_setObj_map _ h3,Result.andThen]
  unfold Oper.wp
  rw [hr]
  refine hK _ _ _ _ (fin _ _ (stamped_erase h4 j) ?_)
  have hlt:j<ms.size:=by have:=(List.getElem?_eq_some_iff.1 e2).1;simpa using this
  rw [show(ms.eraseIdxIfInBounds j).toList=ms.toList.eraseIdx j by simp [Array.eraseIdxIfInBounds,hlt]]
  exact C9w h6 h4.2.2 e2 e3
end
end Go.Dl
namespace Go.En
open Go.RowKit
section
variable {P : Program}{L : List (Nat × Value)}{w : World}{o : Oper}
theorem B4o {t u:TypeId}{x y:Operand}{a b:Int}(ho:o.op=.call { callee:=.builtin .max,args:=#[x,y],argTypes:=#[t,u] })(hx:ev L x=some (int a))(hy:ev L y=some (int b)):Val P L w o (int (if b>a then b else a)):=fun ρ ha=>by
 have h1:=ha.ev (by rw [ho];simp [Op.operands,Call.operands]) hx
 have h2:=ha.ev (by rw [ho];simp [Op.operands,Call.operands]) hy
 simp [execOp,ho,resolve,invoke,builtin,Builtin.max_,Builtin.max2,h1,h2,go_sem]
theorem B4n {t u:TypeId}{x y:Operand}{a b:Int}(ho:o.op=.call { callee:=.builtin .min,args:=#[x,y],argTypes:=#[t,u] })(hx:ev L x=some (int a))(hy:ev L y=some (int b)):Val P L w o (int (if b<a then b else a)):=fun ρ ha=>by
 have h1:=ha.ev (by rw [ho];simp [Op.operands,Call.operands]) hx
 have h2:=ha.ev (by rw [ho];simp [Op.operands,Call.operands]) hy
 simp [execOp,ho,resolve,invoke,builtin,Builtin.min_,Builtin.min2,h1,h2,go_sem]
structure TwoInts (P:Program)(t e:TypeId):Prop where
 st:P.underlying t=some (.struct (P.fieldsOf t))
 hp:P.stoodInHeld t=false
 hg:P.eqGuardType P.depth t=false
 hf:((P.fieldsOf t).toList.map fun f=>(f.name== "_",f.type,f.offset))=[(false,e,0),(false,e,1)]
 he:P.underlying e=some (.int .i64)
theorem M9 {e:TypeId}{xs:Array Value}{off:Nat}{v:Value}(he:P.underlying e=some (.int .i64))(hx:xs[off]?=some v):(part e xs off).run P w=.ok v w:=by
 have h3:(isAgg e).run P w=.ok false w:=by simp [isAgg,run_underlying he]
 simp [part,h3,hx]
theorem A2v {t e : TypeId}(h : TwoInts P t e)(a b c d : Int) : (Op.equalIn 10000 t (.agg #[int a, int b]) (.agg #[int c, int d])).run P w = .ok (decide (a = c) && decide (b = d)) w := by
 rw [run_equalIn_struct w 9999 t _ _ h.st h.hp]
 have hf:=h.hf
 obtain⟨f,g,hl⟩:∃ f g,(P.fieldsOf t).toList=[f,g]:=by
  have:=congrArg List.length hf
  rw [List.length_map] at this
  generalize (P.fieldsOf t).toList=l at this ⊢
  cases l with
  | nil=>simp at this
  | cons f l=>cases l with
   | nil=>simp at this
   | cons g l=>cases l with
    | nil=>exact⟨f,g,rfl⟩
    | cons=>simp at this
 rw [hl] at hf ⊢
 ·
  simp only [List.map_cons,List.map_nil,List.cons.injEq,Prod.mk.injEq,and_true] at hf
  obtain⟨⟨n1,t1,o1⟩,n2,t2,o2⟩:=hf
  have m1:f.name≠ "_" := by simpa using n1
  have m2:g.name≠ "_" := by simpa using n2
  have p1:=fun(xs:Array Value) v (hx:xs[0]?=some v)=>M9 (P:=P) (w:=w) h.he hx
  have p2:=fun(xs:Array Value) v (hx:xs[1]?=some v)=>M9 (P:=P) (w:=w) h.he hx
  have q:=fun x y=>run_equalIn_int (P:=P) w 9998 e .i64 .i64 x y h.he
  simp only [Op.eqFields,t1,o1,t2,o2,m1,m2,ne_eq,not_false_eq_true,if_true,Sem.run_bind]
  rw [p1 _ (int a) rfl]
  simp only [Result.andThen_ok]
  rw [p1 _ (int c) rfl]
  simp only [Result.andThen_ok]
  rw [q]
  simp only [Result.andThen_ok]
  by_cases hac:a=c
  ·subst hac
   simp only [beq_self_eq_true,Bool.not_true,Bool.false_eq_true,if_false,Sem.run_bind]
   rw [p2 _ (int b) rfl]
   simp only [Result.andThen_ok]
   rw [p2 _ (int d) rfl]
   simp only [Result.andThen_ok]
   rw [q]
   simp only [Result.andThen_ok]
   by_cases hbd:b=d
   ·subst hbd;simp
   ·simp [hbd]
  ·simp [hac]
theorem C0j {t e u:TypeId}{x y:Operand}{a b c d:Int}(h:TwoInts P t e)(ho:o.op=.binOp .neq t x y u)(hx:ev L x=some (.agg #[int a,int b]))(hy:ev L y=some (.agg #[int c,int d])):Val P L w o (.bool (!(decide (a=c)&&decide (b=d)))):=fun ρ ha=>by
 have h1:=ha.ev (by rw [ho];simp [Op.operands]) hx
 have h2:=ha.ev (by rw [ho];simp [Op.operands]) hy
 have h3:=run_eqGuard_agg (P:=P) w .neq t x y #[int a,int b] #[int c,int d] h.hg
 have h4:=run_neq_struct (P:=P) w t #[int a,int b] #[int c,int d]
 have h5:=A2v (w:=w) h a b c d
 simp [execOp,ho,h1,h2,h3,h4,h5,go_sem]
theorem C0l {t e u:TypeId}{x y:Operand}{a b c d:Int}(h:TwoInts P t e)(ho:o.op=.binOp .eql t x y u)(hx:ev L x=some (.agg #[int a,int b]))(hy:ev L y=some (.agg #[int c,int d])):Val P L w o (.bool (decide (a=c)&&decide (b=d))):=fun ρ ha=>by
 have h1:=ha.ev (by rw [ho];simp [Op.operands]) hx
 have h2:=ha.ev (by rw [ho];simp [Op.operands]) hy
 have h3:=run_eqGuard_agg (P:=P) w .eql t x y #[int a,int b] #[int c,int d] h.hg
 have h4:=run_eql_struct (P:=P) w t #[int a,int b] #[int c,int d]
 have h5:=A2v (w:=w) h a b c d
 simp [execOp,ho,h1,h2,h3,h4,h5,go_sem]
end
theorem C8p {P:Program}{n:Nat}{L:List (Nat × Value)}{w:World}{fn:Func}{S:Value→World→Prop}{s u:Tmp}{x:Value}{ty:TypeId}{d:TypeDesc}{b off:Nat}{cs:List Value}{z:Value}{size bytes:Nat}[UT P ty d][TI P ty z size bytes](hr:fn.results=#[.cell s ty,.tmp u])
  (hd:K1 d=true) (hv:lk L s=some (.pointer (some ⟨b,off,none⟩))) (hc:At w b off cs) (hl:Nat.beq cs.length size=true) (hx:lk L u=some x) (hs:S (.tuple #[.agg cs.toArray,x]) w):K n (bodyPost P fn (Rt S)) .ret L w:=fun a ha=>by
 refine⟨ha.nod,.tuple #[.agg cs.toArray,x],?_,_,rfl,hs⟩
 have h1:=ha.get s _ hv
 have h2:=ha.get u _ hx
 have h3:=R1 (P:=P) (t:=ty) w
 rw [hd] at h3
 obtain⟨i0,hi0,_,hsz,_⟩:=Q0 (P:=P) (t:=ty) w
 have h4:=run_loadCells_list (P:=P) w ⟨b,off,none⟩ cs (fun j v hv=>by rw [D6];exact hc j v hv)
 rw [Nat.eq_of_beq_eq_true hl] at h4
 unfold loadCells at h4
 simp [results,hr,Array.getD_eq_getD_getElem?,h1,h2,Instr.loadAt,Instr.sureAddr,loadVar,go_sem,h3,sizeOf,hi0,hsz,h4]
end Go.En
