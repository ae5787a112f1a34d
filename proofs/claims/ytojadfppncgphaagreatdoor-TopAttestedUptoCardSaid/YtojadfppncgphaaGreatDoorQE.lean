/- Own text. -/
import Derived.WalkKit
import Derived.WalkSpells
import Derived.WalkLawsBesides
import Derived.Still
import Derived.Lib.TrimUEq
import Derived.KernelRfl
set_option linter.all false
namespace Go.En
theorem Z.{u}{α : Sort u}{a : α} : a = a := rfl
open Go.RowKit
def lk:List (Nat × Value)→Nat→Option Value
 | [],_=>none
 | (k,v)::r,s=>bif Nat.beq k s then some v else lk r s
def ev (L:List (Nat × Value)):Operand→Option Value
 | .tmp t=>lk L t
 | .const v=>some v
 | .global g=>some (.pointer (some ⟨g,0,none⟩))
 | .func f=>some (.func (.func f) #[] #[])
structure St (n:Nat)(L:List (Nat × Value))(a:Act):Prop where
 size:a.tmps.size=n
 nod:a.defers=[]
 get:∀ s v,lk L s=some v→a.tmps[s]?=some v
def pt (d:Option Tmp)(v:Value)(L:List (Nat × Value)):List (Nat × Value):=
 match d with
 | some d=>(d,v)::L
 | none=>L
def okd (n:Nat):Option Tmp→Bool
 | some d=>Nat.ble (d+1) n
 | none=>true
def odst (n:Nat):Option Tmp→Option Nat
 | some d=>bif Nat.ble (d+1) n then some d else none
 | none=>none
theorem D1 {n d:Nat}{x:Option Tmp}(h:odst n x=some d):x=some d∧okd n x=true:=by
 cases x with
 | none=>simp [odst] at h
 | some y=>
  simp only [odst] at h
  cases hb:Nat.ble (y+1) n with
  | true=>rw [hb] at h;simp at h;subst h;exact⟨rfl,hb⟩
  | false=>rw [hb] at h;simp at h
theorem St.put {n : Nat}{L : List (Nat × Value)}{a : Act}(h : St n L a){d : Option Tmp}(hd : okd n d = true)(v : Value) : St n (pt d v L) (a.put d v) := by
 cases d with
 | none=>exact h
 | some d=>
  have hdn:d<n:=Nat.le_of_ble_eq_true hd
  refine⟨by simp [Act.put,h.size],h.nod,fun s u hs=>?_⟩
  simp only [pt,lk] at hs
  simp only [Act.put]
  by_cases e:d=s
  ·subst e
   simp at hs
   subst hs
   rw [Array.getElem?_setIfInBounds_self_of_lt (by rw [h.size];exact hdn)]
  ·rw [Array.getElem?_setIfInBounds_ne e]
   refine h.get s u ?_
   have:Nat.beq d s=false:=by
    cases hb:Nat.beq d s with
    | false=>rfl
    | true=>exact absurd (Nat.eq_of_beq_eq_true hb) e
   simpa [this] using hs
theorem St.ev {n:Nat}{L:List (Nat × Value)}{a:Act}(h:St n L a){x:Operand}{v:Value}(hx:ev L x=some v):a.eval x=v:=by
 cases x with
 | tmp t=>simp only [En.ev] at hx;have:=h.get t v hx;simp [Act.eval,Array.getD_eq_getD_getElem?,this]
 | const u=>simpa [En.ev,Act.eval] using hx
 | global g=>simpa [En.ev,Act.eval] using hx
 | func f=>simpa [En.ev,Act.eval] using hx
def Lsub:List (Nat × Value)→List (Nat × Value)→Prop
 | [],_=>True
 | (s,v)::r,L=>lk L s=some v∧Lsub r L
theorem Lsub.get:∀ {M L:List (Nat × Value)},Lsub M L→∀ s v,lk M s=some v→lk L s=some v
 | [],_,_,_,_,h=>by simp [lk] at h
 | (k,u)::r,L,hs,s,v,h=>by
  simp only [lk] at h
  cases hb:Nat.beq k s with
  | true=>
   rw [hb] at h
   simp at h
   subst h
   have:=Nat.eq_of_beq_eq_true hb
   subst this
   exact hs.1
  | false=>rw [hb] at h;exact Lsub.get hs.2 s v h
theorem St.sub {n:Nat}{L M:List (Nat × Value)}{a:Act}(h:St n L a)(hs:Lsub M L):St n M a:=
 ⟨h.size,h.nod,fun s v hv=>h.get s v (hs.get s v hv)⟩
def Agree (L:List (Nat × Value))(o:Oper)(ρ:Operand→Value):Prop:=∀ x∈o.op.operands,∀ v,ev L x=some v→ρ x=v
def Val (P:Program)(L:List (Nat × Value))(w:World)(o:Oper)(v:Value):Prop:=
 ∀ ρ,Agree L o ρ→(execOp ρ o).run P w=.ok (.value v) w
def Enters (P:Program)(L:List (Nat × Value))(w:World)(o:Oper)(f:FuncId)(args:Array Value):Prop:=
 ∀ ρ,Agree L o ρ→(execOp ρ o).run P w=.ok (.enter f args) w
theorem St.agree {n:Nat}{L:List (Nat × Value)}{a:Act}(h:St n L a)(o:Oper):Agree L o a.eval:=fun _ _ _ hx=>h.ev hx
abbrev Post:=Exit→Act→World→Prop
def E (P:Program)(n:Nat)(c:Code)(Q:Post)(L:List (Nat × Value))(w:World):Prop:=∀ a,St n L a→c.wp P Q a w
def EL (P:Program)(n:Nat)(ops:List Oper)(Q:Post)(l:List Oper)(L:List (Nat × Value))(w:World):Prop:=∀ a,St n L a→wpList P ops.toArray Q l a w
def K (n:Nat)(Q:Post)(e:Exit)(L:List (Nat × Value))(w:World):Prop:=∀ a,St n L a→Q e a w
def Rt (S:Value→World→Prop):Ending→World→Prop:=fun e w'=>∃ v,e=.returned v∧S v w'
section
variable {P : Program}{n : Nat}{Q : Post}{L : List (Nat × Value)}{w : World}{ops : List Oper}{o : Oper}{rest : List Oper}
theorem E.sub {c:Code}{M:List (Nat × Value)}(hs:Lsub M L)(h:E P n c Q M w):E P n c Q L w:=fun a ha=>h a (ha.sub hs)
theorem H8 {id:Nat}{l:List Oper}(h:EL P n l Q l L w):E P n (.region id l.toArray false) Q L w:=
 fun a ha=>wp_region_lit (h a ha)
theorem D4t (h:K n Q .normal L w):EL P n ops Q [] L w:=fun a ha=>wpList_nil (h a ha)
theorem J2 {x y:Code}(h:E P n x (Exit.then (y.wp P Q) Q) L w):E P n (.seq x y) Q L w:=fun a ha=>wp_seq (h a ha)
theorem D4r (h:K n Q .normal L w):E P n .skip Q L w:=fun a ha=>wp_skip (h a ha)
theorem G2y (h:K n Q .ret L w):E P n .ret Q L w:=fun a ha=>wp_ret (h a ha)
theorem D4s {id:Nat}(h:K n Q (.exit id) L w):E P n (.exit id) Q L w:=fun a ha=>wp_exit (h a ha)
theorem C5w {id:Nat}{c:Code}(h:E P n c (Exit.inBlock id Q) L w):E P n (.block id c) Q L w:=fun a ha=>wp_block (h a ha)
theorem C0a {c:Operand}{x y:Code}(hc:ev L c=some (.bool true))(h:E P n x Q L w):E P n (.cond c x y) Q L w:=
 fun a ha=>wp_cond_true (ha.ev hc) (h a ha)
theorem C0b {c:Operand}{x y:Code}(hc:ev L c=some (.bool false))(h:E P n y Q L w):E P n (.cond c x y) Q L w:=
 fun a ha=>wp_cond_false (ha.ev hc) (h a ha)
theorem B0q {y:Code}(h:E P n y Q L w):K n (Exit.then (y.wp P Q) Q) .normal L w:=h
theorem B0p {nx:Act→World→Prop}(h:K n Q .ret L w):K n (Exit.then nx Q) .ret L w:=h
theorem A6y {nx:Act→World→Prop}{id:Nat}(h:K n Q (.exit id) L w):K n (Exit.then nx Q) (.exit id) L w:=h
theorem K_in {id:Nat}(h:K n Q .normal L w):K n (Exit.inBlock id Q) .normal L w:=h
theorem A1k {id:Nat}(h:K n Q .ret L w):K n (Exit.inBlock id Q) .ret L w:=h
theorem B4d {id:Nat}(h:K n Q .normal L w):K n (Exit.inBlock id Q) (.exit id) L w:=fun a ha=>by
 simp only [Exit.inBlock,if_true];exact h a ha
def Mid {ι:Type}(n:Nat)(Lf:ι→List (Nat × Value))(M:ι→World→Prop)(Q:Post):Post:=
 Exit.then (fun a w=>∃ x,St n (Lf x) a∧M x w) Q
def Rnd {ι:Type}(n:Nat)(Lf:ι→List (Nat × Value))(M:ι→World→Prop)(m:ι→Nat)(x:ι)(Q:Post):Post:=
 Exit.then (fun a w=>∃ y,St n (Lf y) a∧M y w∧m y<m x) Q
theorem A0e {ι : Type}(Lf : ι → List (Nat × Value))(M : ι → World → Prop)(m : ι → Nat)(x : ι){c : Code}(hs : Lsub (Lf x) L)(hm : M x w)
  (round:∀ x w,M x w→E P n c (Rnd n Lf M m x Q) (Lf x) w):E P n (.loop c) Q L w:=by
 intro a ha b k cs
 have key:∀ g x a w,m x=g→St n (Lf x) a→M x w→
   ∃ e a' w',Q e a' w'∧Arrives P (lone (b.at a (.code c::.inLoop c::k)) cs w) b k cs e a' w':=by
  intro g
  induction g using Nat.strongRecOn with
  | _ g ih =>
   intro x a w hg hst hM
   obtain⟨e,a₁,w₁,hq,harr⟩:=round x w hM a hst b (.inLoop c::k) cs
   cases e with
   | normal=>
    obtain⟨y,hst₁,hM₁,hlt⟩:=hq
    obtain⟨e₂,a₂,w₂,hq₂,harr₂⟩:=ih (m y) (hg▸hlt) y a₁ w₁ rfl hst₁ hM₁
    exact⟨e₂,a₂,w₂,hq₂,.of_steps (Steps.trans harr (.one step_inLoop)) harr₂⟩
   | exit id=>exact⟨_,a₁,w₁,hq,.pass (x:=.inLoop c) rfl (fun _ _=>.inl (by simp)) harr⟩
   | goto l=>exact⟨_,a₁,w₁,hq,.pass (x:=.inLoop c) rfl (fun _ _=>.inl (by simp)) harr⟩
   | ret=>exact⟨_,a₁,w₁,hq,.pass (x:=.inLoop c) rfl (fun _ _=>.inl (by simp)) harr⟩
   | panic ch=>exact⟨_,a₁,w₁,hq,.pass (x:=.inLoop c) rfl (fun _ _=>.inl (by simp)) harr⟩
   | outgrown=>exact⟨_,a₁,w₁,hq,.pass (x:=.inLoop c) rfl (fun _ _=>.inl (by simp)) harr⟩
 obtain⟨e,a',w',hq,harr⟩:=key _ x a w rfl (ha.sub hs) hm
 exact⟨e,a',w',hq,.of_steps (.one step_loop) harr⟩
theorem A2q {ι:Type}{Lf:ι→List (Nat × Value)}{M:ι→World→Prop}{m:ι→Nat}{x:ι}(y:ι)(hs:Lsub (Lf y) L)(hm:M y w)(hlt:m y<m x):K n (Rnd n Lf M m x Q) .normal L w:=
 fun _ ha=>⟨y,ha.sub hs,hm,hlt⟩
def nthd:List Oper→Nat→Option Tmp
 | [],_=>none
 | o::_,0=>o.dst
 | _::r,j+1=>nthd r j
theorem A3x:∀(l:List Oper) (j:Nat),(l[j]?).bind (·.dst)=nthd l j
 | [],_=>by simp [nthd]
 | o::r,0=>by simp [nthd]
 | o::r,j+1=>by simp [nthd,A3x r j]
theorem C0d {a:Act}(ha:St n L a){j d:Nat}{v:Value}(hj:nthd ops j=some d)(hl:lk L d=some v):yielded ops.toArray a.tmps j=match v with | .bool b=>some b|_=>none:=by
 unfold yielded
 rw [List.getElem?_toArray,A3x,hj,Option.bind_some,ha.get d v hl]
 cases v <;> rfl
def gst (ops : List Oper)(L : List (Nat × Value))(o : Oper) : Option Bool :=
 match o.guard with
 | none=>some true
 | some (j,want)=>
  match nthd ops j with
  | none=>none
  | some d=>
   match lk L d with
   | some (.bool b)=>some (b==want)
   | some _=>some false
   | none=>none
theorem M4 {a : Act}(ha : St n L a){b : Bool}(h : gst ops L o = some b) : Region.wanted o (yielded ops.toArray a.tmps) = b := by
 unfold gst at h
 unfold Region.wanted
 cases hg:o.guard with
 | none=>rw [hg] at h;simpa using h
 | some p=>
  obtain⟨j,want⟩:=p
  rw [hg] at h
  dsimp only at h ⊢
  cases hj:nthd ops j with
  | none=>rw [hj] at h;simp at h
  | some d=>
   rw [hj] at h
   dsimp only at h
   cases hl:lk L d with
   | none=>rw [hl] at h;simp at h
   | some v=>
    rw [hl] at h
    have:=C0d ha hj hl
    rw [this]
    cases v <;> simp at h ⊢ <;> exact h
theorem H1f {d:Nat}(hg:gst ops L o=some false)(hd:odst n o.dst=some d)(k:EL P n ops Q rest ((d,undef)::L) w):EL P n ops Q (o::rest) L w:=
 fun a ha=>wpList_step fun K hK=>by
  rw [M4 ha hg]
  have:=ha.put (D1 hd).2 undef
  rw [(D1 hd).1] at this ⊢
  exact hK _ _ (k _ this)
theorem R6 {d:Nat}{v:Value}{w':World}(hg:gst ops L o=some true)(hd:odst n o.dst=some d)(h:∀ ρ,Agree L o ρ→(execOp ρ o).run P w=.ok (.value v) w')(k:EL P n ops Q rest ((d,v)::L) w'):EL P n ops Q (o::rest) L w:=
 fun a ha=>wpList_step fun K hK=>by
  rw [M4 ha hg,if_pos rfl]
  unfold Oper.wp
  have:=ha.put (D1 hd).2 v
  rw [h a.eval (ha.agree o)]
  refine hK _ _ (k _ ?_)
  rw [(D1 hd).1] at this ⊢
  exact this
theorem C1v {d:Nat}{v:Value}(hg:gst ops L o=some true)(hd:odst n o.dst=some d)(h:Val P L w o v)(k:EL P n ops Q rest ((d,v)::L) w):EL P n ops Q (o::rest) L w:=R6 hg hd h k
theorem D8r {w':World}(hg:gst ops L o=some true)(hd:o.dst=none)(h:∀ ρ,Agree L o ρ→(execOp ρ o).run P w=.ok .skip w')(k:EL P n ops Q rest L w'):EL P n ops Q (o::rest) L w:=
 fun a ha=>wpList_step fun K hK=>by
  rw [M4 ha hg,if_pos rfl]
  unfold Oper.wp
  rw [h a.eval (ha.agree o)]
  refine hK _ _ (k _ ?_)
  rw [hd]
  exact ha
theorem D7 {d:Nat}{f:FuncId}{args:Array Value}{S:Value→World→Prop}(hg:gst ops L o=some true)(hd:odst n o.dst=some d)(h:Enters P L w o f args)(hc:Calls P f args w (Rt S))
  (k:∀ v w',S v w'→EL P n ops Q rest ((d,v)::L) w'):EL P n ops Q (o::rest) L w:=
 fun a ha=>wpList_step fun K hK=>by
  rw [M4 ha hg,if_pos rfl]
  unfold Oper.wp
  rw [h a.eval (ha.agree o),Oper.upon_enter]
  refine hc.mono ?_
  rintro e w' ⟨v,rfl,hs⟩
  have:=ha.put (D1 hd).2 v
  refine hK _ _ (k v w' hs _ ?_)
  rw [(D1 hd).1] at this ⊢
  exact this
def B3x:List Value→Nat→List (Nat × Value)
 | [],_=>[]
 | v::r,k=>(k,v)::B3x r (k+1)
theorem A5s:∀(vs:List Value) (k s:Nat) (v:Value),lk (B3x vs k) s=some v→k≤s∧vs[s-k]?=some v
 | [],_,_,_,h=>by simp [B3x,lk] at h
 | u :: r, k, s, v, h => by
  simp only [B3x,lk] at h
  cases hb:Nat.beq k s with
  | true=>
   rw [hb] at h
   simp at h
   have:=Nat.eq_of_beq_eq_true hb
   subst this
   simp [h]
  | false=>
   rw [hb] at h
   obtain⟨h1,h2⟩:=A5s r (k+1) s v h
   have:s-k=(s-(k+1))+1:=by omega
   exact⟨by omega,by rw [this,List.getElem?_cons_succ];exact h2⟩
theorem G3 {f:FuncId}{fn:Func}{c:Code}{args:List Value}{R:Ending→World→Prop}(hf:P.funcs[f]?=some fn)(hb:fn.body=some c)(hn:fn.ntmps=n)(hle:args.length≤n)
  (h:E P n c (bodyPost P fn R) (B3x args 0) w):Calls P f args.toArray w R:=by
 refine calls_of_wp hf hb (h _ ⟨by simp [hn];omega,rfl,fun s v hs=>?_⟩)
 obtain⟨_,h2⟩:=A5s args 0 s v hs
 have hlt:s<args.length:=by
  have:=(List.getElem?_eq_some_iff.1 (by simpa using h2)).1
  exact this
 rw [Array.getElem?_append_left (by simpa using hlt)]
 simpa using h2
theorem Q1 {fn:Func}{S:Value→World→Prop}{t:Tmp}{v:Value}(hr:fn.results=#[.tmp t])(hv:lk L t=some v)(hs:S v w):K n (bodyPost P fn (Rt S)) .ret L w:=fun a ha=>by
 refine⟨ha.nod,v,?_,v,rfl,hs⟩
 have:=ha.get t v hv
 rw [results_tmp hr]
 simp [Array.getD_eq_getD_getElem?,this]
theorem G5i {fn:Func}{S:Value→World→Prop}{t u:Tmp}{v x:Value}(hr:fn.results=#[.tmp t,.tmp u])(hv:lk L t=some v)(hx:lk L u=some x)(hs:S (.tuple #[v,x]) w):K n (bodyPost P fn (Rt S)) .ret L w:=fun a ha=>by
 refine⟨ha.nod,.tuple #[v,x],?_,_,rfl,hs⟩
 have h1:=ha.get t v hv
 have h2:=ha.get u x hx
 rw [results_tmp2 hr]
 simp [Array.getD_eq_getD_getElem?,h1,h2]
theorem B1v {fn:Func}{R:Ending→World→Prop}(h:K n (bodyPost P fn R) .ret L w):K n (bodyPost P fn R) .normal L w:=h
end
end Go.En
namespace Go.En
open Go.RowKit
class UT (P:Program)(t:TypeId)(d:outParam TypeDesc):Prop where
 u:P.underlying t=some d
class TI (P:Program)(t:TypeId)(z:outParam Value)(size:outParam Nat)(bytes:outParam Nat):Prop where
 i:(P.info? t).map (fun i=>(i.zero,i.size,i.bytes))=some (some z,size,bytes)
class SF (P:Program)(t:TypeId)(f:Nat)(off:outParam Nat)(ft:outParam TypeId):Prop where
 s:∃ fs fd,P.underlying t=some (.struct fs)∧fs[f]?=some fd∧fd.offset=off∧fd.type=ft
def K1:TypeDesc→Bool
 | .struct _=>true
 | .array _ _=>true
 | _=>false
section
variable {P : Program}{L : List (Nat × Value)}{w : World}{o : Oper}
theorem Agree.ev {ρ:Operand→Value}(h:Agree L o ρ){x:Operand}{v:Value}(hm:x∈o.op.operands)(hx:En.ev L x=some v):ρ x=v:=h x hm v hx
theorem Q0 {t:TypeId}{z:Value}{size bytes:Nat}[h:TI P t z size bytes](w:World):∃ i,(typeInfo t).run P w=.ok i w∧i.zero=some z∧i.size=size∧i.bytes=bytes:=by
 obtain⟨i,hi,h1,h2,h3⟩:=info_parts h.i
 exact⟨i,by simp [typeInfo,program,Sem.run,bind,pure,Sem.bind,hi],h1,h2,h3⟩
theorem G5 {t:TypeId}{d:TypeDesc}[h:UT P t d](w:World):(underlying t).run P w=.ok d w:=by
 have:=h.u
 simp [underlying,program,Sem.run,bind,pure,Sem.bind,this]
theorem A7t {x:Operand}{v:Value}(ho:o.op=.move x)(hx:ev L x=some v):Val P L w o v:=fun ρ ha=>by
 have:=ha.ev (by rw [ho];simp [Op.operands]) hx
 simp [execOp,ho,this,pure]
theorem A7v {x:Operand}{v:Value}(ho:o.op=.assign x)(hx:ev L x=some v):Val P L w o v:=fun ρ ha=>by
 have:=ha.ev (by rw [ho];simp [Op.operands]) hx
 simp [execOp,ho,this,pure]
theorem B6q {c x y:Operand}{b:Bool}{v:Value}(ho:o.op=.pick c x y)(hc:ev L c=some (.bool b))(ht:b=true→ev L x=some v)(hf:b=false→ev L y=some v):Val P L w o v:=fun ρ ha=>by
 have h0:=ha.ev (by rw [ho];simp [Op.operands]) hc
 cases b
 ·have h1:=ha.ev (by rw [ho];simp [Op.operands]) (hf rfl)
  simp [execOp,ho,h0,h1,pure,bind,Sem.bind,asBool]
 ·have h1:=ha.ev (by rw [ho];simp [Op.operands]) (ht rfl)
  simp [execOp,ho,h0,h1,pure,bind,Sem.bind,asBool]
theorem A7r {c x y:Operand}{v:Value}(ho:o.op=.pick c x y)(hc:ev L c=some (.bool true))(hx:ev L x=some v):Val P L w o v:=B6q ho hc (fun _=>hx) (fun h=>by cases h)
theorem A7s {c x y:Operand}{v:Value}(ho:o.op=.pick c x y)(hc:ev L c=some (.bool false))(hx:ev L y=some v):Val P L w o v:=B6q ho hc (fun h=>by cases h) (fun _=>hx)
theorem A3i (k:IntKind){z:Int}(h1:k.min≤z)(h2:z≤k.max):k.wrap z=z:=by
 cases k <;> simp [IntKind.min,IntKind.max,IntKind.signed,IntKind.bits] at h1 h2 <;> simp [IntKind.wrap,IntKind.signed,IntKind.bits] <;> omega
theorem C2r {op:BinOp}{t u:TypeId}{x y:Operand}{k:IntKind}{a b:Int}{ρ:Operand→Value}(ho:o.op=.binOp op t x y u)(hx:ρ x=.int k a)(hy:ρ y=.int k b) :
  (execOp ρ o).run P w=((binOp op t (.int k a) (.int k b)) >>= fun v=>pure (Next.value v)).run P w:=by
 simp only [execOp,ho,hx,hy,eqGuard]
 cases op <;> simp [pure,bind,Sem.bind]
theorem P2 {op:BinOp}{t u:TypeId}{x y:Operand}{k:IntKind}{a b z:Int}(ho:o.op=.binOp op t x y u)(hx:ev L x=some (.int k a))(hy:ev L y=some (.int k b))
  (hz:binOp op t (.int k a) (.int k b)=pure (.int k z)):Val P L w o (.int k z):=fun ρ ha=>by
 rw [C2r ho (ha.ev (by rw [ho];simp [Op.operands]) hx) (ha.ev (by rw [ho];simp [Op.operands]) hy),hz]
 rfl
theorem C2j {t u:TypeId}{x y:Operand}{k:IntKind}{a b:Int}(ho:o.op=.binOp .add t x y u)(hx:ev L x=some (.int k a))(hy:ev L y=some (.int k b))(h1:k.min≤a+b)(h2:a+b≤k.max):Val P L w o (.int k (a+b)):=
 P2 ho hx hy (by simp [binOp,Op.intArith,A3i k h1 h2])
theorem D5d {t u:TypeId}{x y:Operand}{k:IntKind}{a b:Int}(ho:o.op=.binOp .sub t x y u)(hx:ev L x=some (.int k a))(hy:ev L y=some (.int k b))(h1:k.min≤a-b)(h2:a-b≤k.max):Val P L w o (.int k (a-b)):=
 P2 ho hx hy (by simp [binOp,Op.intArith,A3i k h1 h2])
theorem D5j {t u:TypeId}{x y:Operand}{k:IntKind}{a b:Int}(ho:o.op=.binOp .mul t x y u)(hx:ev L x=some (.int k a))(hy:ev L y=some (.int k b))(h1:k.min≤a*b)(h2:a*b≤k.max):Val P L w o (.int k (a*b)):=
 P2 ho hx hy (by simp [binOp,Op.intArith,A3i k h1 h2])
theorem D5f {t u:TypeId}{x y:Operand}{k:IntKind}{a b:Int}(ho:o.op=.binOp .quo t x y u)(hx:ev L x=some (.int k a))(hy:ev L y=some (.int k b))(h0:0≤a)(hb:1≤b)(h2:a≤k.max):Val P L w o (.int k (a / b)):=
 P2 ho hx hy (by
  have hq:a.tdiv b=a / b:=by rw [Int.tdiv_eq_ediv_of_nonneg h0]
  have h3:0≤a / b:=Int.ediv_nonneg h0 (by omega)
  have h4:a / b≤a:=Int.ediv_le_self _ h0
  have hm:k.min≤0:=by cases k <;> simp [IntKind.min,IntKind.signed,IntKind.bits]
  have:b≠0:=by omega
  simp [binOp,Op.intDiv,this,hq,A3i k (Int.le_trans hm h3) (Int.le_trans h4 h2)])
theorem D5e {t u:TypeId}{x y:Operand}{k:IntKind}{a b:Int}(ho:o.op=.binOp .rem t x y u)(hx:ev L x=some (.int k a))(hy:ev L y=some (.int k b))(h0:0≤a)(hb:1≤b):Val P L w o (.int k (a % b)):=
 P2 ho hx hy (by
  have:b≠0:=by omega
  simp [binOp,Op.intDiv,this,Int.tmod_eq_emod_of_nonneg h0])
theorem A1n {op:BinOp}{t u:TypeId}{x y:Operand}{k:IntKind}{a b:Int}{r:Bool}(ho:o.op=.binOp op t x y u)(hx:ev L x=some (.int k a))(hy:ev L y=some (.int k b))
  (hz:binOp op t (.int k a) (.int k b)=pure (.bool r)):Val P L w o (.bool r):=fun ρ ha=>by
 rw [C2r ho (ha.ev (by rw [ho];simp [Op.operands]) hx) (ha.ev (by rw [ho];simp [Op.operands]) hy),hz]
 rfl
theorem D5k {t u:TypeId}{x y:Operand}{k:IntKind}{a b:Int}(ho:o.op=.binOp .lss t x y u)(hx:ev L x=some (.int k a))(hy:ev L y=some (.int k b)):Val P L w o (.bool (decide (a<b))):=
 A1n ho hx hy (by
  have:(binOp .lss t (.int k a) (.int k b))=pure (.bool (decide (a<b))):=by simp [binOp,Op.intCmp]
  rw [this])
theorem D5l {t u:TypeId}{x y:Operand}{k:IntKind}{a b:Int}(ho:o.op=.binOp .leq t x y u)(hx:ev L x=some (.int k a))(hy:ev L y=some (.int k b)):Val P L w o (.bool (decide (a≤b))):=
 A1n ho hx hy (by
  have:(binOp .leq t (.int k a) (.int k b))=pure (.bool (decide (a≤b))):=by simp [binOp,Op.intCmp]
  rw [this])
theorem D5m {t u:TypeId}{x y:Operand}{k:IntKind}{a b:Int}(ho:o.op=.binOp .gtr t x y u)(hx:ev L x=some (.int k a))(hy:ev L y=some (.int k b)):Val P L w o (.bool (decide (b<a))):=
 A1n ho hx hy (by
  have:(binOp .gtr t (.int k a) (.int k b))=pure (.bool (decide (b<a))):=by simp [binOp,Op.intCmp]
  rw [this])
theorem C2i {t u:TypeId}{x y:Operand}{k:IntKind}{a b:Int}(ho:o.op=.binOp .geq t x y u)(hx:ev L x=some (.int k a))(hy:ev L y=some (.int k b)):Val P L w o (.bool (decide (b≤a))):=
 A1n ho hx hy (by
  have:(binOp .geq t (.int k a) (.int k b))=pure (.bool (decide (b≤a))):=by simp [binOp,Op.intCmp]
  rw [this])
theorem D5o {t u:TypeId}{x y:Operand}{k:IntKind}{a b:Int}(ho:o.op=.binOp .eql t x y u)(hx:ev L x=some (.int k a))(hy:ev L y=some (.int k b)):Val P L w o (.bool (decide (a=b))):=
 A1n ho hx hy (by
  have:(binOp .eql t (.int k a) (.int k b))=pure (.bool (a==b)):=by simp [binOp,Op.intCmp]
  rw [this];congr 2;first|done|(rw [Bool.eq_iff_iff];simp))
theorem D5h {t u:TypeId}{x y:Operand}{k:IntKind}{a b:Int}(ho:o.op=.binOp .neq t x y u)(hx:ev L x=some (.int k a))(hy:ev L y=some (.int k b)):Val P L w o (.bool (decide (a≠b))):=
 A1n ho hx hy (by
  have:(binOp .neq t (.int k a) (.int k b))=pure (.bool (a != b)):=by simp [binOp,Op.intCmp]
  rw [this];congr 2;first|done|(rw [Bool.eq_iff_iff];simp))
theorem D5g {t:TypeId}{x:Operand}{b:Bool}(ho:o.op=.unOp .not t x)(hx:ev L x=some (.bool b)):Val P L w o (.bool (!b)):=fun ρ ha=>by
 have:=ha.ev (by rw [ho];simp [Op.operands]) hx
 simp [execOp,ho,this,pure,bind,Sem.bind,Op.unary]
end
end Go.En
namespace Go.En
open Go.RowKit
@[reducible] def str (l:List UInt8):Value:=.string ⟨l.toArray⟩
@[reducible] def int (z:Int):Value:=.int .i64 z
def Ext (w w':World):Prop:=Below w.heap.size w w'
theorem Ext.refl (w:World):Ext w w:=Below.refl _ _
theorem Ext.trans {a b c:World}(h:Ext a b)(k:Ext b c):Ext a c:=Below.trans h (Below.mono k h.size)
theorem Ext.size {a b:World}(h:Ext a b):a.heap.size≤b.heap.size:=Below.size h
theorem Ext.block {a b:World}(h:Ext a b){k:Nat}(hk:k<a.heap.size):b.heap[k]?=a.heap[k]?:=Below.block h k hk
theorem Ext.cell {a b:World}(h:Ext a b){p:Addr}{v:Value}(hc:a.cell? p=some v):b.cell? p=some v:=
 (World.cell?_of_block (h.block (World.block_lt_of_cell? _ _ hc))).trans hc
theorem Ext.below {a b:World}(h:Ext a b){B:Nat}(hB:B≤a.heap.size):Below B a b:=Below.mono h hB
def Row (w:World)(b:Nat)(e:TypeId)(cs:List Value):Prop:=w.heap[b]?=some (.cells cs.toArray e (0,0))
def At (w:World)(b off:Nat)(cs:List Value):Prop:=∀ j v,cs[j]?=some v→w.cell? ⟨b,off+j,none⟩=some v
theorem Row.lt {w:World}{b:Nat}{e:TypeId}{cs:List Value}(h:Row w b e cs):b<w.heap.size:=(Array.getElem?_eq_some_iff.1 h).1
theorem Row.cell {w:World}{b:Nat}{e:TypeId}{cs:List Value}(h:Row w b e cs)(j:Nat):w.cell? ⟨b,j,none⟩=cs[j]?:=by
 simp only [Row] at h
 simp [World.cell?,h]
theorem Row.at {w:World}{b:Nat}{e:TypeId}{cs:List Value}(h:Row w b e cs):At w b 0 cs:=fun j v hv=>by rw [Nat.zero_add,h.cell,hv]
theorem Row.ext {w w':World}{b:Nat}{e:TypeId}{cs:List Value}(h:Row w b e cs)(x:Ext w w'):Row w' b e cs:=(x.block h.lt).trans h
theorem At.ext {w w':World}{b off:Nat}{cs:List Value}(h:At w b off cs)(x:Ext w w'):At w' b off cs:=fun j v hv=>x.cell (h j v hv)
theorem At.one {w:World}{b off:Nat}{v:Value}(h:At w b off [v]):w.cell? ⟨b,off,none⟩=some v:=h 0 v rfl
theorem J1 (w:World)(o:Obj):Ext w (w.alloc o):=(Below.refl _ _).alloc (Nat.le_refl _) o
theorem V1 (w:World):Ext w w.drew:=(Below.refl _ _).drew
theorem K4 (w:World)(e:TypeId)(cs:Array Value):Row (w.alloc (.cells cs e)) w.heap.size e cs.toList:=by
 unfold Row;rw [heap_alloc_new]
section
variable {P : Program}{n : Nat}{Q : Post}{L : List (Nat × Value)}{w : World}{ops : List Oper}{o : Oper}{rest : List Oper}
theorem J4 {d:Nat}{t:TypeId}{z:Value}{size bytes:Nat}[TI P t z size bytes](hg:gst ops L o=some true)(ho:o.op=.alloc t)(hd:odst n o.dst=some d)
  (k:∀ b w',Ext w w'→b=w.heap.size→Row w' b t z.cells.toList→EL P n ops Q rest ((d,(.pointer (some ⟨b,0,none⟩)))::L) w'):EL P n ops Q (o::rest) L w:=by
 refine R6 (w':=w.alloc (.cells z.cells t)) hg hd (fun ρ _=>?_) (k _ _ (J1 _ _) Z (K4 _ _ _))
 obtain⟨i,hi,hz,_⟩:=Q0 (P:=P) (t:=t) w
 simp [execOp,ho,Instr.alloc,newVar,newRow,newObj,zeroValue,go_sem,hi,hz]
 rfl
theorem O9 {d:Nat}{t:TypeId}{x:Operand}{v:Value}(hg:gst ops L o=some true)(ho:o.op=.box t x)(hx:ev L x=some v)(hd:odst n o.dst=some d)
  (k:∀ b w',Ext w w'→b=w.heap.size→Row w' b t v.cells.toList→EL P n ops Q rest ((d,(.pointer (some ⟨b,0,none⟩)))::L) w'):EL P n ops Q (o::rest) L w:=by
 refine R6 (w':=w.alloc (.cells v.cells t)) hg hd (fun ρ ha=>?_) (k _ _ (J1 _ _) Z (K4 _ _ _))
 have:=ha.ev (by rw [ho];simp [Op.operands]) hx
 simp [execOp,ho,Instr.box,newVar,newRow,newObj,go_sem,this]
 rfl
end
section
variable {P : Program}{L : List (Nat × Value)}{w : World}{o : Oper}
theorem B6s {t:TypeId}{x:Operand}{l:List UInt8}[UT P t .string](ho:o.op=.call { callee:=.builtin .len,args:=#[x],argTypes:=#[t] })(hx:ev L x=some (str l)):Val P L w o (int l.length):=fun ρ ha=>by
 have:=ha.ev (by rw [ho];simp [Op.operands,Call.operands]) hx
 have h3:=G5 (t:=t) (P:=P) w
 simp [execOp,ho,resolve,invoke,builtin,Builtin.len_,go_sem,this,h3,goInt]
theorem Z2 {t e:TypeId}{x:Operand}{a:Option Addr}{m c:Nat}[UT P t (.slice e)](ho:o.op=.call { callee:=.builtin .len,args:=#[x],argTypes:=#[t] })(hx:ev L x=some (.slice a m c)):Val P L w o (int m):=fun ρ ha=>by
 have:=ha.ev (by rw [ho];simp [Op.operands,Call.operands]) hx
 have h3:=G5 (t:=t) (P:=P) w
 simp [execOp,ho,resolve,invoke,builtin,Builtin.len_,go_sem,this,h3,goInt]
theorem D8 {t:TypeId}{x i:Operand}{l:List UInt8}{k:IntKind}{z:Int}{m:Nat}{c:UInt8}[UT P t .string](ho:o.op=.index t x i)(hx:ev L x=some (str l))(hi:ev L i=some (.int k z))(hz:z=(m:Int))(hc:l[m]?=some c):Val P L w o (.int .u8 c.toNat):=fun ρ ha=>by
 have h1:=ha.ev (by rw [ho];simp [Op.operands]) hx
 have h2:=ha.ev (by rw [ho];simp [Op.operands]) hi
 have h3:=G5 (t:=t) (P:=P) w
 subst hz
 have hm:m<l.length:=(List.getElem?_eq_some_iff.1 hc).1
 have hcc:l[m]=c:=(List.getElem?_eq_some_iff.1 hc).2
 have h4:(ByteArray.mk l.toArray)[m]?=some c:=by
  rw [ByteArray.getElem?_lt' _ _ (by simp [ByteArray.size];exact hm)]
  simp [ByteArray.getElem_eq_getElem_data,hcc]
 simp [execOp,ho,Instr.index,go_sem,h1,h2,h3,asIntOf,h4]
theorem D6 (b off m:Nat):(⟨b,off,none⟩:Addr).add m=⟨b,off+m,none⟩:=by
 unfold Addr.add;split
 ·rename_i h;subst h;rfl
 ·rfl
theorem B7 {t e:TypeId}{x i:Operand}{b off len cap:Nat}{k:IntKind}{z:Int}{m:Nat}{zv:Value}{size bytes:Nat}[UT P t (.slice e)][TI P e zv size bytes](ho:o.op=.indexAddr t x i)
  (hx:ev L x=some (.slice (some ⟨b,off,none⟩) len cap)) (hi:ev L i=some (.int k z)) (hz:z=(m:Int)) (hm:m<len):Val P L w o (.pointer (some ⟨b,off+m*size,none⟩)):=fun ρ ha=>by
 have h1:=ha.ev (by rw [ho];simp [Op.operands]) hx
 have h2:=ha.ev (by rw [ho];simp [Op.operands]) hi
 have h3:=G5 (t:=t) (P:=P) w
 obtain⟨i0,hi0,_,hs,_⟩:=Q0 (P:=P) (t:=e) w
 subst hz
 have h5:(0:Int)≤(m:Int)∧(m:Int)<(len:Int):=by omega
 simp [execOp,ho,Instr.indexAt,go_sem,h1,h2,h3,asIntOf,sizeOf,hi0,hs,hm,D6]
theorem A5y {x:Operand}{i:Nat}{vs:List Value}{v:Value}(ho:o.op=.extract x i)(hx:ev L x=some (.tuple vs.toArray))(hv:vs[i]?=some v):Val P L w o v:=fun ρ ha=>by
 have h1:=ha.ev (by rw [ho];simp [Op.operands]) hx
 simp [execOp,ho,Instr.extract,go_sem,h1,hv]
end
end Go.En
namespace Go.En
open Go.RowKit
section
variable {P : Program}{L : List (Nat × Value)}{w : World}{o : Oper}
theorem R1 {t:TypeId}{d:TypeDesc}[UT P t d](w:World):(isAgg t).run P w=.ok (K1 d) w:=by
 have h3:=G5 (t:=t) (P:=P) w
 unfold isAgg
 rw [Sem.run_bind,h3,Result.andThen_ok]
 cases d <;> rfl
theorem B5 {t:TypeId}{d:TypeDesc}{x:Operand}{a:Addr}{v:Value}[UT P t d](ho:o.op=.load t x)(hd:K1 d=false)(hx:ev L x=some (.pointer (some a)))(hc:w.cell? a=some v):Val P L w o v:=fun ρ ha=>by
 have h1:=ha.ev (by rw [ho];simp [Op.operands]) hx
 have h3:=R1 (P:=P) (t:=t) w
 rw [hd] at h3
 simp [execOp,ho,Instr.loadAt,Instr.sureAddr,loadVar,go_sem,h1,h3,hc]
theorem M8 {t:TypeId}{d:TypeDesc}{x:Operand}{b off:Nat}{cs:List Value}{z:Value}{size bytes:Nat}[UT P t d][TI P t z size bytes](ho:o.op=.load t x)(hd:K1 d=true)(hx:ev L x=some (.pointer (some ⟨b,off,none⟩)))(hc:At w b off cs)(hl:cs.length=size):Val P L w o (.agg cs.toArray):=fun ρ ha=>by
 have h1:=ha.ev (by rw [ho];simp [Op.operands]) hx
 have h3:=R1 (P:=P) (t:=t) w
 rw [hd] at h3
 obtain⟨i0,hi0,_,hs,_⟩:=Q0 (P:=P) (t:=t) w
 have h4:=run_loadCells_list (P:=P) w ⟨b,off,none⟩ cs (fun j v hv=>by rw [D6];exact hc j v hv)
 rw [hl] at h4
 unfold loadCells at h4
 simp [execOp,ho,Instr.loadAt,Instr.sureAddr,loadVar,go_sem,h1,h3,sizeOf,hi0,hs,h4]
theorem W5 {t:TypeId}{x:Operand}{b off f fo:Nat}{ft:TypeId}{z:Value}{size bytes:Nat}[hS:SF P t f fo ft][TI P ft z (size+1) bytes](ho:o.op=.fieldAddr t x f)(hx:ev L x=some (.pointer (some ⟨b,off,none⟩))):Val P L w o (.pointer (some ⟨b,off+fo,none⟩)):=fun ρ ha=>by
 have h1:=ha.ev (by rw [ho];simp [Op.operands]) hx
 obtain⟨fs,fd,hu,hf,h5,h6⟩:=hS.s
 obtain⟨i0,hi0,_,hs,_⟩:=Q0 (P:=P) (t:=ft) w
 have h3:(underlying t).run P w=.ok (.struct fs) w:=by simp [underlying,program,Sem.run,bind,pure,Sem.bind,hu]
 simp [execOp,ho,Instr.fieldAt,Instr.sureAddr,go_sem,h1,h3,hf,fieldPlace,h6,sizeOf,hi0,hs,h5,D6]
theorem C6b {t:TypeId}{x:Operand}{cs:List Value}{f fo:Nat}{ft:TypeId}{d:TypeDesc}{v:Value}[hS:SF P t f fo ft][UT P ft d](ho:o.op=.field t x f)(hd:K1 d=false)(hx:ev L x=some (.agg cs.toArray))(hv:cs[fo]?=some v):Val P L w o v:=fun ρ ha=>by
 have h1:=ha.ev (by rw [ho];simp [Op.operands]) hx
 obtain⟨fs,fd,hu,hf,h5,h6⟩:=hS.s
 have h3:(underlying t).run P w=.ok (.struct fs) w:=by simp [underlying,program,Sem.run,bind,pure,Sem.bind,hu]
 have h4:=R1 (P:=P) (t:=ft) w
 rw [hd] at h4
 simp [execOp,ho,Instr.field,go_sem,h1,h3,hf,part,h6,h4,h5,hv,asAgg]
theorem C0k {t:TypeId}{x:Operand}{cs:List Value}{f fo:Nat}{ft:TypeId}{d:TypeDesc}{z:Value}{size bytes:Nat}[hS:SF P t f fo ft][UT P ft d][TI P ft z size bytes](ho:o.op=.field t x f)(hd:K1 d=true)(hx:ev L x=some (.agg cs.toArray)):Val P L w o (.agg ((cs.drop fo).take size).toArray):=fun ρ ha=>by
 have h1:=ha.ev (by rw [ho];simp [Op.operands]) hx
 obtain⟨fs,fd,hu,hf,h5,h6⟩:=hS.s
 obtain⟨i0,hi0,_,hs,_⟩:=Q0 (P:=P) (t:=ft) w
 have h3:(underlying t).run P w=.ok (.struct fs) w:=by simp [underlying,program,Sem.run,bind,pure,Sem.bind,hu]
 have h4:=R1 (P:=P) (t:=ft) w
 rw [hd] at h4
 simp [execOp,ho,Instr.field,go_sem,h1,h3,hf,part,h6,h4,h5,asAgg,sizeOf,hi0,hs]
theorem Z1 {x:Operand}{a:Addr}(ho:o.op=.nilCheck x)(hx:ev L x=some (.pointer (some a))):Val P L w o (.pointer (some a)):=fun ρ ha=>by
 have h1:=ha.ev (by rw [ho];simp [Op.operands]) hx
 simp [execOp,ho,h1,go_sem]
theorem J5 {fn : Fn}{cap : List Operand}{vs : List Value}(ho : o.op = .makeFunc fn #[] cap.toArray)(hx : cap.map (ev L) = vs.map some) : Val P L w o (.func fn #[] vs.toArray) := fun ρ ha => by
 have h1:cap.map ρ=vs:=by
  have:∀ x∈cap,∀ v,ev L x=some v→ρ x=v:=fun x hm v hv=>ha.ev (by rw [ho];simp [Op.operands,hm]) hv
  clear ho ha
  induction cap generalizing vs with
  | nil=>cases vs with|nil=>rfl|cons _ _=>simp at hx
  | cons c r ih=>
   cases vs with
   | nil=>simp at hx
   | cons v vr=>
    simp only [List.map_cons,List.cons.injEq] at hx ⊢
    exact⟨this c (by simp) v hx.1,ih hx.2 fun x hm v hv=>this x (by simp [hm]) v hv⟩
 simp [execOp,ho,Instr.makeFunc,go_sem,h1]
theorem enters {f : FuncId}{xs : List Operand}{ts : Array TypeId}{vs : List Value}{g : Operand}{cap : List Value}(ho : o.op = .call { callee := .value g, args := xs.toArray, argTypes := ts })
  (hg:ev L g=some (.func (.func f) #[] cap.toArray)) (hx:xs.map (ev L)=vs.map some) (he:∀ args w,(callFunc f args).run P w=.ok (.enter f args) w):Enters P L w o f (vs++cap).toArray:=fun ρ ha=>by
 have hg':=ha.ev (by rw [ho];simp [Op.operands,Call.operands]) hg
 have h1:xs.map ρ=vs:=by
  have:∀ x∈xs,∀ v,ev L x=some v→ρ x=v:=fun x hm v hv=>ha.ev (by rw [ho];simp [Op.operands,Call.operands,hm]) hv
  clear ho ha hg
  induction xs generalizing vs with
  | nil=>cases vs with|nil=>rfl|cons _ _=>simp at hx
  | cons c r ih=>
   cases vs with
   | nil=>simp at hx
   | cons v vr=>
    simp only [List.map_cons,List.cons.injEq] at hx ⊢
    exact⟨this c (by simp) v hx.1,ih hx.2 fun x hm v hv=>this x (by simp [hm]) v hv⟩
 simp [execOp,ho,resolve,go_sem,hg',h1,Deferred.ofValue,invoke,he]
theorem B5s (l:List UInt8)(a b:Nat):(ByteArray.mk l.toArray).extract a b=⟨((l.take b).drop a).toArray⟩:=by
 apply ByteArray.ext
 simp [ByteArray.data_extract,List.extract_eq_take_drop,List.drop_take]
theorem N8 {t:TypeId}{x p q:Operand}{l:List UInt8}{a b:Nat}{kl kh:IntKind}{za zb:Int}[UT P t .string](ho:o.op=.slice t x (some p) (some q) none)(hx:ev L x=some (str l))
  (hlo:ev L p=some (.int kl za)) (hhi:ev L q=some (.int kh zb)) (hza:za=(a:Int)) (hzb:zb=(b:Int)) (hab:a≤b) (hb:b≤l.length):Val P L w o (str ((l.take b).drop a)):=fun ρ ha=>by
 have h1:=ha.ev (by rw [ho];simp [Op.operands]) hx
 have h2:=ha.ev (by rw [ho];simp [Op.operands]) hlo
 have h4:=ha.ev (by rw [ho];simp [Op.operands]) hhi
 have h3:=G5 (t:=t) (P:=P) w
 subst hza;subst hzb
 have h5:(ByteArray.mk l.toArray).size=l.length:=by simp [ByteArray.size]
 have c1:(0:Int)≤(b:Int)∧(b:Int)≤(l.length:Int):=by omega
 have c2:(0:Int)≤(a:Int)∧(a:Int)≤(b:Int):=by omega
 simp [execOp,ho,Instr.sliceAt,Instr.slice,Instr.sliceBounds,Instr.sliceBound,asIntOf,go_sem,h1,h2,h3,h4,h5,hab,hb,B5s]
theorem O2 {t:TypeId}{x p:Operand}{l:List UInt8}{a:Nat}{kl:IntKind}{za:Int}[UT P t .string](ho:o.op=.slice t x (some p) none none)(hx:ev L x=some (str l))
  (hlo:ev L p=some (.int kl za)) (hza:za=(a:Int)) (hab:a≤l.length):Val P L w o (str (l.drop a)):=fun ρ ha=>by
 have h1:=ha.ev (by rw [ho];simp [Op.operands]) hx
 have h2:=ha.ev (by rw [ho];simp [Op.operands]) hlo
 have h3:=G5 (t:=t) (P:=P) w
 subst hza
 have h5:(ByteArray.mk l.toArray).size=l.length:=by simp [ByteArray.size]
 have h6:=B5s l a l.length
 rw [List.take_length] at h6
 simp [execOp,ho,Instr.sliceAt,Instr.slice,Instr.sliceBounds,Instr.sliceBound,asIntOf,go_sem,h1,h2,h3,h5,hab,h6]
theorem A0f {t:TypeId}{x q:Operand}{l:List UInt8}{b:Nat}{kh:IntKind}{zb:Int}[UT P t .string](ho:o.op=.slice t x none (some q) none)(hx:ev L x=some (str l))
  (hhi:ev L q=some (.int kh zb)) (hzb:zb=(b:Int)) (hb:b≤l.length):Val P L w o (str (l.take b)):=fun ρ ha=>by
 have h1:=ha.ev (by rw [ho];simp [Op.operands]) hx
 have h4:=ha.ev (by rw [ho];simp [Op.operands]) hhi
 have h3:=G5 (t:=t) (P:=P) w
 subst hzb
 have h5:(ByteArray.mk l.toArray).size=l.length:=by simp [ByteArray.size]
 have h6:=B5s l 0 b
 simp only [List.drop_zero] at h6
 simp [execOp,ho,Instr.sliceAt,Instr.slice,Instr.sliceBounds,Instr.sliceBound,asIntOf,go_sem,h1,h3,h4,h5,hb,h6]
theorem C0u {op:BinOp}{t u:TypeId}{x y:Operand}{a b:ByteArray}{ρ:Operand→Value}(ho:o.op=.binOp op t x y u)(hx:ρ x=.string a)(hy:ρ y=.string b) :
  (execOp ρ o).run P w=((Op.stringOp op a b) >>= fun v=>pure (Next.value v)).run P w:=by
 simp only [execOp,ho,hx,hy,eqGuard]
 cases op <;> simp [pure,bind,Sem.bind,binOp]
theorem B4m {op:BinOp}{t u:TypeId}{x y:Operand}{a b:List UInt8}{v:Value}(ho:o.op=.binOp op t x y u)(hx:ev L x=some (str a))(hy:ev L y=some (str b))
  (hz:Op.stringOp op ⟨a.toArray⟩ ⟨b.toArray⟩=pure v):Val P L w o v:=fun ρ ha=>by
 rw [C0u ho (ha.ev (by rw [ho];simp [Op.operands]) hx) (ha.ev (by rw [ho];simp [Op.operands]) hy),hz]
 rfl
theorem B6p {t u:TypeId}{x y:Operand}{a b:List UInt8}(ho:o.op=.binOp .eql t x y u)(hx:ev L x=some (str a))(hy:ev L y=some (str b)):Val P L w o (.bool (decide (a=b))):=
 B4m ho hx hy (by simp only [Op.stringOp,ByteArray.toList_mk];congr 2;rw [Bool.eq_iff_iff];simp)
theorem B6n {t u:TypeId}{x y:Operand}{a b:List UInt8}(ho:o.op=.binOp .neq t x y u)(hx:ev L x=some (str a))(hy:ev L y=some (str b)):Val P L w o (.bool (decide (a≠b))):=
 B4m ho hx hy (by simp only [Op.stringOp,ByteArray.toList_mk];congr 2;rw [Bool.eq_iff_iff];simp)
theorem B6o {t u:TypeId}{x y:Operand}{a b:List UInt8}(ho:o.op=.binOp .lss t x y u)(hx:ev L x=some (str a))(hy:ev L y=some (str b)):Val P L w o (.bool (Op.bytesLess a b)):=
 B4m ho hx hy (by simp only [Op.stringOp,ByteArray.toList_mk])
theorem P8 {s d:TypeId}{x:Operand}{k k':IntKind}{a:Int}{ds:TypeDesc}[UT P s ds][UT P d (.int k')](ho:o.op=.convert s d x)(hx:ev L x=some (.int k a))(h1:k'.min≤a)(h2:a≤k'.max):Val P L w o (.int k' a):=fun ρ ha=>by
 have h0:=ha.ev (by rw [ho];simp [Op.operands]) hx
 have h3:=G5 (t:=s) (P:=P) w
 have h4:=G5 (t:=d) (P:=P) w
 simp [execOp,ho,h0,convert,go_sem,h3,h4,Conv.intToInt,A3i k' h1 h2]
end
end Go.En
namespace Go.En
open Go.RowKit
theorem B3k (cs : List Value) : ∀ (k : Nat) (off : Nat) (pre : List Value) (post : Array Value), pre.length = off + k → cs.length ≤ post.size →
  (cs.zipIdx k).foldl (fun(a:Array Value) (p:Value × Nat)=>a.setIfInBounds (off+p.2) p.1) (pre.toArray++post)=(pre++cs++post.toList.drop cs.length).toArray:=by
 induction cs with
 | nil=>intro k off pre post _ _;simp
 | cons c r ih=>
  intro k off pre post hp hl
  simp only [List.zipIdx_cons,List.foldl_cons]
  simp only [List.length_cons] at hl
  obtain⟨pl⟩:=post
  cases pl with
  | nil=>simp at hl
  | cons p0 pr=>
   have h1:(pre.toArray++(p0::pr).toArray).setIfInBounds (off+k) c=(pre++[c]).toArray++pr.toArray:=by
    apply Array.ext'
    simp [← hp]
   rw [h1,ih (k+1) off (pre++[c]) pr.toArray (by simp [hp];omega) (by simp at hl ⊢;omega)]
   simp
theorem D1q (size:Nat)(place:Nat→Option (Nat × Nat))(hp:∀ i,place i=some (i*size,size)):∀(vs:List Value) (k:Nat) (pre:List Value) (post:List Value),
  (∀ v∈vs,v.cells.size=size)→pre.length=k*size→post.length=vs.length*size→
  Instr.fill place (pre++post).toArray ((vs.zipIdx k).map fun p=>(p.2,p.1))=some (pre++(vs.map fun v=>v.cells.toList).flatten).toArray:=by
 intro vs
 induction vs with
 | nil=>intro k pre post _ _ h;simp at h;simp [Instr.fill,h]
 | cons v r ih=>
  intro k pre post hv hpre hpost
  simp only [List.zipIdx_cons,List.map_cons,Instr.fill,hp]
  have h0:=hv v (by simp)
  have hle:size≤post.length:=by rw [hpost];simp [Nat.add_mul]
  rw [if_neg (by simp [h0,hpre];omega)]
  have hc:v.cells.zipIdx.foldl (fun(cs:Array Value) (p:Value × Nat)=>cs.setIfInBounds (k*size+p.2) p.1) (pre++post).toArray=(pre++v.cells.toList++post.drop size).toArray:=by
   have:=B3k v.cells.toList 0 (k*size) pre post.toArray (by simp [hpre]) (by simp [h0];exact hle)
   rw [← Array.foldl_toList,Array.toList_zipIdx]
   simpa [h0] using this
  rw [hc,ih (k+1) (pre++v.cells.toList) (post.drop size) (fun u hu=>hv u (by simp [hu])) (by simp [hpre,h0,Nat.add_mul]) (by simp [hpost,Nat.add_mul])]
  simp
section
variable {P : Program}{n : Nat}{Q : Post}{L : List (Nat × Value)}{w : World}{ops : List Oper}{o : Oper}{rest : List Oper}
theorem run_sizeOf {t:TypeId}{z:Value}{size bytes:Nat}[TI P t z size bytes](w:World):(sizeOf t).run P w=.ok size w:=by
 obtain⟨i,hi,_,hs,_⟩:=Q0 (P:=P) (t:=t) w
 simp [sizeOf,go_sem,hi,hs]
theorem N9 {t:TypeId}{z:Value}{size bytes:Nat}[TI P t z size bytes](w:World):(zeroValue t).run P w=.ok z w:=by
 obtain⟨i,hi,hz,_⟩:=Q0 (P:=P) (t:=t) w
 simp [zeroValue,go_sem,hi,hz]
theorem run_buildSlice {t e:TypeId}{z:Value}{size bytes len:Nat}{vs:List Value}[UT P t (.slice e)][TI P e z size bytes](hv:∀ v∈vs,v.cells.size=size)(hl:vs.length=len)(hsm:len*size≤16777216) :
  (Instr.buildSlice t len (vs.zipIdx.map fun p=>(p.2,p.1)).toArray).run P w=.ok (.slice (some ⟨w.heap.size,0,none⟩) len len) (w.alloc (.cells (vs.map fun v=>v.cells.toList).flatten.toArray e)):=by
 have h3:=G5 (t:=t) (P:=P) w
 have h4:=run_sizeOf (t:=e) (P:=P) w
 have h5:=N9 (t:=e) (P:=P) w
 have hno:¬ (len*size>2 ^ 24):=by omega
 have hf:∀ zero:Array Value,Instr.fill (fun i=>some (i*size,size)) ((Array.range (len*size)).map (zero[· % zero.size]!)) (vs.zipIdx.map fun p=>(p.2,p.1))=some (vs.map fun v=>v.cells.toList).flatten.toArray:=fun zero=>by
  have:=D1q size (fun i=>some (i*size,size)) (fun _=>rfl) vs 0 [] ((Array.range (len*size)).map (zero[· % zero.size]!)).toList hv (by simp) (by simp [hl])
  rw [List.nil_append,List.nil_append,Array.toArray_toList] at this
  exact this
 unfold Instr.buildSlice
 rw [Sem.run_bind,h3,Result.andThen_ok]
 dsimp only
 rw [Sem.run_bind,h4,Result.andThen_ok,if_neg hno]
 by_cases h0:len*size=0
 ·rw [if_pos h0]
  simp only [Sem.run_bind,Sem.run_pure,Result.andThen_ok,hf]
  rfl
 ·rw [if_neg h0]
  simp only [Sem.run_bind,Sem.run_pure,Result.andThen_ok,h5,hf]
  rfl
theorem B0z {d : Nat}{t e : TypeId}{z : Value}{size bytes len : Nat}{ps : List (Nat × Operand)}(vs : List Value)[UT P t (.slice e)][TI P e z size bytes](hg : gst ops L o = some true)(hd : odst n o.dst = some d)(ho : o.op = .buildSlice t len ps.toArray)
  (hps:ps.map (fun p=>(p.1,ev L p.2))=(vs.zipIdx).map fun p=>(p.2,some p.1)) (hv:∀ v∈vs,v.cells.size=size) (hl:vs.length=len) (hsm:len*size≤16777216)
  (k:∀ b w',Ext w w'→b=w.heap.size→Row w' b e (vs.map fun v=>v.cells.toList).flatten→EL P n ops Q rest ((d,(.slice (some ⟨b,0,none⟩) len len))::L) w'):EL P n ops Q (o::rest) L w:=by
 refine R6 (w':=w.alloc (.cells (vs.map fun v=>v.cells.toList).flatten.toArray e)) hg hd (fun ρ ha=>?_) (k _ _ (J1 _ _) Z (K4 _ _ _))
 have hp:(ps.map fun p=>(p.1,ρ p.2))=(vs.zipIdx).map fun p=>(p.2,p.1):=by
  have hx:∀ p∈ps,∀ v,ev L p.2=some v→ρ p.2=v:=fun p hm v hv=>ha.ev (by rw [ho];simp [Op.operands];exact⟨p.1,hm⟩) hv
  clear ho
  generalize 0=j at hps ⊢
  clear hl hv k ha
  induction ps generalizing vs j with
  | nil=>cases vs with|nil=>rfl|cons _ _=>simp at hps
  | cons p r ih=>
   cases vs with
   | nil=>simp at hps
   | cons v vr=>
    simp only [List.map_cons,List.zipIdx_cons,List.cons.injEq,Prod.mk.injEq] at hps ⊢
    exact⟨⟨hps.1.1,hx p (by simp) v hps.1.2⟩,ih vr (fun q hm u hu=>hx q (by simp [hm]) u hu) (j+1) hps.2⟩
 have:=run_buildSlice (P:=P) (t:=t) (w:=w) hv hl hsm
 simp only [execOp,ho,List.map_toArray,hp]
 rw [Sem.run_bind,this]
 rfl
def Kb (g:Option Nat)(w w':World):Prop:=w.grownBy w' g
theorem Kb.at {g:Option Nat}{w w':World}(h:Kb g w w'){b off:Nat}{cs:List Value}(hc:At w b off cs)(hne:some b≠g):At w' b off cs:=fun j v hv=>World.grownBy.cell h (hc j v hv) hne
theorem Kb.row {g:Option Nat}{w w':World}(h:Kb g w w'){b:Nat}{e:TypeId}{cs:List Value}(hc:Row w b e cs)(hne:some b≠g):Row w' b e cs:=(World.grownBy.block h b hc.lt hne).trans hc
theorem Kb.ext {g:Option Nat}{w0 w w':World}(h:Kb g w w')(x:Ext w0 w)(hg:∀ b,g=some b→w0.heap.size≤b):Ext w0 w':=Below.grown x h x.size hg
theorem Kb.size {g:Option Nat}{w w':World}(h:Kb g w w'):w.heap.size≤w'.heap.size:=World.grownBy.size h
theorem Kb.none_ext {w w':World}(h:Kb none w w'):Ext w w':=h.ext (Ext.refl w) (fun _ e=>by cases e)
theorem Ext.kb {w w':World}(h:Ext w w')(g:Option Nat):Kb g w w':=⟨Below.os h,Below.tape h,Below.output h,h.size,fun k hk _=>h.block hk⟩
theorem Z0 {d:Nat}{t e:TypeId}{s x:Operand}{z:Value}{size bytes:Nat}[ut:UT P t (.slice e)][ti:TI P e z size bytes](hg:gst ops L o=some true)(hd:odst n o.dst=some d)(ho:o.op=.call { callee:=.builtin .append,args:=#[s,x],argTypes:=#[t,t] })
  {v:Value} {B m:Nat} {xs:List Value} (hs:ev L s=some v) (hown:w.ownsRow B e size v m xs) {b off q c:Nat} (hx:ev L x=some (.slice (some ⟨b,off,none⟩) q c)) {news:List Value} (hnews:At w b off news) (hl:news.length=q*size)
  (h1:news.all Value.oneCell'=true) (hz:z.cells.size=size) (hsz:0<size) (hmax:(m+q)*bytes≤140737488355328) (hmax':m+q≤9223372036854775807) (hB:B≤w.heap.size)
  (k:∀ v' w',w'.ownsRow B e size v' (m+q) (xs++news)→Kb v.ownBlock w w'→EL P n ops Q rest ((d,v')::L) w'):EL P n ops Q (o::rest) L w:=by
 obtain⟨i0,hi,hz0,hz1,hz2⟩:=info_parts ti.i
 obtain⟨v',w',hr,h2,h3,_⟩:=run_append_own (P:=P) w B t o.type e i0 z size bytes ut.u hi hz0 hz1 hz2 hz hsz v m xs hown ⟨b,off,none⟩ q c news hl (fun j u hu=>by rw [D6];exact hnews j u hu)
  (fun u hu=>List.all_eq_true.1 h1 u hu) (by unfold maxLen;omega) hmax hB
 refine R6 hg hd (fun ρ ha=>?_) (k v' w' h2 h3)
 have a1:=ha.ev (by rw [ho];simp [Op.operands,Call.operands]) hs
 have a2:=ha.ev (by rw [ho];simp [Op.operands,Call.operands]) hx
 simp only [execOp,ho,resolve,invoke,builtin,Sem.run_bind,Sem.run_pure,Result.andThen_ok,List.map_toArray,List.map_cons,List.map_nil,a1,a2,hr]
theorem V3 {t:TypeId}{x y:Operand}{v z:Value}{size bytes:Nat}{b off:Nat}{e:TypeId}{cs:List Value}[TI P t z size bytes](hg:gst ops L o=some true)(hd:o.dst=none)(ho:o.op=.store t x y)
  (hx:ev L x=some (.pointer (some ⟨b,off,none⟩))) (hy:ev L y=some v) (hs:v.cells.size=size) (h1:v.cells.toList.all Value.oneCell'=true) (hr:Row w b e cs) (hl:off+size≤cs.length)
  (k:∀ w',Row w' b e (cs.take off++v.cells.toList++cs.drop (off+size))→Kb (some b) w w'→w'.heap.size=w.heap.size→EL P n ops Q rest L w'):EL P n ops Q (o::rest) L w:=by
 have h:=run_storeCells_at (P:=P) b off e v.cells.toList 0 cs.toArray w hr (by simp [hs];exact hl) (fun u hu=>List.all_eq_true.1 h1 u hu)
 simp only [Nat.add_zero] at h
 refine D8r (w':=w.setRow b (cs.take off++v.cells.toList++cs.drop (off+v.cells.toList.length)).toArray) hg hd (fun ρ ha=>?_) ?_
 ·have a1:=ha.ev (by rw [ho];simp [Op.operands]) hx
  have a2:=ha.ev (by rw [ho];simp [Op.operands]) hy
  have h4:=run_sizeOf (P:=P) (t:=t) w
  simp only [execOp,ho,a1,a2,Instr.storeAt,Instr.sureAddr,storeVar,Sem.run_bind,Sem.run_pure,Result.andThen_ok,h4,hs]
  rw [if_neg (by simp)]
  simp only [h,Result.andThen_ok]
 ·refine k _ ?_ ⟨rfl,rfl,rfl,by simp,fun k hk hne=>setRow_other w b k _ (fun e=>hne (by rw [e]))⟩ (by simp)
  have:=setRow_heap w b cs.toArray (cs.take off++v.cells.toList++cs.drop (off+v.cells.toList.length)).toArray e (0,0) hr
  simp only [Array.length_toList,hs] at this ⊢
  exact this
end
section
variable {P : Program}{n : Nat}{Q : Post}{L : List (Nat × Value)}{w : World}{ops : List Oper}{o : Oper}{rest : List Oper}
theorem B0s {s d e:TypeId}{x:Operand}{b off m c:Nat}{l:List UInt8}[us:UT P s (.slice e)][ue:UT P e (.int .u8)][ud:UT P d .string](ho:o.op=.convert s d x)(hx:ev L x=some (.slice (some ⟨b,off,none⟩) m c))(hm:l.length=m)
  (hc:At w b off (l.map fun b=>.int .u8 b.toNat)):Val P L w o (str l):=fun ρ ha=>by
 have a1:=ha.ev (by rw [ho];simp [Op.operands]) hx
 have h:=run_convert_bytes_back (P:=P) w s d e ⟨b,off,none⟩ c l us.u ue.u ud.u (fun j hj=>by rw [D6];exact hc j _ (by simp [hj]))
 rw [hm] at h
 simp only [execOp,ho,a1,Sem.run_bind,h,Result.andThen_ok]
 rfl
end
section
variable {P : Program}{n : Nat}{Q : Post}{L : List (Nat × Value)}{w : World}{ops : List Oper}{o : Oper}{rest : List Oper}
theorem G5b {d:Nat}{p:Prop}{dp:Decidable p}(hg:gst ops L o=some true)(hd:odst n o.dst=some d)(h:Val P L w o (.bool (@decide p dp)))
  (ht:p→EL P n ops Q rest ((d,(.bool true))::L) w) (hf:¬ p→EL P n ops Q rest ((d,(.bool false))::L) w):EL P n ops Q (o::rest) L w:=by
 by_cases hp:p
 ·exact C1v hg hd (by simpa [hp] using h) (ht hp)
 ·exact C1v hg hd (by simpa [hp] using h) (hf hp)
end
theorem N0 {w w':World}{B:Nat}{e:TypeId}{sz:Nat}{v:Value}{n:Nat}{xs:List Value}(h:w.ownsRow B e sz v n xs)(x:Ext w w'):w'.ownsRow B e sz v n xs:=
 h.kept (x.kb none) (by cases v.ownBlock <;> simp)
theorem A8s {w0 w w':World}{e:TypeId}{sz:Nat}{v:Value}{n:Nat}{xs:List Value}(h:w.ownsRow w0.heap.size e sz v n xs)(x:Ext w0 w)(k:Kb v.ownBlock w w'):Ext w0 w':=
 k.ext x fun b hb=>(h.lt b hb).1
theorem O0 {w:World}{B:Nat}{e:TypeId}{sz:Nat}{v:Value}{n:Nat}{xs:List Value}(h:w.ownsRow B e sz v n xs):(v=.slice none 0 0∧n=0∧xs=[])∨∃ b cap,v=.slice (some ⟨b,0,none⟩) n cap∧n≤cap∧B≤b∧b<w.heap.size∧At w b 0 xs:=by
 rcases h.2 with⟨hv,hn⟩|⟨g,cap,cur,hv,hb,hg,hc,hm,hs,ht⟩
 ·exact .inl ⟨hv,hn,List.length_eq_zero_iff.1 (by rw [h.1,hn,Nat.zero_mul])⟩
 ·refine .inr ⟨g,cap,hv,hc,hb,(Array.getElem?_eq_some_iff.1 hg).1,fun j u hu=>?_⟩
  rw [← ht] at hu
  have hj:j<(cur.toList.take (n*sz)).length:=(List.getElem?_eq_some_iff.1 hu).1
  rw [List.getElem?_take_of_lt (by simp at hj;omega)] at hu
  rw [Nat.zero_add]
  simp [World.cell?,hg]
  simpa using hu
end Go.En
namespace Go.En
open Go.RowKit
inductive Ent where
 | v (x:Value)
 | r (R:Value→World→Prop)
def Ent.sat:Ent→Value→World→Prop
 | .v x,u,_=>u=x
 | .r R,u,w=>R u w
def Ent.mono (w0:World)(t:Ent):Prop:=∀ u w w',Ext w0 w→Ext w w'→t.sat u w→t.sat u w'
def gk:List (Nat × Ent)→Nat→Option Ent
 | [],_=>none
 | (k,t)::r,s=>bif Nat.beq k s then some t else gk r s
def gput (d:Option Tmp)(t:Ent)(G:List (Nat × Ent)):List (Nat × Ent):=
 match d with
 | some d=>(d,t)::G
 | none=>G
def Sats (G:List (Nat × Ent))(a:Act)(w:World):Prop:=∀ s t,gk G s=some t→s<a.tmps.size∧t.sat (a.tmps.getD s undef) w
theorem C4i (k:Nat)(t:Ent)(r:List (Nat × Ent))(s:Nat):gk ((k,t)::r) s=if k=s then some t else gk r s:=by
 simp only [gk]
 by_cases h:k=s
 ·subst h;simp
 ·have:Nat.beq k s=false:=by
   cases hb:Nat.beq k s with
   | false=>rfl
   | true=>exact absurd (Nat.eq_of_beq_eq_true hb) h
  simp [this,h]
def OpC (P : Program)(n : Nat)(ops : List Oper)(w0 : World)(o : Oper)(G : List (Nat × Ent))(T : Ent) : Prop :=
 ∀ a w,Ext w0 w→a.tmps.size=n→a.defers=[]→(∀ s∈o.looksAt ops.toArray,∀ t,gk G s=some t→t.sat (a.tmps.getD s undef) w)→
  if Region.wanted o (yielded ops.toArray a.tmps)=true then ∀ K Q,(∀ v w',T.sat v w'→Ext w w'→K (a.put o.dst v) w')→o.wp P a w K Q else T.sat undef w
def RW (P:Program)(n:Nat)(ops:List Oper)(w0:World)(Q:Post):List Oper→Nat→List (Nat × Ent)→Prop
 | l,0,G=>∀ a w,Ext w0 w→a.tmps.size=n→a.defers=[]→Sats G a w→wpList P ops.toArray Q l a w
 | o::r,m+1,G=>∃ T,T.mono w0∧okd n o.dst=true∧OpC P n ops w0 o G T∧RW P n ops w0 Q r m (gput o.dst T G)
 | [],_+1,_=>False
inductive Rch (ops:List Oper):Nat→Nat→Prop
 | one {i:Nat} {o:Oper} {e:Edge}:ops[i]?=some o→e∈o.after→Region.binds .any e=true→Rch ops i e.on
 | more {i j:Nat} {o:Oper} {e:Edge}:ops[i]?=some o→e∈o.after→Region.binds .any e=true→Rch ops e.on j→Rch ops i j
def Clo (ops:List Oper)(C:Nat→Prop):Prop:=∀ i o,ops[i]?=some o→C i→∀ e∈o.after,Region.binds .any e=true→C e.on
theorem Rch.clo {ops:List Oper}{C:Nat→Prop}(hc:Clo ops C){i j:Nat}(h:Rch ops i j):(∀ o,ops[i]?=some o→∀ e∈o.after,Region.binds .any e=true→C e.on)→C j:=by
 induction h with
 | one ho he hb=>exact fun h=>h _ ho _ he hb
 | more ho he hb _ ih=>exact fun h=>ih fun o' ho' e' he' hb'=>hc _ _ ho' (h _ ho _ he hb) e' he' hb'
def bf1 (acc:List Nat)(o:Oper):Nat:=o.after.toList.foldl (fun s e=>if Region.binds .any e then s ||| 2 ^ e.on ||| acc.getD e.on 0 else s) 0
def bfGo:List Oper→List Nat→List Nat
 | [],acc=>acc
 | o::r,acc=>bfGo r (acc++[bf1 acc o])
def bf (ops:List Oper):List Nat:=bfGo ops []
theorem C5f (acc : List Nat)(j : Nat) : ∀ (l : List Edge) (s : Nat), (l.foldl (fun s e => if Region.binds .any e then s ||| 2 ^ e.on ||| acc.getD e.on 0 else s) s).testBit j = true →
  s.testBit j=true∨∃ e∈l,Region.binds .any e=true∧(e.on=j∨(acc.getD e.on 0).testBit j=true)
 | [],s,h=>.inl h
 | e :: l, s, h => by
  simp only [List.foldl_cons] at h
  rcases C5f acc j l _ h with h1|⟨e',he',hb,h2⟩
  ·by_cases hb:Region.binds .any e=true
   ·rw [if_pos hb,Nat.testBit_or,Nat.testBit_or,Bool.or_eq_true,Bool.or_eq_true,Nat.testBit_two_pow] at h1
    rcases h1 with(h1|h1)|h1
    ·exact .inl h1
    ·exact .inr ⟨e,by simp,hb,.inl (by simpa using h1)⟩
    ·exact .inr ⟨e,by simp,hb,.inr h1⟩
   ·rw [if_neg hb] at h1;exact .inl h1
  ·exact .inr ⟨e',by simp [he'],hb,h2⟩
theorem C5e (ops : List Oper) : ∀ (r : List Oper) (done : List Oper) (acc : List Nat), ops = done ++ r → acc.length = done.length → (∀ k j, (acc.getD k 0).testBit j = true → Rch ops k j) →
  ∀ k j,((bfGo r acc).getD k 0).testBit j=true→Rch ops k j
 | [],_,_,_,_,h=>h
 | o :: r, done, acc, hd, hl, h => by
  simp only [bfGo]
  refine C5e ops r (done++[o]) _ (by simp [hd]) (by simp [hl]) ?_
  intro k j hk
  by_cases hlt:k<acc.length
  ·rw [List.getD_eq_getElem?_getD,List.getElem?_append_left hlt,← List.getD_eq_getElem?_getD] at hk
   exact h k j hk
  ·by_cases he:k=acc.length
   ·subst he
    rw [List.getD_eq_getElem?_getD,List.getElem?_append_right (Nat.le_refl _)] at hk
    simp only [Nat.sub_self,List.getElem?_cons_zero,Option.getD_some] at hk
    have ho:ops[acc.length]?=some o:=by rw [hd,hl,List.getElem?_append_right (Nat.le_refl _)];simp
    rcases C5f acc j _ _ hk with h0|⟨e,he,hb,h2|h2⟩
    ·simp at h0
    ·subst h2;exact .one ho (by simpa using he) hb
    ·exact .more ho (by simpa using he) hb (h _ _ h2)
   ·rw [List.getD_eq_getElem?_getD,List.getElem?_eq_none (by simp;omega)] at hk
    simp at hk
theorem B0d {ops:List Oper}{i j:Nat}(h:((bf ops).getD i 0).testBit j=true):Rch ops i j:=
 C5e ops ops [] [] (by simp) rfl (fun k j hk=>by simp at hk) i j h
def A9z (ops:List Oper):Bool:=ops.zipIdx.all fun p=>p.1.after.toList.all fun e=>!Region.binds .any e||Nat.blt e.on p.2
def A9y (ops : List Oper)(m : Nat) : Bool :=
 let b:=bf ops
 let ds:=(ops.take m).zipIdx
 ds.all fun p=>(p.1.looksAt ops.toArray).all fun s=>ds.all fun q=>
  match q.1.dst with
  | some d=>!(Nat.beq d s)||(if q.2<p.2 then (b.getD p.2 0).testBit q.2 else if p.2<q.2 then (b.getD q.2 0).testBit p.2 else true)
  | none=>true
def C1q (ops:List Oper)(m:Nat):Bool:=
 let ds:=(ops.take m).zipIdx
 ds.all fun p=>ds.all fun q=>Nat.beq p.2 q.2||(match p.1.dst,q.1.dst with|some d,some e=>!(Nat.beq d e)|_,_=>true)
def B5z (ops:List Oper)(m:Nat):Bool:=
 let b:=bf ops
 (List.range ops.length).all fun k=>Nat.blt k m||(List.range k).all fun j=>(b.getD k 0).testBit j
def chk (ops:List Oper)(m:Nat):Bool:=Nat.ble m ops.length&&A9z ops&&A9y ops m&&C1q ops m&&B5z ops m
theorem A3h {α:Type}{l:List α}{i:Nat}{x:α}(h:l[i]?=some x):(x,i)∈l.zipIdx:=by
 rw [List.mk_mem_zipIdx_iff_getElem?];exact h
theorem Y8 {ops:List Oper}(h:A9z ops=true){i:Nat}{o:Oper}(ho:ops[i]?=some o){e:Edge}(he:e∈o.after)(hb:Region.binds .any e=true):e.on<i:=by
 have h1:=List.all_eq_true.1 h _ (A3h ho)
 have h2:=List.all_eq_true.1 h1 e (by simpa using he)
 simp only [hb,Bool.not_true,Bool.false_or] at h2
 exact Nat.le_of_ble_eq_true h2
theorem A3o {α:Type}{l:List α}{m i:Nat}{x:α}(h:l[i]?=some x)(hm:i<m):(l.take m)[i]?=some x:=by rw [List.getElem?_take_of_lt hm];exact h
theorem W0 {ops:List Oper}{m:Nat}(h:A9y ops m=true){i j:Nat}{o q:Oper}(ho:ops[i]?=some o)(hi:i<m)(hq:ops[j]?=some q)(hj:j<m){s:Nat}(hs:s∈o.looksAt ops.toArray)(hd:q.dst=some s) :
  (j<i→Rch ops i j)∧(i<j→Rch ops j i):=by
 have h1:=List.all_eq_true.1 h _ (A3h (A3o ho hi))
 have h2:=List.all_eq_true.1 h1 s hs
 have h3:=List.all_eq_true.1 h2 _ (A3h (A3o hq hj))
 simp only [hd,Nat.beq_refl,Bool.not_true,Bool.false_or] at h3
 refine⟨fun hlt=>?_,fun hlt=>?_⟩
 ·rw [if_pos hlt] at h3;exact B0d h3
 ·rw [if_neg (by omega),if_pos hlt] at h3;exact B0d h3
theorem A2a {ops:List Oper}{m:Nat}(h:C1q ops m=true){i j:Nat}{o q:Oper}(ho:ops[i]?=some o)(hi:i<m)(hq:ops[j]?=some q)(hj:j<m){s:Nat}(h1:o.dst=some s)(h2:q.dst=some s):i=j:=by
 have h3:=List.all_eq_true.1 h _ (A3h (A3o ho hi))
 have h4:=List.all_eq_true.1 h3 _ (A3h (A3o hq hj))
 simp only [h1,h2,Nat.beq_refl,Bool.not_true,Bool.or_false] at h4
 exact Nat.eq_of_beq_eq_true h4
theorem A3e {ops:List Oper}{m:Nat}(h:B5z ops m=true){k j:Nat}(hk:k<ops.length)(hm:m≤k)(hj:j<k):Rch ops k j:=by
 have h1:=List.all_eq_true.1 h k (by simpa using hk)
 have h0:Nat.blt k m=false:=by
  cases hb:Nat.blt k m with
  | false=>rfl
  | true=>have:=Nat.le_of_ble_eq_true hb;omega
 simp only [h0,Bool.false_or] at h1
 exact B0d (List.all_eq_true.1 h1 j (by simpa using hj))
def Gn:List Oper→List (Nat × Ent)→(Nat→Ent)→Nat→List (Nat × Ent)
 | _,G,_,0=>G
 | [],G,_,_+1=>G
 | o::r,G,Ts,k+1=>Gn r (gput o.dst (Ts 0) G) (fun j=>Ts (j+1)) k
theorem D3z {P:Program}{n:Nat}{ops:List Oper}{w0:World}{Q:Post}:∀(l:List Oper) (m:Nat) (G:List (Nat × Ent)),RW P n ops w0 Q l m G→
  ∃ Ts:Nat→Ent,(∀ k<m,∀ o,l[k]?=some o→(Ts k).mono w0∧okd n o.dst=true∧OpC P n ops w0 o (Gn l G Ts k) (Ts k))∧
   (∀ a w,Ext w0 w→a.tmps.size=n→a.defers=[]→Sats (Gn l G Ts m) a w→wpList P ops.toArray Q (l.drop m) a w)
 | l,0,G,h=>⟨fun _=>.v undef,fun k hk=>absurd hk (Nat.not_lt_zero k),by cases l <;> simpa [Gn,RW] using h⟩
 | [],m+1,G,h=>h.elim
 | o::r,m+1,G,⟨T,h1,hok,h2,h3⟩=>by
  obtain⟨Ts,h4,h5⟩:=D3z r m _ h3
  refine⟨fun k=>match k with|0=>T|k+1=>Ts k,fun k hk o' ho'=>?_,h5⟩
  cases k with
  | zero=>simp at ho';subst ho';exact⟨h1,hok,h2⟩
  | succ k=>exact h4 k (by omega) o' (by simpa using ho')
theorem A7j:∀(l:List Oper) (G:List (Nat × Ent)) (Ts:Nat→Ent) (k s:Nat),(∀ j,j<k→∀ o,l[j]?=some o→o.dst≠some s)→gk (Gn l G Ts k) s=gk G s
 | l,G,Ts,0,s,_=>by cases l <;> rfl
 | [],G,_,_+1,_,_=>rfl
 | o :: r, G, Ts, k + 1, s, h => by
  simp only [Gn]
  rw [A7j r _ _ k s fun j hj o' ho'=>h (j+1) (by omega) o' (by simpa using ho')]
  have h0:=h 0 (by omega) o (by simp)
  cases hd:o.dst with
  | none=>rfl
  | some d=>
   rw [hd] at h0
   simp only [gput]
   rw [C4i,if_neg (fun e=>h0 (by rw [e]))]
theorem C5t:∀(l:List Oper) (G:List (Nat × Ent)) (Ts:Nat→Ent) (k s j:Nat) (o:Oper),j<k→l[j]?=some o→o.dst=some s→(∀ j',j<j'→j'<k→∀ o',l[j']?=some o'→o'.dst≠some s)→gk (Gn l G Ts k) s=some (Ts j)
 | _,_,_,0,_,_,_,h,_,_,_=>absurd h (Nat.not_lt_zero _)
 | [],_,_,_+1,_,_,_,_,h,_,_=>by simp at h
 | o::r,G,Ts,k+1,s,0,o',_,ho,hd,hn=>by
  simp at ho;subst ho
  simp only [Gn]
  rw [A7j r _ _ k s fun j hj o' ho'=>hn (j+1) (by omega) (by omega) o' (by simpa using ho')]
  simp only [hd,gput]
  rw [C4i,if_pos rfl]
 | o::r,G,Ts,k+1,s,j+1,o',hj,ho,hd,hn=>by
  simp only [Gn]
  exact C5t r _ (fun j=>Ts (j+1)) k s j o' (by omega) (by simpa using ho) hd fun j' h1 h2 o'' ho''=>hn (j'+1) (by omega) (by omega) o'' (by simpa using ho'')
section
variable {P : Program}{n : Nat}{ops : List Oper}{w0 : World}{Q : Post}{m : Nat}{G0 : List (Nat × Ent)}{Ts : Nat → Ent}
def LsD (listed:Array Bool)(i:Nat):Prop:=listed.getD i false=true
structure Inv (n:Nat)(ops:List Oper)(w0:World)(m:Nat)(G0:List (Nat × Ent))(Ts:Nat→Ent)(listed:Array Bool)(a:Act)(w:World):Prop where
 lsz:listed.size=ops.length
 ext:Ext w0 w
 size:a.tmps.size=n
 nod:a.defers=[]
 clo:Clo ops (LsD listed)
 low:∀ i,LsD listed i→i<m
 new:∀ j o s,j<m→ops[j]?=some o→o.dst=some s→LsD listed j→(Ts j).sat (a.tmps.getD s undef) w
 old:∀ s,(∀ j o,j<m→ops[j]?=some o→o.dst=some s→¬ LsD listed j)→∀ t,gk G0 s=some t→t.sat (a.tmps.getD s undef) w
theorem K2 {listed:Array Bool}(hl:listed.size=ops.length){i:Nat}:i∈Region.ready .any ops.toArray listed↔(¬ LsD listed i∧∃ o,ops[i]?=some o∧∀ e∈o.after,Region.binds .any e=true→LsD listed e.on):=by
 rw [mem_ready]
 constructor
 ·rintro⟨h1,o,ho,h2⟩
  have ho':ops[i]?=some o:=by simpa using ho
  refine⟨fun h=>?_,o,ho',h2⟩
  have hlt:i<listed.size:=by rw [hl];exact(List.getElem?_eq_some_iff.1 ho').1
  unfold LsD at h
  simp [hlt] at h h1
  rw [h] at h1;cases h1
 ·rintro⟨h1,o,ho,h2⟩
  have hlt:i<listed.size:=by rw [hl];exact(List.getElem?_eq_some_iff.1 ho).1
  refine⟨?_,o,by simpa using ho,h2⟩
  unfold LsD at h1
  simp [hlt] at h1 ⊢
  exact h1
theorem A8f (hlow : A9z ops = true)(htail : B5z ops m = true) : ∀ (fuel k : Nat) (listed : Array Bool) (a : Act) (w : World), m ≤ k → k + fuel = ops.length → listed.size = ops.length → (∀ i, LsD listed i ↔ i < k) →
  wpList P ops.toArray Q (ops.drop k) a w→wpAny P .any ops.toArray Q fuel listed a w
 | 0,k,listed,a,w,hk,hf,hl,hp,h=>by
  have hd:ops.drop k=[]:=List.drop_eq_nil_of_le (by omega)
  rw [hd] at h
  refine⟨?_,h⟩
  rw [List.eq_nil_iff_forall_not_mem]
  intro i hi
  obtain⟨h1,o,ho,_⟩:=(K2 hl).1 hi
  have:=(List.getElem?_eq_some_iff.1 ho).1
  exact h1 ((hp i).2 (by omega))
 | fuel+1,k,listed,a,w,hk,hf,hl,hp,h=>by
  have hlt:k<ops.length:=by omega
  have hok:ops[k]?=some ops[k]:=List.getElem?_eq_getElem hlt
  rw [List.drop_eq_getElem_cons hlt] at h
  have hrk:k∈Region.ready .any ops.toArray listed:=(K2 hl).2 ⟨fun h=>by have:=(hp k).1 h;omega,_,hok,fun e he hb=>(hp _).2 (Y8 hlow hok he hb)⟩
  have hclo:Clo ops (LsD listed):=fun i o ho hi e he hb=>(hp _).2 (Nat.lt_trans (Y8 hlow ho he hb) ((hp i).1 hi))
  refine⟨fun h0=>(by rw [h0] at hrk;cases hrk),fun i hi=>?_⟩
  obtain⟨h1,o,ho,h2⟩:=(K2 hl).1 hi
  have hilt:=(List.getElem?_eq_some_iff.1 ho).1
  have hik:i=k:=by
   by_cases hgt:k<i
   ·have:=(A3e htail hilt (by omega) hgt).clo hclo (fun o' ho' e he hb=>by rw [ho] at ho';cases ho';exact h2 e he hb)
    have:=(hp k).1 this;omega
   ·have:¬ i<k:=fun h=>h1 ((hp i).2 h)
    omega
  subst hik
  unfold wpOp
  have hoa:ops.toArray[i]?=some ops[i]:=by simpa using hok
  simp only [hoa]
  have key:∀ a' w',wpList P ops.toArray Q (ops.drop (i+1)) a' w'→wpAny P .any ops.toArray Q fuel (listed.setIfInBounds i true) a' w':=fun a' w' h'=>
   A8f hlow htail fuel (i+1) _ a' w' (by omega) (by omega) (by simpa using hl) (fun j=>by
    unfold LsD at hp ⊢
    by_cases hji:i=j
    ·subst hji;simp [hl,hilt]
    ·rw [getD_set_ne false hji,hp j];omega) h'
  unfold wpList at h
  split
  ·rename_i hw
   rw [if_pos hw] at h
   rcases h with h|h
   ·refine .inl (Oper.wp_mono ?_ h)
    exact key
   ·exact .inr h
  ·rename_i hw
   rw [if_neg hw] at h
   exact key _ _ h
def unl (N:Nat)(listed:Array Bool):Nat:=((List.range N).filter fun j=>!listed.getD j false).length
theorem A1o {listed : Array Bool}{N i : Nat}(hi : i < N)(hs : listed.size = N)(h : ¬ LsD listed i) : unl N (listed.setIfInBounds i true) + 1 = unl N listed := by
 have hset:∀ j,(listed.setIfInBounds i true).getD j false=(if i=j then true else listed.getD j false):=fun j=>by
  by_cases hij:i=j
  ·subst hij;simp [hs,hi]
  ·rw [getD_set_ne false hij,if_neg hij]
 have hfi:listed.getD i false=false:=by unfold LsD at h;simpa using h
 have:∀ l:List Nat,l.Nodup→(i∉l→(l.filter fun j=>!(listed.setIfInBounds i true).getD j false).length=(l.filter fun j=>!listed.getD j false).length)∧(i∈l→(l.filter fun j=>!(listed.setIfInBounds i true).getD j false).length+1=(l.filter fun j=>!listed.getD j false).length):=by
  intro l
  induction l with
  | nil=>intro _;simp
  | cons x r ih=>
   intro hn
   obtain⟨hx,hr⟩:=List.nodup_cons.1 hn
   have ih:=ih hr
   simp only [List.filter_cons,hset] at ih ⊢
   by_cases hxi:i=x
   ·subst hxi
    simp only [if_true,Bool.not_true,Bool.false_eq_true,if_false,hfi,Bool.not_false,List.length_cons,List.mem_cons,true_or,not_true,false_implies,true_and]
    exact fun _=>by rw [ih.1 hx]
   ·rw [if_neg hxi]
    cases hb:listed.getD x false <;> simp only [Bool.not_true,Bool.not_false,if_true,Bool.false_eq_true,if_false,List.length_cons,List.mem_cons,not_or]
    ·exact⟨fun h=>by rw [ih.1 h.2],fun h=>by rcases h with h|h;exact absurd h hxi;rw [ih.2 h]⟩
    ·exact⟨fun h=>ih.1 h.2,fun h=>by rcases h with h|h;exact absurd h hxi;exact ih.2 h⟩
 exact(this (List.range N) List.nodup_range).2 (by simpa using hi)
theorem R0 {listed : Array Bool}{N k : Nat}(hk : k ≤ N)(hp : ∀ i, LsD listed i ↔ i < k) : k + unl N listed = N := by
 have:∀ M,(((List.range M).filter fun j=>!listed.getD j false).length)=M-k:=by
  intro M
  induction M with
  | zero=>simp
  | succ M ih=>
   rw [List.range_succ,List.filter_append,List.length_append,ih]
   by_cases hM:M<k
   ·have:=(hp M).2 hM
    unfold LsD at this
    simp only [List.filter_cons,this,Bool.not_true,Bool.false_eq_true,if_false,List.filter_nil,List.length_nil]
    omega
   ·have:listed.getD M false=false:=by
     cases hb:listed.getD M false with
     | false=>rfl
     | true=>exact absurd ((hp M).1 hb) hM
    simp only [List.filter_cons,this,Bool.not_false,if_true,List.filter_nil,List.length_cons,List.length_nil]
    omega
 unfold unl
 rw [this N];omega
theorem A1v {p : Nat → Prop}(dp : ∀ i, Decidable (p i)) : ∀ m, (∃ i, i < m ∧ ¬ p i) → ∃ i, i < m ∧ ¬ p i ∧ ∀ j, j < i → p j
 | 0,⟨_,h,_⟩=>absurd h (Nat.not_lt_zero _)
 | m + 1, ⟨i, hi, hp⟩ => by
  by_cases h:∃ i,i<m∧¬ p i
  ·obtain⟨i,h1,h2,h3⟩:=A1v dp m h
   exact⟨i,by omega,h2,h3⟩
  ·have him:i=m:=by
    by_cases hlt:i<m
    ·exact absurd ⟨i,hlt,hp⟩ h
    ·omega
   subst him
   exact⟨i,by omega,hp,fun j hj=>by
    have:=dp j
    by_cases hpj:p j
    ·exact hpj
    ·exact absurd ⟨j,hj,hpj⟩ h⟩
theorem B3z (hchk:chk ops m=true)
  (hC:∀ k<m,∀ o,ops[k]?=some o→(Ts k).mono w0∧okd n o.dst=true∧OpC P n ops w0 o (Gn ops G0 Ts k) (Ts k))
  (hF:∀ a w,Ext w0 w→a.tmps.size=n→a.defers=[]→Sats (Gn ops G0 Ts m) a w→wpList P ops.toArray Q (ops.drop m) a w)
  (hG:∀ s t,gk G0 s=some t→t.mono w0) (hdom:∀ s t,gk G0 s=some t→s<n) :
  ∀(fuel:Nat) (listed:Array Bool) (a:Act) (w:World),Inv n ops w0 m G0 Ts listed a w→unl ops.length listed=fuel→wpAny P .any ops.toArray Q fuel listed a w:=by
 simp only [chk,Bool.and_eq_true] at hchk
 obtain⟨⟨⟨⟨hm,hlow⟩,hreads⟩,hdst⟩,htail⟩:=hchk
 have hm:m≤ops.length:=Nat.le_of_ble_eq_true hm
 have hget:∀ j,j<m→∃ o,ops[j]?=some o:=fun j hj=>⟨_,List.getElem?_eq_getElem (by omega)⟩
 have hent:∀(listed:Array Bool) (a:Act) (w:World),Inv n ops w0 m G0 Ts listed a w→∀(k s:Nat) (t:Ent),k≤m→gk (Gn ops G0 Ts k) s=some t→
   (∀ j o,j<m→ops[j]?=some o→o.dst=some s→(j<k→LsD listed j)∧(k≤j→¬ LsD listed j))→t.sat (a.tmps.getD s undef) w:=by
  intro listed a w I k s t hk hg hw
  by_cases hex:∃ j o,j<k∧ops[j]?=some o∧o.dst=some s
  ·obtain⟨j,o,hj,ho,hd⟩:=hex
   rw [C5t ops G0 Ts k s j o hj ho hd (fun j' h1 h2 o' ho' hd'=>by have:=A2a hdst ho (by omega) ho' (by omega) hd hd';omega)] at hg
   cases hg
   exact I.new j o s (by omega) ho hd ((hw j o (by omega) ho hd).1 hj)
  ·rw [A7j ops G0 Ts k s (fun j hj o ho hd=>hex ⟨j,o,hj,ho,hd⟩)] at hg
   refine I.old s (fun j o hj ho hd=>?_) t hg
   by_cases hjk:j<k
   ·exact absurd ⟨j,o,hjk,ho,hd⟩ hex
   ·exact(hw j o hj ho hd).2 (by omega)
 have hfin:∀(listed:Array Bool) (a:Act) (w:World) (fuel:Nat),Inv n ops w0 m G0 Ts listed a w→(∀ j,j<m→LsD listed j)→unl ops.length listed=fuel→wpAny P .any ops.toArray Q fuel listed a w:=by
  intro listed a w fuel I hall hu
  have hp:∀ i,LsD listed i↔i<m:=fun i=>⟨I.low i,hall i⟩
  have:=R0 hm hp
  refine A8f hlow htail fuel m listed a w (Nat.le_refl _) (by omega) I.lsz hp (hF a w I.ext I.size I.nod ?_)
  intro s t hg
  refine⟨?_,hent listed a w I m s t (Nat.le_refl _) hg fun j o hj _ _=>⟨fun _=>hall j hj,fun h=>absurd hj (by omega)⟩⟩
  rw [I.size]
  by_cases hex:∃ j o,j<m∧ops[j]?=some o∧o.dst=some s
  ·obtain⟨j,o,hj,ho,hd⟩:=hex
   have:=(hC j hj o ho).2.1
   rw [hd] at this
   exact Nat.le_of_ble_eq_true this
  ·rw [A7j ops G0 Ts m s (fun j hj o ho hd=>hex ⟨j,o,hj,ho,hd⟩)] at hg
   exact hdom s t hg
 have hleast:∀(listed:Array Bool) (a:Act) (w:World),Inv n ops w0 m G0 Ts listed a w→(¬ ∀ j,j<m→LsD listed j)→∃ i,i<m∧i∈Region.ready .any ops.toArray listed:=by
  intro listed a w I hn
  have:∃ i,i<m∧¬ LsD listed i:=by
   apply Classical.byContradiction
   intro h
   exact hn fun j hj=>Classical.byContradiction fun hj'=>h ⟨j,hj,hj'⟩
  obtain⟨i,h1,h2,h3⟩:=A1v (fun i=>by unfold LsD;infer_instance) m this
  obtain⟨o,ho⟩:=hget i h1
  exact⟨i,h1,(K2 I.lsz).2 ⟨h2,o,ho,fun e he hb=>h3 _ (Y8 hlow ho he hb)⟩⟩
 intro fuel
 induction fuel with
 | zero=>
  intro listed a w I hu
  by_cases hall:∀ j,j<m→LsD listed j
  ·exact hfin listed a w 0 I hall hu
  ·exfalso
   obtain⟨i,h1,h2⟩:=hleast listed a w I hall
   have:=A1o (N:=ops.length) (by omega) I.lsz ((K2 I.lsz).1 h2).1
   omega
 | succ fuel ih =>
  intro listed a w I hu
  by_cases hall:∀ j,j<m→LsD listed j
  ·exact hfin listed a w _ I hall hu
  ·obtain ⟨i0, hi0m, hi0⟩ := hleast listed a w I hall
   refine⟨fun h0=>(by rw [h0] at hi0;cases hi0),fun i hi=>?_⟩
   obtain⟨hun,o,ho,hed⟩:=(K2 I.lsz).1 hi
   have hilt:=(List.getElem?_eq_some_iff.1 ho).1
   have hedge:∀ o',ops[i]?=some o'→∀ e∈o'.after,Region.binds .any e=true→LsD listed e.on:=fun o' ho'=>by rw [ho] at ho';cases ho';exact hed
   have him:i<m:=by
    apply Classical.byContradiction
    intro hge
    exact hall fun j hj=>(A3e htail hilt (by omega) (show j<i by omega)).clo I.clo hedge
   obtain⟨hmono,hokd,hop⟩:=hC i him o ho
   have hsat:∀ s∈o.looksAt ops.toArray,∀ t,gk (Gn ops G0 Ts i) s=some t→t.sat (a.tmps.getD s undef) w:=by
    intro s hs t hg
    refine hent listed a w I i s t (by omega) hg fun j q hj hq hd=>?_
    have hr:=W0 hreads ho him hq hj hs hd
    refine⟨fun hlt=>(hr.1 hlt).clo I.clo hedge,fun hle hlj=>?_⟩
    by_cases hji:j=i
    ·subst hji;exact hun hlj
    ·exact hun ((hr.2 (by omega)).clo I.clo (fun o' ho' e he hb=>I.clo j o' ho' hlj e he hb))
   have hstep:=hop a w I.ext I.size I.nod hsat
   have hnext:∀ v w',(Ts i).sat v w'→Ext w w'→Inv n ops w0 m G0 Ts (listed.setIfInBounds i true) (a.put o.dst v) w':=by
    intro v w' hv hx
    have hset:∀ j,LsD (listed.setIfInBounds i true) j↔(j=i∨LsD listed j):=fun j=>by
     unfold LsD
     by_cases hij:i=j
     ·subst hij;simp [I.lsz,hilt]
     ·rw [getD_set_ne false hij];constructor
      ·exact .inr
      ·rintro(h|h)
       ·exact absurd h.symm hij
       ·exact h
    have hput:∀ s,o.dst≠some s→(a.put o.dst v).tmps.getD s undef=a.tmps.getD s undef:=fun s hs=>by
     cases hd:o.dst with
     | none=>rfl
     | some d=>
      have hne:d≠s:=fun e=>hs (by rw [hd,e])
      simp [Act.put,Array.getD_eq_getD_getElem?,Array.getElem?_setIfInBounds_ne hne]
    have hputs:∀ s,o.dst=some s→(a.put o.dst v).tmps.getD s undef=v:=fun s hs=>by
     have hlt:s<n:=by
      have:=hokd;rw [hs] at this;exact Nat.le_of_ble_eq_true this
     simp [Act.put,hs,Array.getD_eq_getD_getElem?,Array.getElem?_setIfInBounds_self_of_lt (show s<a.tmps.size by rw [I.size];exact hlt)]
    refine⟨by simpa using I.lsz,I.ext.trans hx,?_,?_,?_,?_,?_,?_⟩
    ·cases o.dst <;> simp [Act.put,I.size]
    ·cases o.dst <;> simp [Act.put,I.nod]
    ·intro k q hq hk e he hb
     rw [hset] at hk ⊢
     rcases hk with rfl|hk
     ·exact .inr (hedge q hq e he hb)
     ·exact .inr (I.clo k q hq hk e he hb)
    ·intro k hk
     rcases (hset k).1 hk with rfl|hk
     ·exact him
     ·exact I.low k hk
    ·intro j q s hj hq hd hlj
     by_cases hji:j=i
     ·subst hji
      rw [ho] at hq;cases hq
      rw [hputs s hd];exact hv
     ·have hne:o.dst≠some s:=fun h=>hji (A2a hdst hq hj ho him hd h)
      rw [hput s hne]
      rcases (hset j).1 hlj with h|h
      ·exact absurd h hji
      ·exact(hC j hj q hq).1 _ _ _ I.ext hx (I.new j q s hj hq hd h)
    ·intro s hs t hg
     have hne:o.dst≠some s:=fun h=>hs i o him ho h ((hset i).2 (.inl rfl))
     rw [hput s hne]
     exact hG s t hg _ _ _ I.ext hx (I.old s (fun j q hj hq hd hlj=>hs j q hj hq hd ((hset j).2 (.inr hlj))) t hg)
   have hu':unl ops.length (listed.setIfInBounds i true)=fuel:=by
    have:=A1o (N:=ops.length) hilt I.lsz hun
    omega
   have hoa:ops.toArray[i]?=some o:=by simpa using ho
   unfold wpOp
   simp only [hoa]
   split
   ·rename_i hw
    rw [if_pos hw] at hstep
    exact .inl (hstep _ _ fun v w' hv hx=>ih _ _ _ (hnext v w' hv hx) hu')
   ·rename_i hw
    rw [if_neg hw] at hstep
    exact ih _ _ _ (hnext undef w hstep (Ext.refl w)) hu'
theorem G4z {id:Nat}{L:List (Nat × Value)}{w:World}(m:Nat)(G:List (Nat × Ent))(hm:P.follows .mixedOrders=true)(hc:chk ops m=true)
  (hG:∀ s t,gk G s=some t→t.mono w) (hL:∀ a,St n L a→Sats G a w) (hdom:∀ s t,gk G s=some t→s<n) (h:RW P n ops w Q ops m G):E P n (.region id ops.toArray true) Q L w:=by
 intro a ha
 obtain⟨Ts,h1,h2⟩:=D3z ops m G h
 refine wp_region_any hm ?_
 rw [show ops.toArray.size=ops.length by simp]
 have hp:∀ i,LsD (Array.replicate ops.length false) i↔i<0:=fun i=>by
  unfold LsD;simp [Array.getElem?_replicate];split <;> rfl
 refine B3z hc h1 h2 hG hdom _ _ a _ ⟨by simp,V1 w,ha.size,ha.nod,fun i o _ hi=>absurd ((hp i).1 hi) (Nat.not_lt_zero _),fun i hi=>absurd ((hp i).1 hi) (Nat.not_lt_zero _),
  fun j o s _ _ _ hj=>absurd ((hp j).1 hj) (Nat.not_lt_zero _),fun s _ t hg=>hG s t hg _ _ _ (Ext.refl w) (V1 w) (hL a ha s t hg).2⟩ ?_
 have:=R0 (N:=ops.length) (Nat.zero_le _) hp
 omega
def vG:List (Nat × Value)→List (Nat × Ent)
 | []=>[]
 | (s,v)::r=>(s,.v v)::vG r
theorem A2s:∀(L:List (Nat × Value)) (s:Nat) (t:Ent),gk (vG L) s=some t→∃ v,t=.v v∧lk L s=some v
 | [],_,_,h=>by simp [vG,gk] at h
 | (k,v)::r,s,t,h=>by
  simp only [vG,gk,lk] at h ⊢
  cases hb:Nat.beq k s with
  | true=>rw [hb] at h;simp at h;exact⟨v,h.symm,by simp⟩
  | false=>rw [hb] at h;obtain⟨u,h1,h2⟩:=A2s r s t h;exact⟨u,h1,by simpa using h2⟩
def domb (n:Nat):List (Nat × Value)→Bool
 | []=>true
 | (s,_)::r=>Nat.ble (s+1) n&&domb n r
theorem A4t:∀ {L:List (Nat × Value)} {s:Nat} {v:Value},domb n L=true→lk L s=some v→s<n
 | [],_,_,_,h=>by simp [lk] at h
 | (k,u)::r,s,v,hd,h=>by
  simp only [domb,Bool.and_eq_true] at hd
  simp only [lk] at h
  cases hb:Nat.beq k s with
  | true=>have:=Nat.eq_of_beq_eq_true hb;subst this;exact Nat.le_of_ble_eq_true hd.1
  | false=>rw [hb] at h;exact A4t hd.2 h
theorem E_dr {id:Nat}{L:List (Nat × Value)}{w:World}(m:Nat)(hm:P.follows .mixedOrders=true)(hc:chk ops m=true)(hdm:domb n L=true)(h:RW P n ops w Q ops m (vG L)):E P n (.region id ops.toArray true) Q L w:=
 G4z m (vG L) hm hc (fun s t hs=>by obtain⟨v,rfl,_⟩:=A2s L s t hs;exact fun _ _ _ _ _ h=>h)
  (fun a ha s t hs=>by
   obtain⟨v,rfl,hl⟩:=A2s L s t hs
   exact⟨by rw [ha.size];exact A4t hdm hl,by simp [Ent.sat,Array.getD_eq_getD_getElem?,ha.get s v hl]⟩)
  (fun s t hs=>by obtain⟨v,rfl,hl⟩:=A2s L s t hs;exact A4t hdm hl) h
def mat (δ:Nat→Value):List (Nat × Ent)→List (Nat × Value)
 | []=>[]
 | (s,.v x)::r=>(s,x)::mat δ r
 | (s,.r _)::r=>(s,δ s)::mat δ r
theorem A7f (δ:Nat→Value):∀(G:List (Nat × Ent)) (s:Nat) (v:Value),lk (mat δ G) s=some v→(gk G s=some (.v v))∨(∃ R,gk G s=some (.r R)∧v=δ s)
 | [],_,_,h=>by simp [mat,lk] at h
 | (k,.v x)::r,s,v,h=>by
  simp only [mat,lk,gk] at h ⊢
  cases hb:Nat.beq k s with
  | true=>rw [hb] at h;simp at h;subst h;exact .inl rfl
  | false=>rw [hb] at h;exact A7f δ r s v h
 | (k,.r R)::r,s,v,h=>by
  simp only [mat,lk,gk] at h ⊢
  cases hb:Nat.beq k s with
  | true=>rw [hb] at h;simp at h;have:=Nat.eq_of_beq_eq_true hb;subst this;exact .inr ⟨R,rfl,h.symm⟩
  | false=>rw [hb] at h;exact A7f δ r s v h
def isT (s:Nat):Operand→Bool
 | .tmp t=>Nat.beq t s
 | _=>false
def SatO (o:Oper)(δ:Nat→Value)(G:List (Nat × Ent))(w:World):Prop:=∀ s,o.op.operands.toList.any (isT s)=true→∀ R,gk G s=some (.r R)→R (δ s) w
def ggst (ops : List Oper)(G : List (Nat × Ent))(o : Oper) : Option Bool :=
 match o.guard with
 | none=>some true
 | some (j,want)=>
  match nthd ops j with
  | none=>none
  | some d=>
   match gk G d with
   | some (.v (.bool b))=>some (b==want)
   | some (.v _)=>some false
   | _=>none
theorem A6j {o:Oper}{j:Nat}{b:Bool}{d:Nat}(hg:o.guard=some (j,b))(hj:nthd ops j=some d):d∈o.looksAt ops.toArray:=by
 unfold Oper.looksAt
 rw [hg]
 refine List.mem_append_right _ ?_
 dsimp only
 rw [List.getElem?_toArray,A3x,hj]
 simp
theorem A0w {o:Oper}{s:Nat}(h:.tmp s∈o.op.operands):s∈o.looksAt ops.toArray:=by
 unfold Oper.looksAt
 exact List.mem_append_left _ (List.mem_filterMap.2 ⟨.tmp s,by simpa using h,rfl⟩)
theorem B6k {o : Oper}{G : List (Nat × Ent)}{a : Act}(hn : ∀ d, (∃ j b, o.guard = some (j, b) ∧ nthd ops j = some d) → ∀ v, gk G d = some (.v v) → a.tmps.getD d undef = v)
  {b:Bool} (h:ggst ops G o=some b):Region.wanted o (yielded ops.toArray a.tmps)=b:=by
 unfold ggst at h
 unfold Region.wanted
 cases hg:o.guard with
 | none=>rw [hg] at h;simpa using h
 | some p=>
  obtain⟨j,want⟩:=p
  rw [hg] at h
  dsimp only at h ⊢
  cases hj:nthd ops j with
  | none=>rw [hj] at h;simp at h
  | some d=>
   rw [hj] at h
   dsimp only at h
   cases hl:gk G d with
   | none=>rw [hl] at h;simp at h
   | some t=>
    rw [hl] at h
    cases t with
    | r R=>simp at h
    | v x =>
     have hx:=hn d ⟨j,want,hg,hj⟩ x hl
     unfold yielded
     rw [List.getElem?_toArray,A3x,hj,Option.bind_some]
     have hget:a.tmps[d]?=some x∨(a.tmps[d]?=none∧x=undef):=by
      rw [Array.getD_eq_getD_getElem?] at hx
      cases hq:a.tmps[d]? with
      | none=>rw [hq] at hx;exact .inr ⟨rfl,by simpa using hx.symm⟩
      | some y=>rw [hq] at hx;exact .inl (by simpa using hx)
     rcases hget with hq|⟨hq,rfl⟩
     ·rw [hq]
      cases x <;> simp at h ⊢ <;> exact h
     ·rw [hq]
      simp [undef] at h
      simpa using h
section
variable {o : Oper}{rest : List Oper}{G : List (Nat × Ent)}{w0 : World}
theorem D3n {a:Act}{w:World}(hl:∀ s∈o.looksAt ops.toArray,∀ t,gk G s=some t→t.sat (a.tmps.getD s undef) w):Agree (mat (fun s=>a.tmps.getD s undef) G) o a.eval:=by
 intro x hx v hv
 cases x with
 | tmp s=>
  simp only [En.ev] at hv
  rcases A7f _ G s v hv with h|⟨R,_,h⟩
  ·exact hl s (A0w hx) _ h
  ·rw [h];rfl
 | const u=>simpa [En.ev,Act.eval] using hv
 | global g=>simpa [En.ev,Act.eval] using hv
 | func f=>simpa [En.ev,Act.eval] using hv
theorem D6f {a:Act}{w:World}(hl:∀ s∈o.looksAt ops.toArray,∀ t,gk G s=some t→t.sat (a.tmps.getD s undef) w):SatO o (fun s=>a.tmps.getD s undef) G w:=by
 intro s hs R hR
 obtain⟨x,hx,hxs⟩:=List.any_eq_true.1 hs
 cases x with
 | tmp t=>
  have:=Nat.eq_of_beq_eq_true hxs
  subst this
  exact hl t (A0w (by simpa using hx)) _ hR
 | _=>simp [isT] at hxs
theorem D3y {T:Ent}(hg:ggst ops G o=some true)(hd:okd n o.dst=true)(hmono:T.mono w0)
  (h:∀ w δ,Ext w0 w→SatO o δ G w→∀ ρ,Agree (mat δ G) o ρ→(∃ v w',(execOp ρ o).run P w=.ok (.value v) w'∧T.sat v w'∧Ext w w')∨
   (∃ f args S,(execOp ρ o).run P w=.ok (.enter f args) w∧Calls P f args w (Rt S)∧∀ v w',S v w'→T.sat v w'∧Ext w w'))
  (k:RW P n ops w0 Q rest m (gput o.dst T G)):RW P n ops w0 Q (o::rest) (m+1) G:=by
 refine⟨T,hmono,hd,?_,k⟩
 intro a w hw hs hn hl
 have hwant:Region.wanted o (yielded ops.toArray a.tmps)=true:=B6k (fun d ⟨j,b,h1,h2⟩ v hv=>hl d (A6j h1 h2) _ hv) hg
 rw [if_pos hwant]
 intro K Q' hK
 rcases h w _ hw (D6f hl) a.eval (D3n hl) with⟨v,w',h1,h2,h3⟩|⟨f,args,S,h1,h2,h3⟩
 ·unfold Oper.wp
  rw [h1]
  exact hK v w' h2 h3
 ·unfold Oper.wp
  rw [h1,Oper.upon_enter]
  refine h2.mono ?_
  rintro e w' ⟨v,rfl,hS⟩
  exact hK v w' (h3 v w' hS).1 (h3 v w' hS).2
theorem G4u {d:Nat}{v:Value}(hg:ggst ops G o=some true)(hd:odst n o.dst=some d)(h:∀ w δ,Ext w0 w→Val P (mat δ G) w o v)(k:RW P n ops w0 Q rest m ((d,.v v)::G)):RW P n ops w0 Q (o::rest) (m+1) G:=
 D3y (T:=.v v) hg (D1 hd).2 (fun _ _ _ _ _ h=>h) (fun w δ hw _ ρ ha=>.inl ⟨v,w,h w δ hw ρ ha,rfl,Ext.refl w⟩) (by rw [(D1 hd).1];exact k)
theorem D8m {d:Nat}{v:Value}{f:FuncId}{args:Array Value}(hg:ggst ops G o=some true)(hd:odst n o.dst=some d)
  (h:∀ w δ,Ext w0 w→Enters P (mat δ G) w o f args) (hc:∀ w,Ext w0 w→Calls P f args w (Rt fun u w'=>u=v∧Ext w w')) (k:RW P n ops w0 Q rest m ((d,.v v)::G)):RW P n ops w0 Q (o::rest) (m+1) G:=
 D3y (T:=.v v) hg (D1 hd).2 (fun _ _ _ _ _ h=>h) (fun w δ hw _ ρ ha=>.inr ⟨f,args,_,h w δ hw ρ ha,hc w hw,fun _ _ hS=>hS⟩) (by rw [(D1 hd).1];exact k)
theorem D4a {l : List Oper}(h : ∀ w δ, Ext w0 w → (∀ s R, gk G s = some (.r R) → R (δ s) w) → EL P n ops Q l (mat δ G) w) : RW P n ops w0 Q l 0 G := by
 have:∀ a w,Ext w0 w→a.tmps.size=n→a.defers=[]→Sats G a w→wpList P ops.toArray Q l a w:=fun a w hw hs hn hS=>
  h w (fun s => a.tmps.getD s undef) hw (fun s R hR => (hS s _ hR).2) a ⟨hs, hn, fun s v hv => by
   have hx:s<a.tmps.size∧a.tmps.getD s undef=v:=by
    rcases A7f _ G s v hv with h|⟨R,hr,h⟩
    ·exact hS s _ h
    ·exact⟨(hS s _ hr).1,h.symm⟩
   rw [Array.getElem?_eq_getElem hx.1]
   have:=hx.2
   simp [hx.1] at this
   rw [this]⟩
 cases l <;> exact this
end
end
def loud:Op→Bool
 | .store .. | .alloc _ | .box .. | .buildSlice .. | .insert .. | .mapUpdate .. | .mapEntry .. | .entryStore .. | .makeMap .. | .makeSlice .. | .makeChan .. | .range .. | .next .. | .panic _ | .send .. | .recv .. | .go _ | .defer _=>true
 | .call { callee:=.builtin .len,.. } | .call { callee:=.builtin .cap,.. } | .call { callee:=.builtin .min,.. } | .call { callee:=.builtin .max,.. }=>false
 | .call { callee:=.builtin _,.. }=>true
 | _=>false
def qh:List Oper→List Oper
 | []=>[]
 | o::r=>bif loud o.op then [] else o::qh r
def qt:List Oper→List Oper
 | []=>[]
 | o::r=>bif loud o.op then o::r else qt r
theorem qht:∀ l:List Oper,qh l++qt l=l
 | []=>rfl
 | o::r=>by
  simp only [qh,qt]
  cases loud o.op
  ·simp [qht r]
  ·simp
def RQ (P:Program)(n:Nat)(ops:List Oper)(w0:World)(Q:Post)(l tl:List Oper)(G:List (Nat × Ent)):Prop:=RW P n ops w0 Q (l++tl) l.length G
section
variable {P : Program}{n : Nat}{ops : List Oper}{Q : Post}{o : Oper}{rest tl : List Oper}{G : List (Nat × Ent)}{w0 : World}
theorem E_dq {id:Nat}{L:List (Nat × Value)}{w:World}(hm:P.follows .mixedOrders=true)(hc:chk ops (qh ops).length=true)(hdm:domb n L=true)(h:RQ P n ops w Q (qh ops) (qt ops) (vG L)):E P n (.region id ops.toArray true) Q L w:=
 E_dr _ hm hc hdm (by unfold RQ at h;rwa [qht] at h)
theorem A5u {d:Nat}{v:Value}(hg:ggst ops G o=some true)(hd:odst n o.dst=some d)(h:∀ w δ,Ext w0 w→Val P (mat δ G) w o v)(k:RQ P n ops w0 Q rest tl ((d,.v v)::G)):RQ P n ops w0 Q (o::rest) tl G:=G4u hg hd h k
theorem C5q {d:Nat}{v:Value}{f:FuncId}{args:Array Value}(hg:ggst ops G o=some true)(hd:odst n o.dst=some d)
  (h:∀ w δ,Ext w0 w→Enters P (mat δ G) w o f args) (hc:∀ w,Ext w0 w→Calls P f args w (Rt fun u w'=>u=v∧Ext w w')) (k:RQ P n ops w0 Q rest tl ((d,.v v)::G)):RQ P n ops w0 Q (o::rest) tl G:=D8m hg hd h hc k
theorem D8n (L:List (Nat × Value))(hL:∀ δ,mat δ G=L)(h:∀ w,Ext w0 w→EL P n ops Q tl L w):RQ P n ops w0 Q [] tl G:=D4a fun w δ hw _=>by rw [hL];exact h w hw
theorem D4d (h:∀ w δ,Ext w0 w→(∀ s R,gk G s=some (.r R)→R (δ s) w)→EL P n ops Q tl (mat δ G) w):RQ P n ops w0 Q [] tl G:=D4a h
end
def exl:List (Nat × Ent)→Option (List (Nat × Value))
 | []=>some []
 | (s,.v x)::r=>match exl r with|some L=>some ((s,x)::L)|none=>none
 | (_,.r _)::_=>none
theorem C4o:∀ {G:List (Nat × Ent)} {L:List (Nat × Value)},exl G=some L→∀ δ,mat δ G=L
 | [],L,h,δ=>by simp [exl] at h;subst h;rfl
 | (s,.v x)::r,L,h,δ=>by
  simp only [exl] at h
  cases hr:exl r with
  | none=>simp [hr] at h
  | some M=>
   simp [hr] at h
   subst h
   simp [mat,C4o hr δ]
 | (s,.r _)::r,L,h,δ=>by simp [exl] at h
theorem G4v {P:Program}{n:Nat}{ops tl:List Oper}{Q:Post}{G:List (Nat × Ent)}{w0:World}{L:List (Nat × Value)}(hL:exl G=some L)(h:∀ w,Ext w0 w→EL P n ops Q tl L w):RQ P n ops w0 Q [] tl G:=D8n L (C4o hL) h
def evs (L:List (Nat × Value)):Nat→List (Nat × Operand)→Option (List Value)
 | _,[]=>some []
 | k,(i,x)::r=>bif Nat.beq i k then (match ev L x with|some v=>(match evs L (k+1) r with|some vs=>some (v::vs)|none=>none)|none=>none) else none
theorem C1j (L : List (Nat × Value)) : ∀ (ps : List (Nat × Operand)) (k : Nat) (vs : List Value), evs L k ps = some vs → ps.map (fun p => (p.1, ev L p.2)) = (vs.zipIdx k).map fun p => (p.2, some p.1)
 | [],k,vs,h=>by simp [evs] at h;subst h;rfl
 | (i, x) :: r, k, vs, h => by
  simp only [evs] at h
  cases hb:Nat.beq i k with
  | false=>rw [hb] at h;simp at h
  | true=>
   have:=Nat.eq_of_beq_eq_true hb
   subst this
   rw [hb] at h
   cases hx:ev L x with
   | none=>simp [hx] at h
   | some v=>
    cases hr:evs L (i+1) r with
    | none=>simp [hx,hr] at h
    | some ws=>
     simp [hx,hr] at h
     subst h
     simp [hx,C1j L r (i+1) ws hr]
section
variable {P : Program}{n : Nat}{Q : Post}{L : List (Nat × Value)}{w : World}{ops : List Oper}{o : Oper}{rest : List Oper}
theorem G5a {d:Nat}{t e:TypeId}{z:Value}{size bytes len:Nat}{ps:List (Nat × Operand)}{vs cs:List Value}[UT P t (.slice e)][TI P e z size bytes](hg:gst ops L o=some true)(hd:odst n o.dst=some d)(ho:o.op=.buildSlice t len ps.toArray)
  (hps:evs L 0 ps=some vs) (hv:vs.all (fun v=>Nat.beq v.cells.size size)=true) (hl:Nat.beq vs.length len=true) (hsm:Nat.ble (len*size) 16777216=true) (hcs:(vs.map fun v=>v.cells.toList).flatten=cs)
  (k:∀ b w',Ext w w'→b=w.heap.size→Row w' b e cs→EL P n ops Q rest ((d,.slice (some ⟨b,0,none⟩) len len)::L) w'):EL P n ops Q (o::rest) L w:=
 B0z vs hg hd ho (C1j L ps 0 vs hps) (fun v hm=>Nat.eq_of_beq_eq_true (List.all_eq_true.1 hv v hm)) (Nat.eq_of_beq_eq_true hl) (Nat.le_of_ble_eq_true hsm) (by rw [hcs];exact k)
end
def evl (L:List (Nat × Value)):List Operand→Option (List Value)
 | []=>some []
 | x::r=>match ev L x with|some v=>(match evl L r with|some vs=>some (v::vs)|none=>none)|none=>none
theorem C1k (L : List (Nat × Value)) : ∀ (xs : List Operand) (vs : List Value), evl L xs = some vs → xs.map (ev L) = vs.map some
 | [],vs,h=>by simp [evl] at h;subst h;rfl
 | x :: r, vs, h => by
  simp only [evl] at h
  cases hx:ev L x with
  | none=>simp [hx] at h
  | some v=>
   cases hr:evl L r with
   | none=>simp [hx,hr] at h
   | some ws=>
    simp [hx,hr] at h
    subst h
    simp [hx,C1k L r ws hr]
section
variable {P : Program}{L : List (Nat × Value)}{w : World}{o : Oper}
theorem D5 {f:FuncId}{xs:List Operand}{ts:Array TypeId}{vs:List Value}(ho:o.op=.call { callee:=.value (.func f),args:=xs.toArray,argTypes:=ts })
  (hx:evl L xs=some vs) (he:∀ args w,(callFunc f args).run P w=.ok (.enter f args) w):Enters P L w o f vs.toArray:=by
 have:=enters (w:=w) (cap:=[]) ho rfl (C1k L xs vs hx) he
 simpa using this
theorem A1z {f:FuncId}{g:Operand}{xs:List Operand}{ts:Array TypeId}{vs cap:List Value}(ho:o.op=.call { callee:=.value g,args:=xs.toArray,argTypes:=ts })
  (hg:ev L g=some (.func (.func f) #[] cap.toArray)) (hx:evl L xs=some vs) (he:∀ args w,(callFunc f args).run P w=.ok (.enter f args) w):Enters P L w o f (vs++cap).toArray:=
 enters ho hg (C1k L xs vs hx) he
end
theorem C7b {P:Program}{f:FuncId}{fn:Func}{c:Code}(hf:P.funcs[f]?=some fn)(hn:(fn.name== "runtime.NumGoroutine")=false)(hb:fn.body=some c):∀ args w,(callFunc f args).run P w=.ok (.enter f args) w:=by
 intro args w
 simp only [callFunc,Sem.run_bind,program,Sem.run,Result.andThen_ok,hf,hn,hb,Option.isNone_some,Bool.false_eq_true,if_false]
 rfl
section
variable {P : Program}{n : Nat}{Q : Post}{L : List (Nat × Value)}{w : World}{ops : List Oper}{o : Oper}{rest : List Oper}
end
def It (w:World)(r:Nat)(l:List UInt8)(pos:Nat):Prop:=w.heap[r]?=some (.stringIter ⟨l.toArray⟩ pos)
theorem It.lt {w:World}{r:Nat}{l:List UInt8}{pos:Nat}(h:It w r l pos):r<w.heap.size:=(Array.getElem?_eq_some_iff.1 h).1
theorem It.ext {w w':World}{r:Nat}{l:List UInt8}{pos:Nat}(h:It w r l pos)(x:Ext w w'):It w' r l pos:=(x.block h.lt).trans h
section
variable {P : Program}{n : Nat}{Q : Post}{L : List (Nat × Value)}{w : World}{ops : List Oper}{o : Oper}{rest : List Oper}
theorem C0c {d:Nat}{t:TypeId}{x:Operand}{l:List UInt8}[UT P t .string](hg:gst ops L o=some true)(hd:odst n o.dst=some d)(ho:o.op=.range t x)(hx:ev L x=some (str l))
  (k:∀ r w',Ext w w'→r=w.heap.size→It w' r l 0→EL P n ops Q rest ((d,.pointer (some ⟨r,0,none⟩))::L) w'):EL P n ops Q (o::rest) L w:=by
 refine R6 (w':=w.alloc (.stringIter ⟨l.toArray⟩ 0)) hg hd (fun ρ ha=>?_) (k _ _ (J1 _ _) Z (by unfold It;rw [heap_alloc_new]))
 have h1:=ha.ev (by rw [ho];simp [Op.operands]) hx
 have h3:=G5 (t:=t) (P:=P) w
 simp only [execOp,ho,Instr.range,h1,Sem.run_bind,h3,Result.andThen_ok]
 rfl
theorem C1w {d:Nat}{x:Operand}{r pos:Nat}{l:List UInt8}(hg:gst ops L o=some true)(hd:odst n o.dst=some d)(ho:o.op=.next x true)(hx:ev L x=some (.pointer (some ⟨r,0,none⟩)))(hit:It w r l pos)(hlt:pos<l.length)
  (k:∀ w',It w' r l (pos+(Lib.decodeL (l.drop pos)).2)→Kb (some r) w w'→EL P n ops Q rest ((d,.tuple #[.bool true,int pos,.int .i32 ((Lib.decodeL (l.drop pos)).1:Int)])::L) w'):EL P n ops Q (o::rest) L w:=by
 have hdec:=Lib.decodeL_drop ⟨l.toArray⟩ pos
 simp only [List.toList_toArray] at hdec
 have hsz:(ByteArray.mk l.toArray).size=l.length:=by simp [ByteArray.size]
 refine R6 (w':={ w with heap:=w.heap.setIfInBounds r (.stringIter ⟨l.toArray⟩ (pos+(Lib.decodeL (l.drop pos)).2)) }) hg hd (fun ρ ha=>?_) (k _ ?_ ⟨rfl,rfl,rfl,by simp,fun b hb hne=>?_⟩)
 ·have h1:=ha.ev (by rw [ho];simp [Op.operands]) hx
  have hit':=hit
  unfold It at hit'
  simp only [execOp,ho,h1,Instr.next,Sem.run_bind,getObj,Sem.run,hit',Result.andThen_ok,hsz]
  rw [if_pos hlt]
  simp only [← hdec,Sem.run_bind,setObj,Sem.run,hit',Result.andThen_ok]
  rfl
 ·unfold It
  simp [Array.getElem?_setIfInBounds_self_of_lt hit.lt]
 ·have:r≠b:=fun e=>hne (by rw [e])
  simp [Array.getElem?_setIfInBounds_ne this]
theorem C1x {d:Nat}{x:Operand}{r pos:Nat}{l:List UInt8}(hg:gst ops L o=some true)(hd:odst n o.dst=some d)(ho:o.op=.next x true)(hx:ev L x=some (.pointer (some ⟨r,0,none⟩)))(hit:It w r l pos)(hlt:¬ pos<l.length)
  (k:EL P n ops Q rest ((d,.tuple #[.bool false])::L) w):EL P n ops Q (o::rest) L w:=by
 have hsz:(ByteArray.mk l.toArray).size=l.length:=by simp [ByteArray.size]
 refine R6 hg hd (fun ρ ha=>?_) k
 have h1:=ha.ev (by rw [ho];simp [Op.operands]) hx
 have hit':=hit
 unfold It at hit'
 simp only [execOp,ho,h1,Instr.next,Sem.run_bind,getObj,Sem.run,hit',Result.andThen_ok,hsz]
 rw [if_neg hlt]
 rfl
end
theorem D6p {w:World}{b:Nat}{e:TypeId}{cs:List Value}{B n size:Nat}(h:Row w b e cs)(hl:cs.length=n*size)(hB:B≤b)(hn:n≤9223372036854775807):w.ownsRow B e size (.slice (some ⟨b,0,none⟩) n n) n cs:=
 ⟨hl,.inr ⟨b,n,cs.toArray,rfl,hB,h,Nat.le_refl _,by unfold maxLen;omega,by simp [hl],by simp [← hl]⟩⟩
class BT (P:Program)(t:TypeId)(ps:outParam (List (Nat × Nat))):Prop where
 b:∃ fs,P.underlying t=some (.struct fs)∧(fs.toList.map fun f=>(f.offset,(P.info? f.type).map (·.size)))=ps.map fun p=>(p.1,some p.2)
def A6n (ps : List (Nat × Nat)) : List Value → List (Nat × Value) → Option (List Value)
 | cs,[]=>some cs
 | cs,(i,v)::r=>
  match ps[i]? with
  | some (off,size)=>bif Nat.beq v.cells.size size&&Nat.ble (off+size) cs.length then A6n ps (cs.take off++v.cells.toList++cs.drop (off+size)) r else none
  | none=>none
theorem A9p (ps : List (Nat × Nat)) : ∀ (vs : List (Nat × Value)) (cs ds : List Value), A6n ps cs vs = some ds → Instr.fill (ps[·]?) cs.toArray vs = some ds.toArray
 | [],cs,ds,h=>by simp [A6n] at h;subst h;rfl
 | (i, v) :: r, cs, ds, h => by
  simp only [A6n] at h
  simp only [Instr.fill]
  cases hp:ps[i]? with
  | none=>simp [hp] at h
  | some p=>
   obtain⟨off,size⟩:=p
   simp only [hp] at h ⊢
   cases hb:(Nat.beq v.cells.size size&&Nat.ble (off+size) cs.length) with
   | false=>rw [hb] at h;simp at h
   | true=>
    rw [hb] at h
    simp only [cond_true] at h
    rw [Bool.and_eq_true] at hb
    have h1:=Nat.eq_of_beq_eq_true hb.1
    have h2:=Nat.le_of_ble_eq_true hb.2
    rw [if_neg (by simp [h1];omega)]
    have hf:=B3k v.cells.toList 0 off (cs.take off) (cs.drop off).toArray (by simp;omega) (by simp [h1];omega)
    have hcs:cs.toArray=(cs.take off).toArray++(cs.drop off).toArray:=by simp
    rw [hcs,← Array.foldl_toList,Array.toList_zipIdx,hf]
    have:(cs.take off++v.cells.toList++(cs.drop off).toArray.toList.drop v.cells.toList.length)=cs.take off++v.cells.toList++cs.drop (off+size):=by
     simp [h1,List.drop_drop]
    rw [this]
    exact A9p ps r _ ds h
theorem C3p {P : Program}(w : World) : ∀ (fs : List Field) (ps : List (Nat × Nat)), (fs.map fun f => (f.offset, (P.info? f.type).map (·.size))) = ps.map (fun p => (p.1, some p.2)) →
  (fs.mapM fun f=>(do pure (f.offset,← sizeOf f.type):Sem (Nat × Nat))).run P w=.ok ps w
 | [],ps,h=>by cases ps with|nil=>rfl|cons _ _=>simp at h
 | f :: r, ps, h => by
  cases ps with
  | nil=>simp at h
  | cons p pr=>
   simp only [List.map_cons,List.cons.injEq,Prod.mk.injEq] at h
   have hs:(sizeOf f.type).run P w=.ok p.2 w:=by
    obtain⟨i,hi,h2⟩:=Option.map_eq_some_iff.1 h.1.2
    have:(typeInfo f.type).run P w=.ok i w:=by simp [typeInfo,program,Sem.run,bind,pure,Sem.bind,hi]
    simp [sizeOf,go_sem,this,h2]
   have ih:=C3p w r pr h.2
   rw [List.mapM_cons]
   simp only [Sem.run_bind,hs,Result.andThen_ok,Sem.run_pure,ih,h.1.1]
theorem B1g {P : Program}{L : List (Nat × Value)}{w : World}{o : Oper}{t : TypeId}{z : Value}{size bytes : Nat}{ps : List (Nat × Nat)}[hB : BT P t ps][TI P t z size bytes]{qs : List (Nat × Operand)}{vs : List (Nat × Value)}(cs : List Value)(ho : o.op = .build t qs.toArray)
  (hq:qs.map (fun q=>(q.1,ev L q.2))=vs.map fun v=>(v.1,some v.2)) (hf:A6n ps z.cells.toList vs=some cs):Val P L w o (.agg cs.toArray):=fun ρ ha=>by
 obtain⟨fs,hu,hfs⟩:=hB.b
 have h3:(underlying t).run P w=.ok (.struct fs) w:=by simp [underlying,program,Sem.run,bind,pure,Sem.bind,hu]
 have hz:=N9 (P:=P) (t:=t) w
 have hp:(qs.map fun p=>(p.1,ρ p.2))=vs:=by
  have hx:∀ p∈qs,∀ v,ev L p.2=some v→ρ p.2=v:=fun p hm v hv=>ha.ev (by rw [ho];simp [Op.operands];exact⟨p.1,hm⟩) hv
  clear ho ha hf
  induction qs generalizing vs with
  | nil=>cases vs with|nil=>rfl|cons _ _=>simp at hq
  | cons p r ih=>
   cases vs with
   | nil=>simp at hq
   | cons v vr=>
    simp only [List.map_cons,List.cons.injEq,Prod.mk.injEq] at hq ⊢
    refine⟨?_,ih hq.2 (fun q hm u hu=>hx q (by simp [hm]) u hu)⟩
    rw [hx p (by simp) v.2 hq.1.2,hq.1.1]
 have hfill:=A9p ps vs z.cells.toList cs hf
 rw [Array.toArray_toList] at hfill
 have hm:=C3p (P:=P) w fs.toList ps hfs
 simp only [execOp,ho,List.map_toArray,hp,Instr.build,Sem.run_bind,hz,h3,Result.andThen_ok]
 rw [Array.mapM_eq_mapM_toList]
 simp only [Sem.run_bind,map_eq_pure_bind,hm,Result.andThen_ok,Sem.run_pure,List.getElem?_toArray,hfill]
section
variable {P : Program}{n : Nat}{Q : Post}{L : List (Nat × Value)}{w w0 : World}{ops rest l tl : List Oper}{G : List (Nat × Ent)}
theorem at_K {e:Exit}(h:K n Q e L w):K n Q e L w:=h
end
end Go.En
