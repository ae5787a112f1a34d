/- Own text. -/
import Derived.Test.YtojadfppncgphaaGreatDoorQE
import Derived.MapKept
set_option linter.all false
namespace Go.En
open Go.RowKit
def SlC (w:World)(v:Value)(n:Nat)(cs:List Value):Prop:=∃ a cap,v=.slice a n cap∧n≤cap∧(0<n→∃ b off,a=some ⟨b,off,none⟩∧At w b off cs)
theorem SlC.ext {w w':World}{v:Value}{n:Nat}{cs:List Value}(h:SlC w v n cs)(x:Ext w w'):SlC w' v n cs:=by
 obtain⟨a,cap,hv,hc,h⟩:=h
 exact⟨a,cap,hv,hc,fun hn=>by obtain⟨b,off,ha,hat⟩:=h hn;exact⟨b,off,ha,hat.ext x⟩⟩
theorem own_sl {w:World}{B:Nat}{e:TypeId}{sz:Nat}{v:Value}{n:Nat}{xs:List Value}(h:w.ownsRow B e sz v n xs):SlC w v n xs:=by
 rcases O0 h with⟨rfl,rfl,rfl⟩|⟨b,cap,rfl,hc,_,_,hat⟩
 ·exact⟨none,0,rfl,Nat.le_refl _,fun h=>absurd h (Nat.lt_irrefl 0)⟩
 ·exact⟨_,cap,rfl,hc,fun _=>⟨b,0,rfl,hat⟩⟩
theorem C9i {w:World}{B B':Nat}{e:TypeId}{sz:Nat}{v:Value}{n:Nat}{xs:List Value}(h:w.ownsRow B e sz v n xs)(hB:B'≤B):w.ownsRow B' e sz v n xs:=by
 refine⟨h.1,?_⟩
 rcases h.2 with h2|⟨g,cap,cur,hv,hb,r⟩
 ·exact .inl h2
 ·exact .inr ⟨g,cap,cur,hv,Nat.le_trans hB hb,r⟩
section
variable {P : Program}{n : Nat}{Q : Post}{L : List (Nat × Value)}{w w0 : World}{ops l tl : List Oper}{o : Oper}{rest : List Oper}{G : List (Nat × Ent)}
end
section
variable {P : Program}{L : List (Nat × Value)}{w : World}{o : Oper}
theorem A5x {t e:TypeId}{x q:Operand}{a:Option Addr}{len cap b:Nat}{kh:IntKind}{zb:Int}{zv:Value}{size bytes:Nat}[UT P t (.slice e)][TI P e zv size bytes](ho:o.op=.slice t x none (some q) none)(hx:ev L x=some (.slice a len cap))
  (hhi:ev L q=some (.int kh zb)) (hzb:zb=(b:Int)) (hb:b≤cap):Val P L w o (.slice a b cap):=fun ρ ha=>by
 have h1:=ha.ev (by rw [ho];simp [Op.operands]) hx
 have h4:=ha.ev (by rw [ho];simp [Op.operands]) hhi
 have h3:=G5 (t:=t) (P:=P) w
 have h5:=run_sizeOf (P:=P) (t:=e) w
 subst hzb
 have hadd:∀ y:Addr,y.add 0=y:=fun _=>rfl
 simp only [execOp,ho,Instr.sliceAt,Instr.slice,Instr.sliceBounds,Instr.sliceBound,asIntOf,h1,h4,Option.map_some,Option.map_none]
 simp [go_sem,h3,h5,hb]
theorem V4 {t e:TypeId}{x p:Operand}{a:Option Addr}{len cap b:Nat}{kl:IntKind}{za:Int}{zv:Value}{size bytes:Nat}[UT P t (.slice e)][TI P e zv size bytes](ho:o.op=.slice t x (some p) none none)(hx:ev L x=some (.slice a len cap))
  (hlo:ev L p=some (.int kl za)) (hza:za=(b:Int)) (hb:b≤len):Val P L w o (.slice (if cap=b then a else a.map (·.add (b*size))) (len-b) (cap-b)):=fun ρ ha=>by
 have h1:=ha.ev (by rw [ho];simp [Op.operands]) hx
 have h4:=ha.ev (by rw [ho];simp [Op.operands]) hlo
 have h3:=G5 (t:=t) (P:=P) w
 have h5:=run_sizeOf (P:=P) (t:=e) w
 subst hza
 simp only [execOp,ho,Instr.sliceAt,Instr.slice,Instr.sliceBounds,Instr.sliceBound,asIntOf,h1,h4,Option.map_some,Option.map_none]
 simp [go_sem,h3,h5,hb]
end
theorem SlC.drop {w:World}{a:Option Addr}{n cap size b:Nat}{cs:List Value}(h:SlC w (.slice a n cap) n cs)(hb:b≤n):SlC w (.slice (if cap=b then a else a.map (·.add (b*size))) (n-b) (cap-b)) (n-b) (cs.drop (b*size)):=by
 obtain⟨a',cap',hv,hc,h⟩:=h
 cases hv
 refine⟨_,_,rfl,by omega,fun hn=>?_⟩
 obtain⟨bl,off,rfl,hat⟩:=h (by omega)
 rw [if_neg (by omega)]
 refine⟨bl,off+b*size,by simp [D6],fun j v hv=>?_⟩
 rw [List.getElem?_drop] at hv
 have:=hat _ _ hv
 rwa [← Nat.add_assoc] at this
theorem SlC.take {w:World}{a:Option Addr}{n cap b:Nat}{cs ds:List Value}(h:SlC w (.slice a n cap) n cs)(hb:b≤n)(hd:ds <+: cs):SlC w (.slice a b cap) b ds:=by
 obtain⟨a',cap',hv,hc,h⟩:=h
 cases hv
 refine⟨_,_,rfl,by omega,fun hn=>?_⟩
 obtain⟨bl,off,rfl,hat⟩:=h (by omega)
 refine⟨bl,off,rfl,fun j v hv=>hat j v ?_⟩
 obtain⟨r,rfl⟩:=hd
 rw [List.getElem?_append_left (List.getElem?_eq_some_iff.1 hv).1]
 exact hv
end Go.En
namespace Go.Dl
open Go.RowKit Go.En
inductive Dt where
 | v (x:Value)
 | s (sz:Nat) (rows:List (List Dt))
 | p (cells:List Dt)
 | i (t:TypeId) (x:Dt)
 | g (cells:List Dt)
 | t (xs:List Dt)
def DR (G:Nat→Prop)(w:World):Dt→Value→Prop
 | .v x,u=>u=x
 | .s sz rows,u=>∃ a cap,u=.slice a rows.length cap∧rows.length≤cap∧rows.length≤140737488355328∧(0<rows.length→∃ b off,a=some ⟨b,off,none⟩∧G b∧rowsR G w b sz off rows)
 | .p cells,u=>∃ b off,u=.pointer (some ⟨b,off,none⟩)∧G b∧cellsR G w b off cells
 | .i t x,u=>∃ v,u=.iface t v∧DR G w x v
 | .g cells,u=>∃ vs:List Value,u=.agg vs.toArray∧valsR G w true cells vs
 | .t xs,u=>∃ vs:List Value,u=.tuple vs.toArray∧valsR G w false xs vs
where
 rowsR (G:Nat→Prop) (w:World) (b sz:Nat):Nat→List (List Dt)→Prop
 | _,[]=>True
 | off,r::rs=>(r.length=sz∧cellsR G w b off r)∧rowsR G w b sz (off+sz) rs
 cellsR (G:Nat→Prop) (w:World) (b:Nat):Nat→List Dt→Prop
 | _,[]=>True
 | off,x::r=>(∃ u,w.cell? ⟨b,off,none⟩=some u∧u.oneCell'=true∧DR G w x u)∧cellsR G w b (off+1) r
 valsR (G:Nat→Prop) (w:World) (one:Bool):List Dt→List Value→Prop
 | [],vs=>vs=[]
 | x::r,vs=>∃ u us,vs=u::us∧(one=true→u.oneCell'=true)∧DR G w x u∧valsR G w one r us
mutual
theorem DR.mv {G G':Nat→Prop}{w w':World}(h:∀ b,G b→G' b∧w'.heap[b]?=w.heap[b]?):∀(x:Dt) (u:Value),DR G w x u→DR G' w' x u
 | .v x,u,e=>by rw [DR] at e ⊢;exact e
 | .s sz rows,u,e=>by
  rw [DR] at e ⊢
  obtain⟨a,cap,h1,h2,h3,h4⟩:=e
  refine⟨a,cap,h1,h2,h3,fun h0=>?_⟩
  obtain⟨b,off,h5,h6,h7⟩:=h4 h0
  exact⟨b,off,h5,(h b h6).1,B7l h b sz (h b h6).2 rows off h7⟩
 | .p cells,u,e=>by
  rw [DR] at e ⊢
  obtain⟨b,off,h5,h6,h7⟩:=e
  exact⟨b,off,h5,(h b h6).1,A5q h b (h b h6).2 cells off h7⟩
 | .i t x,u,e=>by
  rw [DR] at e ⊢
  obtain⟨v,h1,h2⟩:=e
  exact⟨v,h1,DR.mv h x v h2⟩
 | .g cells,u,e=>by
  rw [DR] at e ⊢
  obtain⟨v,h1,h2⟩:=e
  exact⟨v,h1,G4 h true cells v h2⟩
 | .t xs,u,e=>by
  rw [DR] at e ⊢
  obtain⟨v,h1,h2⟩:=e
  exact⟨v,h1,G4 h false xs v h2⟩
theorem B7l {G G':Nat→Prop}{w w':World}(h:∀ b,G b→G' b∧w'.heap[b]?=w.heap[b]?)(b sz:Nat)(hb:w'.heap[b]?=w.heap[b]?):∀(rows:List (List Dt)) (off:Nat),DR.rowsR G w b sz off rows→DR.rowsR G' w' b sz off rows
 | [],_,_=>by rw [DR.rowsR];trivial
 | r::rs,off,e=>by
  rw [DR.rowsR] at e ⊢
  exact⟨⟨e.1.1,A5q h b hb r off e.1.2⟩,B7l h b sz hb rs (off+sz) e.2⟩
theorem A5q {G G':Nat→Prop}{w w':World}(h:∀ b,G b→G' b∧w'.heap[b]?=w.heap[b]?)(b:Nat)(hb:w'.heap[b]?=w.heap[b]?):∀(cells:List Dt) (off:Nat),DR.cellsR G w b off cells→DR.cellsR G' w' b off cells
 | [],_,_=>by rw [DR.cellsR];trivial
 | x::r,off,e=>by
  rw [DR.cellsR] at e ⊢
  obtain⟨⟨u,h1,h2,h3⟩,h4⟩:=e
  exact⟨⟨u,(World.cell?_of_block hb).trans h1,h2,DR.mv h x u h3⟩,A5q h b hb r (off+1) h4⟩
theorem G4 {G G':Nat→Prop}{w w':World}(h:∀ b,G b→G' b∧w'.heap[b]?=w.heap[b]?)(one:Bool):∀(cells:List Dt) (vs:List Value),DR.valsR G w one cells vs→DR.valsR G' w' one cells vs
 | [],_,e=>by rw [DR.valsR] at e ⊢;exact e
 | x::r,vs,e=>by
  rw [DR.valsR] at e ⊢
  obtain⟨u,us,h1,h2,h3,h4⟩:=e
  exact⟨u,us,h1,h2,DR.mv h x u h3,G4 h one r us h4⟩
end
section
variable {G : Nat → Prop}{w : World}{b : Nat}
theorem cells_at:∀ {cells:List Dt} {off:Nat},DR.cellsR G w b off cells→∃ us,At w b off us∧DR.valsR G w true cells us
 | [],off,_=>⟨[],fun j v h=>by simp at h,by rw [DR.valsR]⟩
 | x::r,off,e=>by
  rw [DR.cellsR] at e
  obtain⟨⟨u,h1,h2,h3⟩,h4⟩:=e
  obtain⟨us,h5,h6⟩:=cells_at h4
  refine⟨u::us,fun j v hj=>?_,by rw [DR.valsR];exact⟨u,us,rfl,fun _=>h2,h3,h6⟩⟩
  cases j with
  | zero=>simp at hj;subst hj;exact h1
  | succ j=>have:=h5 j v (by simpa using hj);rwa [show off+1+j=off+(j+1) by omega] at this
theorem B9s:∀ {cells:List Dt} {us:List Value} {off:Nat},At w b off us→DR.valsR G w true cells us→DR.cellsR G w b off cells
 | [],us,off,_,_=>by rw [DR.cellsR];trivial
 | x::r,us,off,ha,e=>by
  rw [DR.valsR] at e
  obtain⟨u,us',rfl,h2,h3,h4⟩:=e
  rw [DR.cellsR]
  refine⟨⟨u,ha 0 u rfl,h2 rfl,h3⟩,B9s (us:=us') (fun j v hj=>?_) h4⟩
  have:=ha (j+1) v (by simpa using hj)
  rwa [show off+1+j=off+(j+1) by omega]
theorem A8o {sz:Nat}:∀ {rows:List (List Dt)} {off i:Nat} {r:List Dt},DR.rowsR G w b sz off rows→rows[i]?=some r→r.length=sz∧DR.cellsR G w b (off+i*sz) r
 | [],_,_,_,_,h=>by simp at h
 | x::rs,off,0,r,e,h=>by
  rw [DR.rowsR] at e
  simp at h
  subst h
  simpa using e.1
 | x::rs,off,i+1,r,e,h=>by
  rw [DR.rowsR] at e
  have:=A8o (i:=i) e.2 (by simpa using h)
  rwa [show off+sz+i*sz=off+(i+1)*sz by rw [Nat.add_mul];omega] at this
theorem C1s {k:Nat}:∀ {cells:List Dt} {off:Nat},DR.cellsR G w b off cells→DR.cellsR G w b (off+k) (cells.drop k):=by
 induction k with
 | zero=>intro cells off h;simpa using h
 | succ k ih=>
  intro cells off h
  cases cells with
  | nil=>rw [List.drop_nil,DR.cellsR];trivial
  | cons x r=>
   rw [DR.cellsR] at h
   have:=ih h.2
   rwa [show off+1+k=off+(k+1) by omega] at this
theorem C1r {k:Nat}:∀ {cells:List Dt} {off:Nat},DR.cellsR G w b off cells→DR.cellsR G w b off (cells.take k):=by
 induction k with
 | zero=>intro cells off h;rw [List.take_zero,DR.cellsR];trivial
 | succ k ih=>
  intro cells off h
  cases cells with
  | nil=>rw [List.take_nil,DR.cellsR];trivial
  | cons x r=>
   rw [DR.cellsR] at h
   rw [List.take_succ_cons,DR.cellsR]
   exact⟨h.1,ih h.2⟩
theorem vals_len {one:Bool}:∀ {cells:List Dt} {us:List Value},DR.valsR G w one cells us→us.length=cells.length
 | [],_,e=>by rw [DR.valsR] at e;subst e;rfl
 | x::r,_,e=>by
  rw [DR.valsR] at e
  obtain⟨u,us,rfl,_,_,h⟩:=e
  simp [vals_len h]
theorem A7q {one:Bool}:∀ {cells:List Dt} {us:List Value} {i:Nat} {x:Dt},DR.valsR G w one cells us→cells[i]?=some x→∃ u,us[i]?=some u∧(one=true→u.oneCell'=true)∧DR G w x u
 | [],_,_,_,_,h=>by simp at h
 | y::r,_,0,x,e,h=>by
  rw [DR.valsR] at e
  obtain⟨u,us,rfl,h2,h3,_⟩:=e
  simp at h
  subst h
  exact⟨u,rfl,h2,h3⟩
 | y::r,_,i+1,x,e,h=>by
  rw [DR.valsR] at e
  obtain⟨u,us,rfl,h2,h3,h4⟩:=e
  simpa using A7q h4 (by simpa using h)
theorem A3k:∀ {cells:List Dt} {us:List Value},DR.valsR G w true cells us→us.all Value.oneCell'=true
 | [],_,e=>by rw [DR.valsR] at e;subst e;rfl
 | x::r,_,e=>by
  rw [DR.valsR] at e
  obtain⟨u,us,rfl,h2,_,h⟩:=e
  simp [h2 rfl,A3k h]
end
inductive Lf where
 | d (x:Dt)
 | o (k n:Nat)
 | p (k n off:Nat)
 | m (k:Nat)
 | f (fn:Fn) (caps:List Lf)
 | g (cells:List Lf)
 | t (xs:List Lf)
 | w (k n sz a b:Nat)
def win (v:Value)(sz a b:Nat):Value:=match v with | .slice p _ cap=>.slice (if cap=a then p else p.map (·.add (a*sz))) (b-a) (cap-a)|v=>v
abbrev Gh:=Nat→Value × Nat
def Gh.to (γ γ':Gh)(k:Nat):Prop:=γ' k=γ k∨(γ k).2<(γ' k).2
theorem Gh.to_trans {a b c:Gh}{k:Nat}(h:a.to b k)(g:b.to c k):a.to c k:=by
 unfold Gh.to at*
 rcases h with h|h <;> rcases g with g|g
 ·exact .inl (g.trans h)
 ·rw [h] at g;exact .inr g
 ·rw [← g] at h;exact .inr h
 ·exact .inr (Nat.lt_trans h g)
def blk:Value→Option Nat
 | .pointer (some a)=>some a.block
 | .slice (some a) _ _=>some a.block
 | .map (some r)=>some r
 | _=>none
def LR (γ:Gh)(G:Nat→Prop)(w:World):Lf→Value→Prop
 | .d x,u=>DR G w x u
 | .o k n,u=>(n≤(γ k).2∧u.oneCell'=true)∧(n=(γ k).2→u=(γ k).1)
 | .p k n off,u=>(n≤(γ k).2∧u.oneCell'=true)∧(n=(γ k).2→∃ b,blk (γ k).1=some b∧u=.pointer (some ⟨b,off,none⟩))
 | .m k,u=>u.oneCell'=true∧((γ k).2=0→u=(γ k).1)
 | .w k n sz a b,u=>(n≤(γ k).2∧u.oneCell'=true)∧(n=(γ k).2→u=win (γ k).1 sz a b)
 | .f fn caps,u=>∃ vs:List Value,u=.func fn #[] vs.toArray∧LsR γ G w true caps vs
 | .g cells,u=>∃ vs:List Value,u=.agg vs.toArray∧LsR γ G w true cells vs
 | .t xs,u=>∃ vs:List Value,u=.tuple vs.toArray∧LsR γ G w false xs vs
where
 LsR (γ:Gh) (G:Nat→Prop) (w:World) (one:Bool):List Lf→List Value→Prop
 | [],vs=>vs=[]
 | x::r,vs=>∃ u us,vs=u::us∧(one=true→u.oneCell'=true)∧LR γ G w x u∧LsR γ G w one r us
mutual
def nam (k:Nat):Lf→Bool
 | .d _=>false
 | .o j _=>Nat.beq j k
 | .p j _ _=>Nat.beq j k
 | .m j=>Nat.beq j k
 | .w j _ _ _ _=>Nat.beq j k
 | .f _ caps=>nams k caps
 | .g cells=>nams k cells
 | .t xs=>nams k xs
def nams (k:Nat):List Lf→Bool
 | []=>false
 | x::r=>nam k x||nams k r
end
mutual
theorem LR.mv {γ γ':Gh}{G G':Nat→Prop}{w w':World}(h:∀ b,G b→G' b∧w'.heap[b]?=w.heap[b]?):∀(x:Lf) (u:Value),(∀ k,nam k x=true→γ.to γ' k)→LR γ G w x u→LR γ' G' w' x u
 | .d x,u,_,e=>by rw [LR] at e ⊢;exact DR.mv h x u e
 | .o k n,u,hg,e=>by
  rw [LR] at e ⊢
  rcases hg k (by simp [nam]) with h1|h1
  ·rw [h1];exact e
  ·exact⟨⟨by omega,e.1.2⟩,fun h2=>by omega⟩
 | .p k n off,u,hg,e=>by
  rw [LR] at e ⊢
  rcases hg k (by simp [nam]) with h1|h1
  ·rw [h1];exact e
  ·exact⟨⟨by omega,e.1.2⟩,fun h2=>by omega⟩
 | .w k n sz i j,u,hg,e=>by
  rw [LR] at e ⊢
  rcases hg k (by simp [nam]) with h1|h1
  ·rw [h1];exact e
  ·exact⟨⟨by omega,e.1.2⟩,fun h2=>by omega⟩
 | .m k,u,hg,e=>by
  rw [LR] at e ⊢
  rcases hg k (by simp [nam]) with h1|h1
  ·rw [h1];exact e
  ·exact⟨e.1,fun h2=>by omega⟩
 | .f fn caps,u,hg,e=>by
  rw [LR] at e ⊢
  obtain⟨v,h1,h2⟩:=e
  exact⟨v,h1,A1j h true caps v (fun k hk=>hg k (by simpa [nam] using hk)) h2⟩
 | .g caps,u,hg,e=>by
  rw [LR] at e ⊢
  obtain⟨v,h1,h2⟩:=e
  exact⟨v,h1,A1j h true caps v (fun k hk=>hg k (by simpa [nam] using hk)) h2⟩
 | .t caps,u,hg,e=>by
  rw [LR] at e ⊢
  obtain⟨v,h1,h2⟩:=e
  exact⟨v,h1,A1j h false caps v (fun k hk=>hg k (by simpa [nam] using hk)) h2⟩
theorem A1j {γ γ':Gh}{G G':Nat→Prop}{w w':World}(h:∀ b,G b→G' b∧w'.heap[b]?=w.heap[b]?)(one:Bool):∀(cells:List Lf) (vs:List Value),(∀ k,nams k cells=true→γ.to γ' k)→LR.LsR γ G w one cells vs→LR.LsR γ' G' w' one cells vs
 | [],_,_,e=>by rw [LR.LsR] at e ⊢;exact e
 | x::r,vs,hg,e=>by
  rw [LR.LsR] at e ⊢
  obtain⟨u,us,h1,h2,h3,h4⟩:=e
  exact⟨u,us,h1,h2,LR.mv h x u (fun k hk=>hg k (by simp [nams,hk])) h3,A1j h one r us (fun k hk=>hg k (by simp [nams,hk])) h4⟩
end
section
variable {γ : Gh}{G : Nat → Prop}{w : World}
theorem A0c {one:Bool}:∀ {cells:List Lf} {us:List Value},LR.LsR γ G w one cells us→us.length=cells.length
 | [],_,e=>by rw [LR.LsR] at e;subst e;rfl
 | x::r,_,e=>by
  rw [LR.LsR] at e
  obtain⟨u,us,rfl,_,_,h⟩:=e
  simp [A0c h]
theorem A1i {one:Bool}:∀ {cells:List Lf} {us:List Value} {i:Nat} {x:Lf},LR.LsR γ G w one cells us→cells[i]?=some x→∃ u,us[i]?=some u∧(one=true→u.oneCell'=true)∧LR γ G w x u
 | [],_,_,_,_,h=>by simp at h
 | y::r,_,0,x,e,h=>by
  rw [LR.LsR] at e
  obtain⟨u,us,rfl,h2,h3,_⟩:=e
  simp at h
  subst h
  exact⟨u,rfl,h2,h3⟩
 | y::r,_,i+1,x,e,h=>by
  rw [LR.LsR] at e
  obtain⟨u,us,rfl,h2,h3,h4⟩:=e
  simpa using A1i h4 (by simpa using h)
theorem D4j:∀ {cells:List Lf} {us:List Value},LR.LsR γ G w true cells us→us.all Value.oneCell'=true
 | [],_,e=>by rw [LR.LsR] at e;subst e;rfl
 | x::r,_,e=>by
  rw [LR.LsR] at e
  obtain⟨u,us,rfl,h2,_,h⟩:=e
  simp [h2 rfl,D4j h]
theorem A4y {one:Bool}{k:Nat}:∀ {cells:List Lf} {us:List Value},LR.LsR γ G w one cells us→LR.LsR γ G w one (cells.take k) (us.take k):=by
 induction k with
 | zero=>intro cells us _;rw [List.take_zero,List.take_zero,LR.LsR]
 | succ k ih=>
  intro cells us e
  cases cells with
  | nil=>rw [LR.LsR] at e;subst e;rw [List.take_nil,List.take_nil,LR.LsR]
  | cons x r=>
   rw [LR.LsR] at e
   obtain⟨u,us,rfl,h2,h3,h⟩:=e
   rw [List.take_succ_cons,List.take_succ_cons,LR.LsR]
   exact⟨u,_,rfl,h2,h3,ih h⟩
theorem A4z {one:Bool}{k:Nat}:∀ {cells:List Lf} {us:List Value},LR.LsR γ G w one cells us→LR.LsR γ G w one (cells.drop k) (us.drop k):=by
 induction k with
 | zero=>intro cells us e;simpa using e
 | succ k ih=>
  intro cells us e
  cases cells with
  | nil=>rw [LR.LsR] at e;subst e;rw [List.drop_nil,List.drop_nil,LR.LsR]
  | cons x r=>
   rw [LR.LsR] at e
   obtain⟨u,us,rfl,h2,h3,h⟩:=e
   exact ih h
theorem A5v {one:Bool}:∀ {cells cells':List Lf} {us us':List Value},LR.LsR γ G w one cells us→LR.LsR γ G w one cells' us'→LR.LsR γ G w one (cells++cells') (us++us')
 | [],_,_,_,e,e'=>by rw [LR.LsR] at e;subst e;exact e'
 | x::r,_,_,_,e,e'=>by
  rw [LR.LsR] at e
  obtain⟨u,us,rfl,h2,h3,h⟩:=e
  rw [List.cons_append,List.cons_append,LR.LsR]
  exact⟨u,_,rfl,h2,h3,A5v h e'⟩
theorem B0n {one:Bool}:∀ {cells:List Dt} {us:List Value},DR.valsR G w one cells us→LR.LsR γ G w one (cells.map .d) us
 | [],_,e=>by rw [DR.valsR] at e;subst e;rw [List.map_nil,LR.LsR]
 | x::r,_,e=>by
  rw [DR.valsR] at e
  obtain⟨u,us,rfl,h2,h3,h⟩:=e
  rw [List.map_cons,LR.LsR]
  exact⟨u,us,rfl,h2,by rw [LR];exact h3,B0n h⟩
end
end Go.Dl
namespace Go.Dl
open Go.RowKit Go.En
inductive Ky where
 | i (z:Int)
 | s (l:List UInt8)
 | p (a b:Int)
 deriving DecidableEq
def Ky.enc:Ky→Value
 | .i z=>int z
 | .s l=>str l
 | .p a b=>.agg #[int a,int b]
def Ky.kind:Ky→Nat
 | .i _=>0
 | .s _=>1
 | .p _ _=>2
theorem Ky.inj:∀ {a b:Ky},a.enc=b.enc→a=b
 | .i z,.i y,h=>by simp only [Ky.enc,Value.int.injEq,true_and] at h;rw [h]
 | .s l,.s m,h=>by
  have h1:(⟨l.toArray⟩:ByteArray)=⟨m.toArray⟩:=Value.string.inj h
  have h2:l.toArray=m.toArray:=congrArg ByteArray.data h1
  rw [show l=m by simpa using congrArg Array.toList h2]
 | .p a b,.p c d,h=>by simp [Ky.enc] at h;rw [h.1,h.2]
 | .i _,.s _,h=>by cases h
 | .i _,.p _ _,h=>by cases h
 | .s _,.i _,h=>by cases h
 | .s _,.p _ _,h=>by cases h
 | .p _ _,.i _,h=>by cases h
 | .p _ _,.s _,h=>by cases h
inductive Ob where
 | box (t:TypeId) (cs:List Lf)
 | ls (t:TypeId) (sz n:Nat) (rows:List (List Dt))
 | it (l:List UInt8) (pos:Nat)
 | mp (kd:Nat) (es:List (Ky × Dt))
 | dead
abbrev Fr:=List (Nat × Lf)
abbrev Hp:=List (Nat × Ob)
def lf:Fr→Nat→Option Lf
 | [],_=>none
 | (k,v)::r,s=>bif Nat.beq k s then some v else lf r s
def lo:Hp→Nat→Option Ob
 | [],_=>none
 | (k,v)::r,s=>bif Nat.beq k s then some v else lo r s
theorem J9 (k:Nat)(v:Lf)(r:Fr)(s:Nat):lf ((k,v)::r) s=if k=s then some v else lf r s:=by
 simp only [lf]
 by_cases h:k=s
 ·subst h;simp
 ·have:Nat.beq k s=false:=by
   cases hb:Nat.beq k s with
   | false=>rfl
   | true=>exact absurd (Nat.eq_of_beq_eq_true hb) h
  simp [this,h]
theorem D3 (k:Nat)(v:Ob)(r:Hp)(s:Nat):lo ((k,v)::r) s=if k=s then some v else lo r s:=by
 simp only [lo]
 by_cases h:k=s
 ·subst h;simp
 ·have:Nat.beq k s=false:=by
   cases hb:Nat.beq k s with
   | false=>rfl
   | true=>exact absurd (Nat.eq_of_beq_eq_true hb) h
  simp [this,h]
theorem Z8 (H H':Hp)(k:Nat):lo (H++H') k=(lo H k).or (lo H' k):=by
 induction H with
 | nil=>simp [lo]
 | cons p r ih=>
  obtain⟨j,ob⟩:=p
  rw [List.cons_append,D3,D3]
  split
  ·rfl
  ·exact ih
def oblk (γ:Gh)(k:Nat):Ob→Option Nat
 | .dead=>none
 | _=>blk (γ k).1
def MpR (γ:Gh)(G:Nat→Prop)(w:World):List (Ky × Dt)→List MapEntry→Prop
 | [],es=>es=[]
 | (k,x)::r,es=>∃ e q,es=e::q∧e.key=k.enc∧DR G w x e.val∧MpR γ G w r q
def OR (γ:Gh)(G:Nat→Prop)(w:World)(k:Nat):Ob→Prop
 | .box t cs=>(γ k).2=0∧∃ b vs,(γ k).1=.pointer (some ⟨b,0,none⟩)∧Row w b t vs∧LR.LsR γ G w true cs vs
 | .ls t sz n rows=>(γ k).2=n∧(∀ r∈rows,r.length=sz)∧∃ vs,w.ownsRow 0 t sz (γ k).1 rows.length vs∧DR.valsR G w true rows.flatten vs
 | .it l pos=>(γ k).2=0∧∃ b,(γ k).1=.pointer (some ⟨b,0,none⟩)∧It w b l pos
 | .mp kd es=>(γ k).2=0∧∃ b ms clock,(γ k).1=.map (some b)∧w.heap[b]?=some (.map ms clock)∧Go.MapKept.Stamped ms clock∧(∀ e∈es,e.1.kind=kd)∧MpR γ G w es ms.toList
 | .dead=>True
def namo (k:Nat):Ob→Bool
 | .box _ cs=>nams k cs
 | .ls _ _ _ _=>false
 | .it _ _=>false
 | .mp _ _=>false
 | .dead=>false
theorem A3v {w:World}{B:Nat}{e:TypeId}{sz:Nat}{v:Value}{n:Nat}{xs:List Value}(h:w.ownsRow B e sz v n xs):v.ownBlock=blk v:=by
 rcases h.2 with⟨rfl,_⟩|⟨g,cap,cur,rfl,_⟩ <;> rfl
theorem A8r {w w':World}{B:Nat}{e:TypeId}{sz:Nat}{v:Value}{n:Nat}{xs:List Value}(h:w.ownsRow B e sz v n xs)(hb:∀ b,blk v=some b→w'.heap[b]?=w.heap[b]?):w'.ownsRow B e sz v n xs:=by
 refine⟨h.1,?_⟩
 rcases h.2 with h2|⟨g,cap,cur,rfl,h3,h4,h5⟩
 ·exact .inl h2
 ·exact .inr ⟨g,cap,cur,rfl,h3,(hb g rfl).trans h4,h5⟩
theorem MpR.mv {γ γ':Gh}{G G':Nat→Prop}{w w':World}(h:∀ b,G b→G' b∧w'.heap[b]?=w.heap[b]?):∀ {es:List (Ky × Dt)} {ms:List MapEntry},MpR γ G w es ms→MpR γ' G' w' es ms
 | [],_,e=>by rw [MpR] at e ⊢;exact e
 | (k,x)::r,_,e=>by
  rw [MpR] at e ⊢
  obtain⟨m,q,h1,h2,h3,h4⟩:=e
  exact⟨m,q,h1,h2,DR.mv h x _ h3,MpR.mv h h4⟩
theorem OR.mv {γ γ':Gh}{G G':Nat→Prop}{w w':World}{k:Nat}{ob:Ob}(h:∀ b,G b→G' b∧w'.heap[b]?=w.heap[b]?)(hk:γ' k=γ k)(hn:∀ j,namo j ob=true→γ.to γ' j)(hb:∀ b,oblk γ k ob=some b→w'.heap[b]?=w.heap[b]?)(e:OR γ G w k ob):OR γ' G' w' k ob:=by
 cases ob with
 | box t cs=>
  obtain⟨h1,b,vs,h2,h3,h4⟩:=e
  exact⟨by rw [hk];exact h1,b,vs,by rw [hk];exact h2,(hb b (by simp [oblk,h2,blk])).trans h3,A1j h true cs vs (fun j hj=>hn j (by simpa [namo] using hj)) h4⟩
 | ls t sz n rows=>
  obtain⟨h1,h0,vs,h2,h4⟩:=e
  exact⟨by rw [hk];exact h1,h0,vs,by rw [hk];exact A8r h2 (fun b hb'=>hb b (by simpa [oblk] using hb')),G4 h true _ vs h4⟩
 | it l pos=>
  obtain⟨h1,b,h2,h3⟩:=e
  exact⟨by rw [hk];exact h1,b,by rw [hk];exact h2,(hb b (by simp [oblk,h2,blk])).trans h3⟩
 | mp kd es=>
  obtain⟨h1,b,ms,cl,h2,h3,h4,h5,h6⟩:=e
  exact⟨by rw [hk];exact h1,b,ms,cl,by rw [hk];exact h2,(hb b (by simp [oblk,h2,blk])).trans h3,h4,h5,MpR.mv h h6⟩
 | dead=>trivial
structure Kx (T:Nat→Prop)(w w':World):Prop where
 os:w'.os=w.os
 tape:w'.tape=w.tape
 output:w'.output=w.output
 size:w.heap.size≤w'.heap.size
 block:∀ k,k<w.heap.size→¬ T k→w'.heap[k]?=w.heap[k]?
theorem Kx.refl (T:Nat→Prop)(w:World):Kx T w w:=⟨rfl,rfl,rfl,Nat.le_refl _,fun _ _ _=>rfl⟩
theorem Kx.trans {T:Nat→Prop}{a b c:World}(h:Kx T a b)(k:Kx T b c):Kx T a c:=
 ⟨k.os.trans h.os,k.tape.trans h.tape,k.output.trans h.output,Nat.le_trans h.size k.size,fun q hq hn=>(k.block q (Nat.lt_of_lt_of_le hq h.size) hn).trans (h.block q hq hn)⟩
theorem Kx.trans' {T S:Nat→Prop}{a b c:World}(h:Kx T a b)(hS:∀ q,q<a.heap.size→S q→T q)(k:Kx S b c):Kx T a c:=
 ⟨k.os.trans h.os,k.tape.trans h.tape,k.output.trans h.output,Nat.le_trans h.size k.size,fun q hq hn=>(k.block q (Nat.lt_of_lt_of_le hq h.size) (fun hs=>hn (hS q hq hs))).trans (h.block q hq hn)⟩
theorem Kx.wk {T T':Nat→Prop}{a b:World}(h:Kx T a b)(hT:∀ q,q<a.heap.size→T q→T' q):Kx T' a b:=⟨h.os,h.tape,h.output,h.size,fun q hq hn=>h.block q hq (fun ht=>hn (hT q hq ht))⟩
theorem Kx.of_ext {T:Nat→Prop}{w w':World}(x:Ext w w'):Kx T w w':=⟨Below.os x,Below.tape x,Below.output x,x.size,fun _ hk _=>x.block hk⟩
theorem Kx.of_kb {T:Nat→Prop}{g:Option Nat}{w w':World}(k:Kb g w w')(hb:∀ b,g=some b→T b):Kx T w w':=⟨k.os,k.tape,k.output,k.size,fun q hq hn=>World.grownBy.block k q hq (fun e=>hn (hb q e.symm))⟩
theorem Kx.ext {w w':World}(h:Kx (fun _=>False) w w'):Ext w w':=⟨h.os,h.tape,h.output,h.size,fun q hq=>h.block q hq id⟩
structure Cx where
 w0:World
 G:Nat→Prop
 M:Nat→Prop
 γ0:Gh
structure Wf (c:Cx)(γ:Gh)(G:Nat→Prop)(H:Hp)(w:World):Prop where
 off:Kx c.M c.w0 w
 g0:∀ b,c.G b→G b
 glt:∀ b,G b→b<w.heap.size∧(c.G b∨c.w0.heap.size≤b∨c.M b)
 obj:∀ k ob,lo H k=some ob→OR γ G w k ob
 own:∀ k ob b,lo H k=some ob→oblk γ k ob=some b→b<w.heap.size∧¬ G b∧(c.M b∨c.w0.heap.size≤b)
 dis:∀ k k' ob ob' b,lo H k=some ob→lo H k'=some ob'→oblk γ k ob=some b→oblk γ k' ob'=some b→k=k'
 lnk:∀ k,1000≤k→c.γ0.to γ k
def Rel (c:Cx)(n:Nat)(F:Fr)(H:Hp)(a:Act)(w:World):Prop:=
 a.tmps.size=n∧a.defers=[]∧∃ γ G,Wf c γ G H w∧∀ s x,lf F s=some x→∃ u,a.tmps[s]?=some u∧LR γ G w x u
abbrev Post:=Exit→Act→World→Prop
def X (P:Program)(c:Cx)(n:Nat)(k:Code)(Q:Post)(F:Fr)(H:Hp):Prop:=∀ a w,Rel c n F H a w→k.wp P Q a w
def XL (P:Program)(c:Cx)(n:Nat)(ops:List Oper)(Q:Post)(l:List Oper)(F:Fr)(H:Hp):Prop:=∀ a w,Rel c n F H a w→wpList P ops.toArray Q l a w
def XK (c:Cx)(n:Nat)(Q:Post)(e:Exit)(F:Fr)(H:Hp):Prop:=∀ a w,Rel c n F H a w→Q e a w
def hsub:Hp→Hp→Prop
 | [],_=>True
 | (k,ob)::r,H=>lo H k=some ob∧hsub r H
theorem hsub.get:∀ {M H:Hp},hsub M H→∀ s v,lo M s=some v→lo H s=some v
 | [],_,_,_,_,h=>by simp [lo] at h
 | (k,u)::r,F,hs,s,v,h=>by
  rw [D3] at h
  split at h
  ·rename_i e;subst e;cases h;exact hs.1
  ·exact hsub.get hs.2 s v h
section
variable {P : Program}{c : Cx}{n : Nat}{Q : Post}{F F' : Fr}{H H' : Hp}{ops rest : List Oper}{o : Oper}
theorem D3p {id:Nat}{l:List Oper}(h:XL P c n l Q l F H):X P c n (.region id l.toArray false) Q F H:=fun a w hr=>wp_region_lit (h a w hr)
theorem D3s (h:XK c n Q .normal F H):XL P c n ops Q [] F H:=fun a w hr=>wpList_nil (h a w hr)
theorem H7 {x y:Code}(h:X P c n x (Exit.then (y.wp P Q) Q) F H):X P c n (.seq x y) Q F H:=fun a w hr=>wp_seq (h a w hr)
theorem D3o (h:XK c n Q .normal F H):X P c n .skip Q F H:=fun a w hr=>wp_skip (h a w hr)
theorem G2p (h:XK c n Q .ret F H):X P c n .ret Q F H:=fun a w hr=>wp_ret (h a w hr)
theorem D3r {id:Nat}(h:XK c n Q (.exit id) F H):X P c n (.exit id) Q F H:=fun a w hr=>wp_exit (h a w hr)
theorem C5m {id:Nat}{k:Code}(h:X P c n k (Exit.inBlock id Q) F H):X P c n (.block id k) Q F H:=fun a w hr=>wp_block (h a w hr)
def ef (F:Fr):Operand→Option Lf
 | .tmp t=>lf F t
 | .const v=>some (.d (.v v))
 | .global g=>some (.d (.v (.pointer (some ⟨g,0,none⟩))))
 | .func f=>some (.d (.v (.func (.func f) #[] #[])))
theorem Rel.ev {a:Act}{w:World}{γ:Gh}{G:Nat→Prop}(hs:∀ s x,lf F s=some x→∃ u,a.tmps[s]?=some u∧LR γ G w x u){x:Operand}{y:Lf}(h:ef F x=some y):LR γ G w y (a.eval x):=by
 cases x with
 | tmp t=>
  obtain⟨u,h1,h2⟩:=hs t y h
  simpa [Act.eval,Array.getD_eq_getD_getElem?,h1] using h2
 | const v=>simp only [ef,Option.some.injEq] at h;subst h;rw [LR,DR];rfl
 | global g=>simp only [ef,Option.some.injEq] at h;subst h;rw [LR,DR];rfl
 | func f=>simp only [ef,Option.some.injEq] at h;subst h;rw [LR,DR];rfl
theorem Rel.evv {a:Act}{w:World}(hr:Rel c n F H a w){x:Operand}{v:Value}(h:ef F x=some (.d (.v v))):a.eval x=v:=by
 obtain⟨_,_,γ,G,_,hs⟩:=hr
 have:=Rel.ev hs h
 rw [LR,DR] at this
 exact this
theorem B9v {x:Operand}{k l:Code}(hc:ef F x=some (.d (.v (.bool true))))(h:X P c n k Q F H):X P c n (.cond x k l) Q F H:=fun a w hr=>wp_cond_true (hr.evv hc) (h a w hr)
theorem B9w {x:Operand}{k l:Code}(hc:ef F x=some (.d (.v (.bool false))))(h:X P c n l Q F H):X P c n (.cond x k l) Q F H:=fun a w hr=>wp_cond_false (hr.evv hc) (h a w hr)
theorem G4q {x:Operand}{k l:Code}{b:Bool}(hc:ef F x=some (.d (.v (.bool b))))(ht:b=true→X P c n k Q F H)(hf:b=false→X P c n l Q F H):X P c n (.cond x k l) Q F H:=
 fun a w hr=>wp_cond_split (hr.evv hc) (fun h=>ht h a w hr) (fun h=>hf h a w hr)
theorem C5n {y:Code}(h:X P c n y Q F H):XK c n (Exit.then (y.wp P Q) Q) .normal F H:=h
theorem A6t {nx:Act→World→Prop}(h:XK c n Q .ret F H):XK c n (Exit.then nx Q) .ret F H:=h
theorem A4x {nx:Act→World→Prop}{id:Nat}(h:XK c n Q (.exit id) F H):XK c n (Exit.then nx Q) (.exit id) F H:=h
theorem G2v {id:Nat}(h:XK c n Q .normal F H):XK c n (Exit.inBlock id Q) .normal F H:=h
theorem B4c {id:Nat}(h:XK c n Q .ret F H):XK c n (Exit.inBlock id Q) .ret F H:=h
theorem B0m {id:Nat}(h:XK c n Q .normal F H):XK c n (Exit.inBlock id Q) (.exit id) F H:=fun a w hr=>by
 simp only [Exit.inBlock,if_true];exact h a w hr
theorem A6x {id j:Nat}(hj:Nat.beq j id=false)(h:XK c n Q (.exit j) F H):XK c n (Exit.inBlock id Q) (.exit j) F H:=fun a w hr=>by
 have:j≠id:=fun e=>by subst e;simp at hj
 simp only [Exit.inBlock,if_neg this];exact h a w hr
def Mid {ι:Type}(c:Cx)(n:Nat)(Ff:ι→Fr)(Hf:ι→Hp)(M:ι→Prop)(Q:Post):Post:=Exit.then (fun a w=>∃ x,Rel c n (Ff x) (Hf x) a w∧M x) Q
theorem G2r {ι:Type}(Ff:ι→Fr)(Hf:ι→Hp)(M:ι→Prop){x y:Code}(h1:X P c n x (Mid c n Ff Hf M Q) F H)(h2:∀ i,M i→X P c n y Q (Ff i) (Hf i)):X P c n (.seq x y) Q F H:=fun a w hr=>
 wp_seq (wp_mono (h1 a w hr) fun e a' w' q=>by
  cases e with
  | normal=>obtain⟨i,hi,hm⟩:=q;exact h2 i hm a' w' hi
  | _=>exact q)
theorem B0k {ι:Type}{Ff:ι→Fr}{Hf:ι→Hp}{M:ι→Prop}(h:XK c n Q .ret F H):XK c n (Mid c n Ff Hf M Q) .ret F H:=h
theorem A6v {ι:Type}{Ff:ι→Fr}{Hf:ι→Hp}{M:ι→Prop}{id:Nat}(h:XK c n Q (.exit id) F H):XK c n (Mid c n Ff Hf M Q) (.exit id) F H:=h
def Rnd {ι:Type}(c:Cx)(n:Nat)(Ff:ι→Fr)(Hf:ι→Hp)(M:ι→Prop)(m:ι→Nat)(x:ι)(Q:Post):Post:=Exit.then (fun a w=>∃ y,Rel c n (Ff y) (Hf y) a w∧M y∧m y<m x) Q
theorem B0i {ι:Type}{Ff:ι→Fr}{Hf:ι→Hp}{M:ι→Prop}{m:ι→Nat}{x:ι}(h:XK c n Q .ret F H):XK c n (Rnd c n Ff Hf M m x Q) .ret F H:=h
theorem A6u {ι:Type}{Ff:ι→Fr}{Hf:ι→Hp}{M:ι→Prop}{m:ι→Nat}{x:ι}{id:Nat}(h:XK c n Q (.exit id) F H):XK c n (Rnd c n Ff Hf M m x Q) (.exit id) F H:=h
end
end Go.Dl
