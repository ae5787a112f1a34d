/-
  Own text of the proof.
-/
import Derived.Test.YtjicdgejhkgpgaaGreatDoorUg
import Derived.Test.YtjicdgejhkgpgaaGreatDoorXSC
import Derived.Test.YtjicdgejhkgpgaaGreatDoorYj
import Derived.Test.YtjicdgejhkgpgaaGreatDoorYk
set_option linter.all false
set_option maxHeartbeats 8000000
set_option maxRecDepth 8000
namespace Go.Proofs.YtjicdgejhkgpgaaGreatDoor
open Go.RowKit Go.En Go.Pv
theorem Lu {P:Program} {L:List (Nat × Value)} {w:World} {o:Oper} {t u:TypeId} {x y:Operand} {a:Bool} [UT P t .bool] (ho:o.op=.binOp .eql t x y u) (hx:ev L x=some (.bool a)) (hy:ev L y=some (.bool a)):Val P L w o (.bool true):=fun ρ ha=>by
  have h1:=ha.ev (by rw [ho];simp [Op.operands]) hx
  have h2:=ha.ev (by rw [ho];simp [Op.operands]) hy
  have h4:=run_eql_bool (P:=P) w t a a (UT.u (P:=P) (t:=t) (d:=.bool))
  simp [execOp,ho,h1,h2,go_sem,h4]
theorem light_cp {ds:List Dc} (hL:LightDs ds):∀ d∈ds,d.sp.length≤1000000∧d.tiers.length≤1000000∧d.notes.length≤1000000:=fun d hd=>by
  have h:=hL.each d hd
  have:=h.nsp;have:=h.ntiers;have:=h.nnotes
  omega
theorem I6 {ds:List Dc} (hL:LightDs ds) (v:Value) (w:World) (hv:Sl w v ds):Calls Tryz.prog 15 #[v] w (Rt fun u w'=>Ext w w'∧SlG (fun b=>w.heap.size≤b) w' u ds):=
  dscopy15_any ds (by have:=hL.few;omega) (light_cp hL) v w hv
theorem Nr {g:Lg} (hok:LangOK g) (hb:LgBd g) (hl:g.letters.length≤1048576):LgCp g where
  segs:=by have:=hok.nsegs;omega
  units:=by have:=hok.nunits;omega
  unit u hu:=by have:=(hok.units u hu).2.2;omega
  letters:=hl
  letter l h:=hb.lettersL l h
  rules:=by have:=hok.nrules;omega
  rule r hr:=by
    obtain⟨h1,h2,_,h4,h5⟩:=hok.rules r hr
    exact⟨by omega,by omega,by omega,by omega⟩
  steps:=by have:=hok.nsteps;omega
  final:=by have:=hok.nfinal;omega
  lex:=by have:=hok.nlex;omega
  ent e he:=by
    obtain⟨_,_,_,hf,ha,hff,hr,hs,hk⟩:=hok.lex e he
    exact⟨by omega,by omega,fun f hfm=>by have:=(hff f (List.mem_cons_of_mem _ hfm)).1;omega,by omega,by omega,by omega⟩
attribute [local irreducible] E EL K Val Enters Rt Calls bodyPost Code.wp RQ
theorem law3_any (ds:List Dc) (hn:∀ d∈ds,Names d) (g:Lg) (hb:LgBd g) (hll:g.letters.length≤1048576) (id:Int) (r:Rf) (dv pv uv tv rv sv fv ev:Value) (w:World) (hT:Tabs w) (hv:Sl w dv ds) (hg:LangG Tt w g pv uv tv rv sv fv ev) :
    Calls Tryz.prog 3 #[dv,.agg #[pv,str g.oname,uv,tv,rv,int g.net.states,sv,fv,ev],int id,.agg #[int r.rcd,int r.note] ] w (Rt fun u w'=>u=.bool true∧Ext w w'):=by
  refine A7 (n:=30) (args:=[dv,.agg #[pv,str g.oname,uv,tv,rv,int g.net.states,sv,fv,ev],int id,.agg #[int r.rcd,int r.note] ]) Tryz.func3 rfl Tryz.ntmps3 (by simp) ?_
  refine Ac ?_
  refine A8 ?_
  refine Ao Z Z Z Z (fun bG wG xG hbG rG=>?_)
  refine Ao Z Z Z Z (fun bR wR xR hbR rR=>?_)
  replace rG:=rG.ext xR
  have hX:=xG.trans xR
  (repeat' ((fail_if_success (refine Ac (x:=(Code.region 3 _ _)) ?_));first|(refine A9 Z Z (A3 Z Z en12) (Gz ds hn g hb dv pv uv tv rv sv fv ev _ (hv.ext hX) (hg.ext hX)) (fun vC wC hC=>?_);obtain⟨⟨bl,rfl,hl⟩,xC⟩:=hC;replace hX:=hX.trans xC;replace rG:=rG.ext xC;replace rR:=rR.ext xC;cases bl)|(refine cqC (Bp _ (hT.ext hX)) en13 fun wA xA=>?_;replace hX:=hX.trans xA)|refine Ly ?_))
  all_goals (try (exfalso;omega))
  · exact A5 Z Z ⟨rfl,hX⟩
  obtain⟨hL,hok⟩:=hl rfl
  have hcp:=Nr hok hb hll
  refine Ac ?_
  refine E.sub (M:=[(0,dv),(2,int id),(5,.pointer (some ⟨bG,0,none⟩)),(7,.pointer (some ⟨bR,0,none⟩))]) ⟨rfl,rfl,rfl,rfl,trivial⟩ ?_
  obtain⟨ba,hba⟩:∃ b,attF ds g id r=b:=⟨_,rfl⟩
  refine E_dm 15 Aa (by kernel_rfl) Z ?_
  (repeat' (first|(refine Al (f:=15) (fun u w'=>Sl w' u ds) (fun _=>#[dv]) Z Z (fun _ _ _ _ xe h=>SlG.ext h xe) (fun _ _ _=>A3 Z Z en15) (fun wq _ xq _=>?_) ?_;exact Ag (I6 hL dv wq (hv.ext (hX.trans xq))) (fun _ _ hh=>⟨hh.2.any,hh.1⟩))|refine yV Z Z (fun wq _ xq=>Ab Z Z Z (rG.ext xq).at rfl) ?_|refine yV Z Z (fun wq _ xq=>Ab Z Z Z (rR.ext xq).at rfl) ?_|(refine Al (f:=16) (fun u w'=>∃ pv uv tv rv sv fv ev,u=.agg #[pv,str g.oname,uv,tv,rv,int g.net.states,sv,fv,ev]∧LangG Tt w' g pv uv tv rv sv fv ev) (fun _=>#[.agg #[pv,str g.oname,uv,tv,rv,int g.net.states,sv,fv,ev] ]) Z Z (fun _ _ _ _ xe h=>by obtain⟨pv,uv,tv,rv,sv,fv,ev,e,hl⟩:=h;exact⟨pv,uv,tv,rv,sv,fv,ev,e,hl.ext xe⟩) (fun _ _ _=>A3 Z Z en16) (fun wq _ xq _=>?_) ?_;exact Ag (De g hcp pv uv tv rv sv fv ev wq (hg.ext (hX.trans xq))) (fun _ _ hh=>⟨hh.2,hh.1⟩))|(refine B9 (f:=14) (v:=.bool ba) (fun δ=>#[δ 15,δ 17,int id,.agg #[int r.rcd,int r.note] ]) Z Z (fun _ _ _=>A3 Z Z en14) (fun wq δ xq hd=>?_) ?_;(obtain⟨pv',uv',tv',rv',sv',fv',ev',e,hl⟩:=hd 17 rfl _ rfl;rw [e];have:=Ci (D5 hL) g hok id r _ pv' uv' tv' rv' sv' fv' ev' wq (hd 15 rfl _ rfl) hl;rw [att_eq hL,hba] at this;exact this))|(refine B9 (f:=17) (v:=.bool ba) (fun δ=>#[dv,.agg #[pv,str g.oname,uv,tv,rv,int g.net.states,sv,fv,ev],int id,.agg #[int r.rcd,int r.note] ]) Z Z (fun _ _ _=>A3 Z Z en17) (fun wq δ xq hd=>?_) ?_;(obtain⟨nn,hnn⟩:∃ n:Nat,g.net.states=(n:Int):=⟨g.net.states.toNat,by have:=hok.net.pos;omega⟩;have:=Kd hL g hok nn hnn id r dv pv uv tv rv sv fv ev wq (hv.ext (hX.trans xq)) (hg.ext (hX.trans xq));rw [hba,← hnn] at this;exact this))|refine yV (v:=.bool true) Z Z (fun _ _ _=>Lu rfl rfl rfl) ?_|refine An Z Z (fun _ _ _=>A3 Z Z en13) (fun wq xq=>Bp wq (hT.ext (hX.trans xq))) ?_|refine B8 (fun wq δ xq hR=>?_)|refine Sy ?_|refine yqZ ?_))
  all_goals (try (exfalso;omega))
  exact A5 Z Z ⟨rfl,hX.trans xq⟩
theorem law4_any (ds:List Dc) (hn:∀ d∈ds,Names d) (g:Lg) (hb:LgBd g) (hll:g.letters.length≤1048576) (id:Int) (dv pv uv tv rv sv fv ev:Value) (w:World) (hT:Tabs w) (hv:Sl w dv ds) (hg:LangG Tt w g pv uv tv rv sv fv ev) :
    Calls Tryz.prog 4 #[dv,.agg #[pv,str g.oname,uv,tv,rv,int g.net.states,sv,fv,ev],int id] w (Rt fun u w'=>u=.bool true∧Ext w w'):=by
  refine A7 (n:=37) (args:=[dv,.agg #[pv,str g.oname,uv,tv,rv,int g.net.states,sv,fv,ev],int id]) Tryz.func4 rfl Tryz.ntmps4 (by simp) ?_
  refine Ac ?_
  refine A8 ?_
  refine Ao Z Z Z Z (fun bG wG xG hbG rG=>?_)
  have hX:=xG
  (repeat' ((fail_if_success (refine Ac (x:=(Code.region 3 _ _)) ?_));first|(refine A9 Z Z (A3 Z Z en12) (Gz ds hn g hb dv pv uv tv rv sv fv ev _ (hv.ext hX) (hg.ext hX)) (fun vC wC hC=>?_);obtain⟨⟨bl,rfl,hl⟩,xC⟩:=hC;replace hX:=hX.trans xC;replace rG:=rG.ext xC;cases bl)|(refine cqC (Bp _ (hT.ext hX)) en13 fun wA xA=>?_;replace hX:=hX.trans xA)|refine Ly ?_))
  all_goals (try (exfalso;omega))
  · exact A5 Z Z ⟨rfl,hX⟩
  obtain⟨hL,hok⟩:=hl rfl
  have hcp:=Nr hok hb hll
  refine Ac ?_
  refine E.sub (M:=[(0,dv),(2,int id),(4,.pointer (some ⟨bG,0,none⟩))]) ⟨rfl,rfl,rfl,trivial⟩ ?_
  refine E_dm 26 Aa (by kernel_rfl) Z ?_
  (repeat' (first|(refine Al (f:=15) (fun u w'=>Sl w' u ds) (fun _=>#[dv]) Z Z (fun _ _ _ _ xe h=>SlG.ext h xe) (fun _ _ _=>A3 Z Z en15) (fun wq _ xq _=>?_) ?_;exact Ag (I6 hL dv wq (hv.ext (hX.trans xq))) (fun _ _ hh=>⟨hh.2.any,hh.1⟩))|refine yV Z Z (fun wq _ xq=>Ab Z Z Z (rG.ext xq).at rfl) ?_|(refine Al (f:=16) (fun u w'=>∃ pv uv tv rv sv fv ev,u=.agg #[pv,str g.oname,uv,tv,rv,int g.net.states,sv,fv,ev]∧LangG Tt w' g pv uv tv rv sv fv ev) (fun _=>#[.agg #[pv,str g.oname,uv,tv,rv,int g.net.states,sv,fv,ev] ]) Z Z (fun _ _ _ _ xe h=>by obtain⟨pv,uv,tv,rv,sv,fv,ev,e,hl⟩:=h;exact⟨pv,uv,tv,rv,sv,fv,ev,e,hl.ext xe⟩) (fun _ _ _=>A3 Z Z en16) (fun wq _ xq _=>?_) ?_;exact Ag (De g hcp pv uv tv rv sv fv ev wq (hg.ext (hX.trans xq))) (fun _ _ hh=>⟨hh.2,hh.1⟩))|(refine Al (f:=19) (fun u w'=>Sl w' u (Cu ds g id)) (fun δ=>#[δ 13,δ 15,int id]) Z Z (fun _ _ _ _ xe h=>SlG.ext h xe) (fun _ _ _=>A3 Z Z en19) (fun wq δ xq hd=>?_) ?_;(obtain⟨pv',uv',tv',rv',sv',fv',ev',e,hl⟩:=hd 15 rfl _ rfl;rw [e];have:=H2 (D5 hL) g hok id _ pv' uv' tv' rv' sv' fv' ev' wq (hd 13 rfl _ rfl) hl;exact Ag this (fun _ _ hh=>⟨entry_eq hL g id▸hh.1.any,hh.2⟩)))|(refine Al (f:=20) (fun u w'=>Sl w' u (Cu ds g id)) (fun δ=>#[dv,.agg #[pv,str g.oname,uv,tv,rv,int g.net.states,sv,fv,ev],int id]) Z Z (fun _ _ _ _ xe h=>SlG.ext h xe) (fun _ _ _=>A3 Z Z en20) (fun wq δ xq hd=>?_) ?_;(obtain⟨nn,hnn⟩:∃ n:Nat,g.net.states=(n:Int):=⟨g.net.states.toNat,by have:=hok.net.pos;omega⟩;have:=N7 hL g hok nn hnn id dv pv uv tv rv sv fv ev wq (hv.ext (hX.trans xq)) (hg.ext (hX.trans xq));rw [← hnn] at this;exact Ag this (fun _ _ hh=>hh)))|(refine B9 (f:=18) (v:=.bool true) (fun δ=>#[δ 17,δ 21]) Z Z (fun _ _ _=>A3 Z Z en18) (fun wq δ xq hd=>?_) ?_;(have:=Kk (Cu ds g id) (Cu ds g id) _ _ wq (hd 17 rfl _ rfl) (hd 21 rfl _ rfl);rw [decide_eq_true rfl] at this;exact this))|(refine Al (f:=22) (fun u w'=>Sl w' u (P9 ds g)) (fun δ=>#[δ 25,δ 27]) Z Z (fun _ _ _ _ xe h=>SlG.ext h xe) (fun _ _ _=>A3 Z Z en22) (fun wq δ xq hd=>?_) ?_;(obtain⟨pv',uv',tv',rv',sv',fv',ev',e,hl⟩:=hd 27 rfl _ rfl;rw [e];have:=F9 (D5 hL) g hok _ pv' uv' tv' rv' sv' fv' ev' wq (hd 25 rfl _ rfl) hl;exact Ag this (fun _ _ hh=>⟨miss_eq hL g▸hh.1.any,hh.2⟩)))|(refine Al (f:=23) (fun u w'=>Sl w' u (P9 ds g)) (fun δ=>#[dv,.agg #[pv,str g.oname,uv,tv,rv,int g.net.states,sv,fv,ev] ]) Z Z (fun _ _ _ _ xe h=>SlG.ext h xe) (fun _ _ _=>A3 Z Z en23) (fun wq δ xq hd=>?_) ?_;(obtain⟨nn,hnn⟩:∃ n:Nat,g.net.states=(n:Int):=⟨g.net.states.toNat,by have:=hok.net.pos;omega⟩;have:=missing23_any hL g hok nn hnn dv pv uv tv rv sv fv ev wq (hv.ext (hX.trans xq)) (hg.ext (hX.trans xq));rw [← hnn] at this;exact Ag this (fun _ _ hh=>hh)))|(refine B9 (f:=21) (v:=.bool true) (fun δ=>#[δ 28,δ 31]) Z Z (fun _ _ _=>A3 Z Z en21) (fun wq δ xq hd=>?_) ?_;(have:=F2 (P9 ds g) (P9 ds g) _ _ wq (hd 28 rfl _ rfl) (hd 31 rfl _ rfl);rw [decide_eq_true rfl] at this;exact this))|refine An Z Z (fun _ _ _=>A3 Z Z en13) (fun wq xq=>Bp wq (hT.ext (hX.trans xq))) ?_|refine B8 (fun wq δ xq hR=>?_)|refine Sy ?_|refine yqZ ?_))
  all_goals (try (exfalso;omega))
  exact A5 Z Z ⟨rfl,hX.trans xq⟩
end Go.Proofs.YtjicdgejhkgpgaaGreatDoor
namespace Go.En
open Go.RowKit
inductive Itm (Ω:Type) where
  | n
  | t (s:Nat) (v:Value)
  | d (s:Nat) (f:Ω→Value)
  | c (s:Nat) (f:Ω→Value)
def Itm.ev {Ω:Type} (x:Ω):Itm Ω→Option (Nat × Value)
  | .n=>none
  | .t s v=>some (s,v)
  | .d s f=>some (s,f x)
  | .c s f=>some (s,f x)
def Itm.key {Ω:Type}:Itm Ω→Option Nat
  | .n=>none
  | .t s _=>some s
  | .d s _=>some s
  | .c s _=>some s
def Itm.isC {Ω:Type}:Itm Ω→Bool
  | .c _ _=>true
  | _=>false
theorem Itm.ev_key {Ω:Type} (x:Ω) (i:Itm Ω):(i.ev x).map Prod.fst=i.key:=by cases i <;> rfl
abbrev evs3 {Ω:Type} (x:Ω) (its:List (Itm Ω)):List (Option (Nat × Value)):=its.map (Itm.ev x)
section
variable {P : Program} {n : Nat} {Q : Post} {ops : List Oper} {Ω : Type}
def VD (P:Program) (R:(Nat→Prop)→Ω→World→Prop) (L:List (Nat × Value)) (w0:World) (x:Ω) (o:Oper) (v:Value):Prop:=
  (∀ w G,Ext w0 w→R G x w→Val P L w o v)∨(∃ f args,(∀ w G,Ext w0 w→R G x w→Enters P L w o f args)∧∀ w G,Ext w0 w→R G x w→Calls P f args w (Rt fun u w'=>u=v∧Ext w w'))
theorem vdV {R:(Nat→Prop)→Ω→World→Prop} {L:List (Nat × Value)} {w0:World} {x:Ω} {o:Oper} {v:Value} (h:∀ w G,Ext w0 w→R G x w→Val P L w o v):VD P R L w0 x o v:=.inl h
theorem vdC {R:(Nat→Prop)→Ω→World→Prop} {L:List (Nat × Value)} {w0:World} {x:Ω} {o:Oper} {v:Value} {f:FuncId} {args:Array Value} (h:∀ w G,Ext w0 w→R G x w→Enters P L w o f args) (hc:∀ w G,Ext w0 w→R G x w→Calls P f args w (Rt fun u w'=>u=v∧Ext w w')):VD P R L w0 x o v:=.inr ⟨f,args,h,hc⟩
def VSq3 (P:Program) (R:(Nat→Prop)→Ω→World→Prop) (w0:World) (x:Ω):List (Nat × Value)→List Oper→List (Itm Ω)→Prop
  | L,o::r,.t s v::xs=>VC P L w0 o v∧VSq3 P R w0 x ((s,v)::L) r xs
  | L,o::r,.d s f::xs=>VD P R L w0 x o (f x)∧VSq3 P R w0 x ((s,f x)::L) r xs
  | L,o::r,.c s f::xs=>(∃ g args,(∀ w,Ext w0 w→Enters P L w o g args)∧∀ w,Ext w0 w→Calls P g args w (Rt fun u w'=>∃ y,u=f y∧R (fun b=>w.heap.size≤b) y w'∧Ext w w'))∧VSq3 P R w0 x ((s,f x)::L) r xs
  | L,_::r,.n::xs=>VSq3 P R w0 x L r xs
  | _,[],[]=>True
  | _,_,_=>False
theorem VSq3.get {R:(Nat→Prop)→Ω→World→Prop} {w0:World} {x:Ω}:∀ {ops:List Oper} {L:List (Nat × Value)} {its:List (Itm Ω)},VSq3 P R w0 x L ops its→∀ {i:Nat} {o:Oper} {y:Itm Ω},ops[i]?=some o→its[i]?=some y→
    match y with
    | .n=>True
    | .t _ v=>VC P (frame L (evs3 x its) i) w0 o v
    | .d _ f=>VD P R (frame L (evs3 x its) i) w0 x o (f x)
    | .c _ f=>∃ g args,(∀ w,Ext w0 w→Enters P (frame L (evs3 x its) i) w o g args)∧∀ w,Ext w0 w→Calls P g args w (Rt fun u w'=>∃ y,u=f y∧R (fun b=>w.heap.size≤b) y w'∧Ext w w')
  | o::r,L,.t s v::xs,h,0,o',y,ho,hy=>by
    simp at ho hy;subst ho;subst hy
    exact h.1
  | o::r,L,.d s f::xs,h,0,o',y,ho,hy=>by
    simp at ho hy;subst ho;subst hy
    exact h.1
  | o::r,L,.c s f::xs,h,0,o',y,ho,hy=>by
    simp at ho hy;subst ho;subst hy
    exact h.1
  | o::r,L,.n::xs,h,0,o',y,ho,hy=>by
    simp at hy;subst hy
    trivial
  | o::r,L,.t s v::xs,h,i+1,o',y,ho,hy=>VSq3.get (L:=(s,v)::L) h.2 (i:=i) (by simpa using ho) (by simpa using hy)
  | o::r,L,.d s f::xs,h,i+1,o',y,ho,hy=>VSq3.get (L:=(s,f x)::L) h.2 (i:=i) (by simpa using ho) (by simpa using hy)
  | o::r,L,.c s f::xs,h,i+1,o',y,ho,hy=>VSq3.get (L:=(s,f x)::L) h.2 (i:=i) (by simpa using ho) (by simpa using hy)
  | o::r,L,.n::xs,h,i+1,o',y,ho,hy=>VSq3.get (ops:=r) (its:=xs) (L:=L) (show VSq3 P R w0 x L r xs from h) (i:=i) (by simpa using ho) (by simpa using hy)
  | [],_,_,_,i,_,_,ho,_=>by simp at ho
  | _::_,_,[],h,_,_,_,_,_=>h.elim
def Mv3 (R:(Nat→Prop)→Ω→World→Prop):Prop:=∀ G G' x w w',R G x w→(∀ b,G b→b<w.heap.size→G' b∧w'.heap[b]?=w.heap[b]?)→R G' x w'
structure J3 (n:Nat) (L0:List (Nat × Value)) (its:List (Itm Ω)) (w0:World) (ops:List Oper) (ia is ic p:Nat) (t:TypeId) (Zc:List Value) (X:Ω→List Value) (R:(Nat→Prop)→Ω→World→Prop) (x:Ω) (G:Nat→Prop) (C:Nat→Prop) (a:Act) (w:World):Prop where
  size:a.tmps.size=n
  nod:a.defers=[]
  ext:Ext w0 w
  base:∀ s v,lk L0 s=some v→(∀ j o,C j→ops[j]?=some o→o.dst≠some s)→a.tmps[s]?=some v
  reads:∀ j s v,C j→(evs3 x its)[j]?=some (some (s,v))→a.tmps[s]?=some v
  hp:C ia→∃ b,a.tmps[p]?=some (.pointer (some ⟨b,0,none⟩))∧w0.heap.size≤b∧b<w.heap.size∧(C ic→¬ G b)∧(C is→Row w b t (X x))∧(¬ C is→Row w b t Zc)
  rel:C ic→R G x w
def planOk (ops : List Oper) (its : List (Itm Ω)) (ia is ic : Nat) : Bool :=
  Nat.beq its.length ops.length&&((List.range ops.length).all fun i=>match its[i]? with
    | some .n=>Nat.beq i ia||Nat.beq i is
    | some (.t _ _)=>true
    | some (.d _ _)=>((bf ops).getD i 0).testBit ic
    | some (.c _ _)=>Nat.beq i ic
    | none=>false)&&((bf ops).getD is 0).testBit ic
theorem E_rel {id:Nat} {L0:List (Nat × Value)} {w0:World} (ia is ic p sx:Nat) {t:TypeId} {z:Value} {size bytes:Nat} (R:(Nat→Prop)→Ω→World→Prop) (hR:Mv3 R) (x0:Ω) (X:Ω→List Value) (its:List (Itm Ω)) [TI P t z size bytes] (hm:P.follows .mixedOrders=true)
    (hc:(I9 ops&&Gm ops ops.length&&Mk ops ops.length)=true) (hgd:ops.all (fun o=>o.guard.isNone)=true) (hds:ops.all (fun o=>okd n o.dst)=true)
    (h0:ops[ia]?.map (fun o=>(o.op,o.dst))=some (.alloc t,some p)) (h1:ops[is]?.map (fun o=>(o.op,o.dst))=some (.store t (.tmp p) (.tmp sx),none))
    (hLa:its[ia]?=some .n) (hLs:its[is]?=some .n) (hLc:(its[ic]?.map Itm.isC)=some true) (hLd:(ops.map (·.dst)).set ia none=its.map Itm.key) (hok:planOk ops its ia is ic=true) (hias:ia<is) (hp0:lk L0 p=none)
    (hX:∀ x,lk (frame L0 (evs3 x its) is) sx=some (.agg (X x).toArray)) (hXs:∀ x,(X x).length=size) (hX1:∀ x,(X x).all Value.oneCell'=true) (hz:z.cells.size=size)
    (hV:∀ x,VSq3 P R w0 x L0 ops its)
    (k:∀ x b w G,Ext w0 w→w0.heap.size≤b→¬ G b→R G x w→Row w b t (X x)→K n Q .normal ((p,.pointer (some ⟨b,0,none⟩))::frame L0 (evs3 x its) its.length) w):E P n (.region id ops.toArray true) Q L0 w0:=by
  intro a ha
  simp only [Bool.and_eq_true] at hc
  obtain⟨⟨hlow,hreads⟩,hdst⟩:=hc
  simp only [planOk,Bool.and_eq_true] at hok
  obtain⟨⟨hok1,hok2⟩,hok3⟩:=hok
  have hll:its.length=ops.length:=Nat.eq_of_beq_eq_true hok1
  have op_of:∀ {i:Nat} {x:Op × Option Tmp},ops[i]?.map (fun o=>(o.op,o.dst))=some x→∀ {o},ops[i]?=some o→o.op=x.1∧o.dst=x.2:=fun {i x} hx {o} ho=>by
    rw [ho] at hx;simp at hx;rw [← hx];exact⟨rfl,rfl⟩
  obtain⟨oa,hoa⟩:∃ o,ops[ia]?=some o:=by cases ho:ops[ia]? with|none=>rw [ho] at h0;cases h0|some o=>exact⟨o,rfl⟩
  obtain⟨os,hos⟩:∃ o,ops[is]?=some o:=by cases ho:ops[is]? with|none=>rw [ho] at h1;cases h1|some o=>exact⟨o,rfl⟩
  obtain⟨ha1,ha2⟩:=op_of h0 hoa
  obtain⟨hs1,hs2⟩:=op_of h1 hos
  dsimp only at ha1 ha2 hs1 hs2
  have evl:∀ {x:Ω} {j:Nat} {y:Itm Ω},its[j]?=some y→(evs3 x its)[j]?=some (y.ev x):=fun {x j y} h=>by rw [List.getElem?_map,h];rfl
  have hlr:∀ {i:Nat} {o:Oper},ops[i]?=some o→i≠ia→∃ y,its[i]?=some y∧o.dst=y.key:=fun {i o} ho hia=>by
    have e:=congrArg (·[i]?) hLd
    simp only [List.getElem?_map] at e
    rw [List.getElem?_set_ne (fun h=>hia h.symm),List.getElem?_map,ho,Option.map_some] at e
    cases hx:its[i]? with
    | none=>rw [hx] at e;cases e
    | some x=>rw [hx] at e;exact⟨x,rfl,by simpa using e⟩
  have rd_dst:∀ {x:Ω} {j s:Nat} {v:Value},(evs3 x its)[j]?=some (some (s,v))→j≠ia∧∃ o y,ops[j]?=some o∧o.dst=some s∧its[j]?=some y∧y.ev x=some (s,v):=fun {x j s v} hj=>by
    rw [List.getElem?_map] at hj
    cases hy:its[j]? with
    | none=>rw [hy] at hj;cases hj
    | some y=>
      rw [hy,Option.map_some,Option.some.injEq] at hj
      have hjl:=(List.getElem?_eq_some_iff.1 hy).1
      have hji:j≠ia:=fun e=>by subst e;rw [hLa] at hy;cases hy;cases hj
      obtain⟨o,ho⟩:∃ o,ops[j]?=some o:=⟨_,List.getElem?_eq_getElem (by omega)⟩
      obtain⟨y',hy',hd⟩:=hlr ho hji
      rw [hy] at hy';cases hy'
      refine⟨hji,o,y,ho,?_,rfl,hj⟩
      rw [hd,← Itm.ev_key x,hj];rfl
  have dst_j:∀ {i j:Nat} {o o':Oper} {s:Nat},ops[i]?=some o→ops[j]?=some o'→o.dst=some s→o'.dst=some s→i=j:=fun ho ho' hd hd'=>
    Cs hdst ho (List.getElem?_eq_some_iff.1 ho).1 ho' (List.getElem?_eq_some_iff.1 ho').1 hd hd'
  have hpn:p<n:=by have:=List.all_eq_true.1 hds oa (List.mem_of_getElem? hoa);rw [ha2] at this;exact Nat.le_of_ble_eq_true this
  have hzl:z.cells.toList.length=size:=by simpa using hz
  have plan:∀ {i:Nat} {y:Itm Ω},its[i]?=some y→(match y with | .n=>i=ia∨i=is | .t _ _=>True | .d _ _=>Rch ops i ic | .c _ _=>i=ic):=fun {i y} hy=>by
    have:=List.all_eq_true.1 hok2 i (by have:=(List.getElem?_eq_some_iff.1 hy).1;simp;omega)
    rw [hy] at this
    cases y with
    | n=>simp only [Bool.or_eq_true] at this;exact this.imp Nat.eq_of_beq_eq_true Nat.eq_of_beq_eq_true
    | t _ _=>trivial
    | d _ _=>exact Na this
    | c _ _=>exact Nat.eq_of_beq_eq_true this
  have hsc:Rch ops is ic:=Na hok3
  refine wp_region_any hm ?_
  rw [show ops.toArray.size=ops.length by simp]
  have hfl:∀ i,¬ LsD (Array.replicate ops.length false) i:=fun i=>by
    unfold LsD;simp [Array.getElem?_replicate];split <;> simp
  have look : ∀ {x : Ω} {G : Nat → Prop} {C : Nat → Prop} {a : Act} {w : World} {i : Nat} {o : Oper} {s : Nat} {u : Value}, J3 n L0 its w0 ops ia is ic p t z.cells.toList X R x G C a w → Clo ops C → ops[i]? = some o → ¬ C i → (∀ e ∈ o.after, Region.binds .any e = true → C e.on) → .tmp s ∈ o.op.operands → lk (frame L0 (evs3 x its) i) s = some u → a.tmps[s]? = some u := by
    intro x G C a w i o s u I hcl ho hi hed hxo hl
    have hil:=(List.getElem?_eq_some_iff.1 ho).1
    have hreach:∀ {j:Nat},Rch ops i j→C j:=fun hr=>hr.clo hcl (fun o2 ho2=>by rw [ho] at ho2;cases ho2;exact hed)
    rcases J5 hl with⟨j,h1,h2⟩|⟨h1,h2⟩
    · obtain⟨_,o2,_,ho2,hd2,_,_⟩:=rd_dst h2
      have hr:=Bu hreads ho hil ho2 (List.getElem?_eq_some_iff.1 ho2).1 (Dn hxo) hd2
      exact I.reads j s u (hreach (hr.1 (by assumption))) h2
    · refine I.base s u h1 (fun j o2 hj ho2 hd2=>?_)
      by_cases hja:j=ia
      · subst hja
        rw [hoa] at ho2;cases ho2
        rw [ha2] at hd2;cases hd2
        rw [hp0] at h1;cases h1
      · obtain⟨x2,hx2,hx3⟩:=hlr ho2 hja
        rw [hd2] at hx3
        by_cases hji:j<i
        · cases hxx:x2.ev x with
          | none=>rw [← Itm.ev_key x,hxx] at hx3;cases hx3
          | some y=>
            obtain⟨s2,v2⟩:=y
            rw [← Itm.ev_key x,hxx] at hx3
            simp at hx3;subst hx3
            exact h2 j hji _ (by rw [evl hx2,hxx])
        · by_cases hje:j=i
          · subst hje;exact hi hj
          · have hr:=Bu hreads ho hil ho2 (List.getElem?_eq_some_iff.1 ho2).1 (Dn hxo) hd2
            exact hi ((hr.2 (by omega)).clo hcl (fun o3 ho3 e he hb=>hcl _ _ ho3 hj e he hb))
  have hp_reads:∀ {C:Nat→Prop} {i:Nat} {o:Oper},Clo ops C→ops[i]?=some o→(∀ e∈o.after,Region.binds .any e=true→C e.on)→ia<i→.tmp p∈o.op.operands→C ia:=fun {C i o} hcl ho hed hlt hxo=>by
    have hr:=Bu hreads ho (List.getElem?_eq_some_iff.1 ho).1 hoa (List.getElem?_eq_some_iff.1 hoa).1 (Dn hxo) ha2
    exact(hr.1 hlt).clo hcl (fun o2 ho2=>by rw [ho] at ho2;cases ho2;exact hed)
  have hs_after:∀ {C:Nat→Prop},Clo ops C→C is→C ia:=fun {C} hcl h=>hp_reads hcl hos (fun e he hb=>hcl _ _ hos h e he hb) hias (by rw [hs1];simp [Op.operands])
  have c_in:∀ {C:Nat→Prop} {i:Nat},Clo ops C→C i→Rch ops i ic→C ic:=fun {C i} hcl h hr=>hr.clo hcl (fun o ho e he hb=>hcl _ _ ho h e he hb)
  have told:∀ {C:Nat→Prop} {j:Nat} {y:Itm Ω},Clo ops C→¬ C ic→C j→its[j]?=some y→∀ x x':Ω,y.ev x=y.ev x':=fun {C j y} hcl hnc hj hy x x'=>by
    have:=plan hy
    cases y with
    | n=>rfl
    | t _ _=>rfl
    | d _ _=>exact absurd (c_in hcl hj this) hnc
    | c _ _=>exact absurd (this▸hj) hnc
  refine any_J (J:=fun C a w=>∃ x G,J3 n L0 its w0 ops ia is ic p t z.cells.toList X R x G C a w) hlow (fun o ho=>by have:=List.all_eq_true.1 hgd o ho;simpa using this) ?_ ?_ _ _ a _ (by simp) (fun i o _ hi=>absurd hi (hfl i))
    ⟨x0,fun _=>True,⟨ha.size,ha.nod,Gk w0,fun s v hs _=>ha.get s v hs,fun j s v hj=>absurd hj (hfl j),fun hj=>absurd hj (hfl _),fun hj=>absurd hj (hfl _)⟩⟩ (by
      have:=Cd (N:=ops.length) (Nat.zero_le _) (listed:=Array.replicate ops.length false) (fun i=>⟨fun h=>absurd h (hfl i),fun h=>absurd h (Nat.not_lt_zero _)⟩)
      omega)
  · rintro C C' a w i o ⟨x,G,I⟩ hcl hi ho hed hC' K Q' hK
    have hil:=(List.getElem?_eq_some_iff.1 ho).1
    have hin:∀ {j:Nat},C j→C' j:=fun h=>(hC' _).2 (.inr h)
    have hback:∀ {j:Nat},C' j→j≠i→C j:=fun h hne=>((hC' _).1 h).resolve_left hne
    have hreachI:Rch ops i ic→C ic:=fun hr=>hr.clo hcl (fun o2 ho2=>by rw [ho] at ho2;cases ho2;exact hed)
    have stepB:∀(v:Value),(∀ s u,lk L0 s=some u→(∀ j q,C' j→ops[j]?=some q→q.dst≠some s)→(a.put o.dst v).tmps[s]?=some u):=fun v s u hs hno=>by
      rw [Hw (hno i o ((hC' i).2 (.inl rfl)) ho)]
      exact I.base s u hs (fun j o2 hj ho2=>hno j o2 (hin hj) ho2)
    have stepR:∀(x':Ω) (v:Value),(∀ j y,C j→its[j]?=some y→y.ev x'=y.ev x)→(∀ y,(evs3 x' its)[i]?=some (some y)→v=y.2)→∀ j s u,C' j→(evs3 x' its)[j]?=some (some (s,u))→(a.put o.dst v).tmps[s]?=some u:=fun x' v hsame hv j s u hj hju=>by
      obtain⟨hja,o2,y2,ho2,hd2,hy2,he2⟩:=rd_dst hju
      by_cases hji:j=i
      · subst hji
        rw [ho] at ho2;cases ho2
        have hsn:s<n:=by have:=List.all_eq_true.1 hds o (List.mem_of_getElem? ho);rw [hd2] at this;exact Nat.le_of_ble_eq_true this
        rw [hd2,hv _ hju]
        exact Mb (by rw [I.size];exact hsn)
      · rw [Hw (fun e=>hji (dst_j ho2 ho hd2 e))]
        refine I.reads j s u (hback hj hji) ?_
        rw [evl hy2,← hsame j y2 (hback hj hji) hy2,he2]
    by_cases hia:i=ia
    · subst hia
      rw [hoa] at ho;cases ho
      have hrun:=Jm (P:=P) ha1 a.eval w
      have hx:=Bc w (.cells z.cells t)
      have hnic:ic≠i:=fun e=>by subst e;rw [hLa] at hLc;cases hLc
      unfold Oper.wp
      rw [hrun]
      refine hK _ _ ⟨x,fun b=>G b∧b<w.heap.size,⟨by rw [Cy];exact I.size,by rw [F7];exact I.nod,I.ext.trans hx,stepB _,stepR x _ (fun _ _ _ _=>rfl) (fun y hy=>by rw [evl hLa] at hy;cases hy),fun _=>?_,fun h=>?_⟩⟩
      · refine⟨w.heap.size,by rw [ha2];exact Mb (by rw [I.size];exact hpn),I.ext.size,(Bv _ _ _).lt,fun _ hb=>absurd hb.2 (Nat.lt_irrefl _),fun h=>?_,fun _=>Bv _ _ _⟩
        exact absurd (hs_after hcl (hback h (by omega))) hi
      · exact hR _ _ _ _ _ (I.rel (hback h hnic)) (fun b hb hlt=>⟨⟨hb,hlt⟩,hx.block hlt⟩)
    by_cases his:i=is
    · subst his
      rw [hos] at ho;cases ho
      have hca:C ia:=hp_reads hcl hos hed hias (by rw [hs1];simp [Op.operands])
      have hcc:C ic:=hreachI hsc
      have hnic:ic≠i:=fun e=>by subst e;rw [hLs] at hLc;cases hLc
      obtain⟨b,e1,e2,e3,e4,e5,e6⟩:=I.hp hca
      have hpv:a.eval (.tmp p)=.pointer (some ⟨b,0,none⟩):=by simp [Act.eval,Array.getD_eq_getD_getElem?,e1]
      have hxv:a.eval (.tmp sx)=.agg (X x).toArray:=by
        have:=look I hcl hos hi hed (by rw [hs1];simp [Op.operands]) (hX x)
        simp [Act.eval,Array.getD_eq_getD_getElem?,this]
      obtain⟨w',hrun,r1,k1,hsz1⟩:=Kl (P:=P) hs1 (ρ:=a.eval) (w:=w) hpv hxv (hXs x) (hX1 x) (e6 hi) hzl
      unfold Oper.wp
      rw [hrun]
      refine hK _ _ ⟨x,G,⟨by rw [Cy];exact I.size,by rw [F7];exact I.nod,k1.ext I.ext (fun b' hb'=>by cases hb';exact e2),stepB _,stepR x _ (fun _ _ _ _=>rfl) (fun y hy=>by rw [evl hLs] at hy;cases hy),fun _=>?_,fun _=>?_⟩⟩
      · rw [hs2]
        exact⟨b,e1,e2,Nat.lt_of_lt_of_le e3 k1.size,fun _=>e4 hcc,fun _=>r1,fun h=>absurd ((hC' _).2 (.inl rfl)) h⟩
      · exact hR _ _ _ _ _ (I.rel hcc) (fun b' hb' hlt=>⟨hb',World.grownBy.block k1 b' hlt (fun e=>by cases e;exact e4 hcc hb')⟩)
    obtain⟨y,hy⟩:∃ y,its[i]?=some y:=⟨_,List.getElem?_eq_getElem (by omega)⟩
    have hag:Agree (frame L0 (evs3 x its) i) o a.eval:=fun z hzo u hu=>ev_of (fun s u he hl=>by
      subst he
      exact look I hcl ho hi hed hzo hl) hu
    have hpp:∀(v:Value),C' ia→∃ b,(a.put o.dst v).tmps[p]?=some (.pointer (some ⟨b,0,none⟩))∧w0.heap.size≤b∧b<w.heap.size∧(C ic→¬ G b)∧(C is→Row w b t (X x))∧(¬ C is→Row w b t z.cells.toList):=fun v hca=>by
      obtain⟨b,e1,e⟩:=I.hp (hback hca (fun e=>hia e.symm))
      refine⟨b,?_,e⟩
      rw [Hw (fun e=>hia (dst_j ho hoa e ha2))]
      exact e1
    have keep:∀(v:Value) (w':World),Ext w w'→(∀ q,(evs3 x its)[i]?=some (some q)→v=q.2)→i≠ic→K (a.put o.dst v) w':=fun v w' hx' hv hne=>by
      refine hK v w' ⟨x,G,⟨by rw [Cy];exact I.size,by rw [F7];exact I.nod,I.ext.trans hx',stepB _,stepR x _ (fun _ _ _ _=>rfl) hv,fun hca=>?_,fun h=>?_⟩⟩
      · obtain⟨b,e1,e2,e3,e4,e5,e6⟩:=hpp v hca
        exact⟨b,e1,e2,Nat.lt_of_lt_of_le e3 hx'.size,fun h=>e4 (hback h (fun e=>hne e.symm)),fun h=>(e5 (hback h (fun e=>his e.symm))).ext hx',fun h=>(e6 fun h'=>h (hin h')).ext hx'⟩
      · exact hR _ _ _ _ _ (I.rel (hback h (fun e=>hne e.symm))) (fun b hb hlt=>⟨hb,hx'.block hlt⟩)
    have hpl:=plan hy
    have hVi:=VSq3.get (hV x) ho hy
    have hey:∀ q,(evs3 x its)[i]?=some (some q)→y.ev x=some q:=fun q hq=>by rw [evl hy] at hq;exact Option.some.inj hq
    cases y with
    | n=>exact absurd hpl (fun h=>h.elim hia his)
    | t s v =>
      have hne:i≠ic:=fun e=>by subst e;rw [hy] at hLc;cases hLc
      have hq:∀ q,(evs3 x its)[i]?=some (some q)→v=q.2:=fun q h=>by cases hey q h;rfl
      rcases hVi with hval|⟨f,args,hen,hca⟩
      · have hrun:=hval w I.ext a.eval hag
        unfold Oper.wp
        rw [hrun]
        exact keep v w (Ext.refl w) hq hne
      · have hrun:=hen w I.ext a.eval hag
        unfold Oper.wp
        rw [hrun,Oper.upon_enter]
        refine(hca w I.ext).mono ?_
        rintro e w' ⟨v',rfl,rfl,hxx⟩
        exact keep _ w' hxx hq hne
    | d s f =>
      have hcc:C ic:=hreachI hpl
      have hne:i≠ic:=fun e=>hi (e▸hcc)
      have hq:∀ q,(evs3 x its)[i]?=some (some q)→f x=q.2:=fun q h=>by cases hey q h;rfl
      rcases hVi with hval|⟨g,args,hen,hca⟩
      · have hrun:=hval w G I.ext (I.rel hcc) a.eval hag
        unfold Oper.wp
        rw [hrun]
        exact keep (f x) w (Ext.refl w) hq hne
      · have hrun:=hen w G I.ext (I.rel hcc) a.eval hag
        unfold Oper.wp
        rw [hrun,Oper.upon_enter]
        refine(hca w G I.ext (I.rel hcc)).mono ?_
        rintro e w' ⟨v',rfl,rfl,hxx⟩
        exact keep _ w' hxx hq hne
    | c s f=>
      subst hpl
      obtain⟨g,args,hen,hca⟩:=hVi
      have hrun:=hen w I.ext a.eval hag
      unfold Oper.wp
      rw [hrun,Oper.upon_enter]
      refine(hca w I.ext).mono ?_
      rintro e w' ⟨v',rfl,x',rfl,hR',hxx⟩
      refine hK _ w' ⟨x',fun b=>w.heap.size≤b,⟨by rw [Cy];exact I.size,by rw [F7];exact I.nod,I.ext.trans hxx,stepB _,stepR x' _ (fun j q hj hq=>told hcl hi hj hq x' x) (fun q hq=>by rw [evl hy] at hq;cases Option.some.inj hq;rfl),fun hca'=>?_,fun _=>hR'⟩⟩
      obtain⟨b,e1,e2,e3,e4,e5,e6⟩:=hpp (f x') hca'
      have hns:¬ C is:=fun h=>hi (c_in hcl h hsc)
      exact⟨b,e1,e2,Nat.lt_of_lt_of_le e3 hxx.size,fun _ hb=>by omega,fun h=>absurd (hback h (fun e=>his e.symm)) hns,fun h=>(e6 fun h'=>h (hin h')).ext hxx⟩
  · rintro C a w hall ⟨x,G,I⟩
    obtain⟨b,e1,e2,e3,e4,e5,_⟩:=I.hp (hall _ (List.getElem?_eq_some_iff.1 hoa).1)
    have hicl:ic<ops.length:=by
      cases hy:its[ic]? with
      | none=>rw [hy] at hLc;cases hLc
      | some y=>have:=(List.getElem?_eq_some_iff.1 hy).1;omega
    refine k x b w G I.ext e2 (e4 (hall _ hicl)) (I.rel (hall _ hicl)) (e5 (hall _ (List.getElem?_eq_some_iff.1 hos).1)) a ⟨I.size,I.nod,fun s v hs=>?_⟩
    simp only [lk] at hs
    cases hb:Nat.beq p s with
    | true=>
      rw [hb] at hs;simp at hs
      have:=Nat.eq_of_beq_eq_true hb
      subst this;rw [e1,hs]
    | false =>
      rw [hb] at hs
      simp only [cond_false] at hs
      rcases J5 hs with⟨j,h1,h2⟩|⟨h1,h2⟩
      · exact I.reads j s v (hall j (by omega)) h2
      · refine I.base s v h1 (fun j o2 hj ho2 hd2=>?_)
        by_cases hja:j=ia
        · subst hja
          rw [hoa] at ho2;cases ho2
          rw [ha2] at hd2;cases hd2
          rw [hp0] at h1;cases h1
        · obtain⟨x2,hx2,hx3⟩:=hlr ho2 hja
          rw [hd2] at hx3
          cases hxx:x2.ev x with
          | none=>rw [← Itm.ev_key x,hxx] at hx3;cases hx3
          | some y=>
            obtain⟨s2,v2⟩:=y
            rw [← Itm.ev_key x,hxx] at hx3
            simp at hx3;subst hx3
            exact h2 j (by have:=(List.getElem?_eq_some_iff.1 hx2).1;omega) _ (by rw [evl hx2,hxx])
end
end Go.En
