/-
  Own text of the proof.
-/
import Derived.KernelRfl
import Derived.Test.YtjicdgejhkgpgaaGreatDoorE
set_option linter.all false
namespace Go.Pv
structure Ph where
  name:List UInt8
  feat:Int
structure Cls where
  mask:Int
  val:Int
structure Unt where
  graph:List UInt8
  segs:List Int
structure Rul where
  frm:List Int
  to:List Int
  left:List Cls
  right:List Cls
  beg:Bool
  fin:Bool
structure Stp where
  frm:Int
  cls:Int
  to:Int
  deriving DecidableEq
structure Net where
  states:Int
  steps:List Stp
  final:List Int
structure Sns where
  gloss:List UInt8
  dfn:List UInt8
  deriving DecidableEq
structure Lnk where
  kind:Int
  to:Int
  deriving DecidableEq
structure Rf where
  rcd:Int
  note:Int
  deriving DecidableEq
structure En where
  id:Int
  form:List Int
  cls:Int
  alts:List (List Int)
  main:Int
  senses:List Sns
  links:List Lnk
  refs:List Rf
structure Prt where
  entry:Int
  alt:Int
  sense:Int
  deriving DecidableEq
def aftB (steps:List Stp) (S:Int→Bool) (c:Int):Int→Bool:=fun q=>steps.any fun x=>S x.frm&&(c==0||x.cls==c)&&x.to==q
def S6 (n:Nat) (S T:Int→Bool):Bool:=(List.range n).any fun i=>S (i:Int)&&T (i:Int)
def B3y (steps:List Stp):Nat→(Int→Bool)→(Int→Bool)
  | 0,S=>S
  | k+1,S=>B3y steps k (fun q=>aftB steps S 0 q||S q)
def finB (N:Net):Int→Bool:=fun q=>N.final.contains q
def endsB (N:Net) (q:Int):Bool:=S6 N.states.toNat (B3y N.steps N.states.toNat (fun p=>p==q)) (finB N)
structure NetOK (N:Net):Prop where
  pos:1≤N.states
  few:N.states≤24
  steps:∀ x∈N.steps,0≤x.frm∧x.frm<N.states∧0≤x.to∧x.to<N.states∧1≤x.cls∧x.cls≤20
  final:∀ q∈N.final,0≤q∧q<N.states
theorem C6q {steps:List Stp} {S:Int→Bool} {c q:Int}:aftB steps S c q=true↔∃ x∈steps,S x.frm=true∧(c=0∨x.cls=c)∧x.to=q:=by
  simp [aftB,List.any_eq_true,and_assoc]
theorem B0i {n:Nat} {S T:Int→Bool}:S6 n S T=true↔∃ q:Int,0≤q∧q<n∧S q=true∧T q=true:=by
  simp only [S6,List.any_eq_true,List.mem_range,Bool.and_eq_true]
  constructor
  · rintro⟨i,hi,h1,h2⟩;exact⟨i,by omega,by omega,h1,h2⟩
  · rintro⟨q,h0,hn,h1,h2⟩
    refine⟨q.toNat,by omega,?_⟩
    rw [Int.toNat_of_nonneg h0];exact⟨h1,h2⟩
def Leads (N:Net) (S:Int→Bool):Prop:=∃ q,S q=true∧endsB N q=true
end Go.Pv
namespace Go.Pv
def inC (bandF:Int→Int→Int) (segs:List Ph) (seg:Int) (c:Cls):Bool:=
  decide (1≤seg∧seg≤(segs.length:Int))&&(match segs[(seg-1).toNat]? with|some p=>bandF p.feat c.mask==c.val|none=>false)
def A0q (bandF:Int→Int→Int) (segs:List Ph) (cs:List Cls) (xs:List Int):Bool:=(cs.zip xs).all fun p=>inC bandF segs p.2 p.1
def Q5 (bandF : Int → Int → Int) (segs : List Ph) (r : Rul) (w : List Int) (i : Nat) : Bool :=
  match w[i]? with
  | none=>false
  | some x=>
    r.frm.contains x&&decide (r.left.length≤i)&&decide (i+1+r.right.length≤w.length)&&(!r.beg||i==r.left.length)&&(!r.fin||i+1+r.right.length==w.length)
      && A0q bandF segs r.left ((w.drop (i-r.left.length)).take r.left.length)&&A0q bandF segs r.right ((w.drop (i+1)).take r.right.length)
def newF (r:Rul) (x:Int):Int:=match r.frm.findIdx? (fun y=>y==x) with|some k=>r.to.getD k 0|none=>x
def oneF (bandF:Int→Int→Int) (segs:List Ph) (r:Rul) (w:List Int) (i:Nat):Option Int:=
  let x:=w.getD i 0
  let y:=if Q5 bandF segs r w i then newF r x else x
  if y=0 then none else some y
def A4b (bandF:Int→Int→Int) (segs:List Ph) (r:Rul) (w:List Int):List Int:=(List.range w.length).filterMap (oneF bandF segs r w)
def Z5 (bandF:Int→Int→Int) (segs:List Ph) (rules:List Rul) (w:List Int):List Int:=rules.foldl (fun w r=>A4b bandF segs r w) w
theorem C3d {bandF:Int→Int→Int} {segs:List Ph} {r:Rul} {w:List Int}:∀ x∈A4b bandF segs r w,x≠0:=by
  intro x hx
  obtain⟨i,_,hi⟩:=List.mem_filterMap.1 hx
  have h2:oneF bandF segs r w i=(if (if Q5 bandF segs r w i then newF r (w.getD i 0) else w.getD i 0)=0 then none else some (if Q5 bandF segs r w i then newF r (w.getD i 0) else w.getD i 0)):=rfl
  rw [h2] at hi
  generalize (if Q5 bandF segs r w i then newF r (w.getD i 0) else w.getD i 0)=y at hi
  by_cases h:y=0
  · rw [if_pos h] at hi;cases hi
  · rw [if_neg h] at hi;cases hi;exact h
def begB (s t:List UInt8):Bool:=t.isPrefixOf s
theorem A3h {s t:List UInt8}:begB s t=true↔s.take t.length=t:=by
  unfold begB
  rw [List.isPrefixOf_iff_prefix,List.prefix_iff_eq_take]
  exact eq_comm
structure BestIs (us:List Unt) (s:List UInt8) (b:Option Nat):Prop where
  none_:b=none→∀(j:Nat) (u:Unt),us[j]?=some u→begB s u.graph=false
  some_:∀ i,b=some i→∃ u,us[i]?=some u∧begB s u.graph=true∧∀(j:Nat) (v:Unt),us[j]?=some v→begB s v.graph=true→v.graph.length≤u.graph.length∧(j<i→v.graph.length<u.graph.length)
theorem A5b {us:List Unt} {s:List UInt8} {a b:Option Nat} (ha:BestIs us s a) (hb:BestIs us s b):a=b:=by
  cases a with
  | none=>
    cases b with
    | none=>rfl
    | some i=>
      obtain⟨u,h1,h2,_⟩:=hb.some_ i rfl
      rw [ha.none_ rfl i u h1] at h2;cases h2
  | some i=>
    obtain⟨u,h1,h2,h3⟩:=ha.some_ i rfl
    cases b with
    | none=>rw [hb.none_ rfl i u h1] at h2;cases h2
    | some j=>
      obtain⟨v,k1,k2,k3⟩:=hb.some_ j rfl
      have e1:=(h3 j v k1 k2)
      have e2:=(k3 i u h1 h2)
      congr 1
      rcases Nat.lt_trichotomy i j with h|h|h
      · have:=e2.2 h;omega
      · exact h
      · have:=e1.2 h;omega
def A3g (us:List Unt) (s:List UInt8) (b:Option Nat) (i:Nat):Option Nat:=
  match us[i]? with
  | none=>b
  | some u=>if begB s u.graph then (match b with|none=>some i|some k=>(match us[k]? with|some v=>if v.graph.length<u.graph.length then some i else b|none=>b)) else b
def A5c (us:List Unt) (s:List UInt8):Option Nat:=(List.range us.length).foldl (A3g us s) none
theorem A3f (us : List Unt) (s : List UInt8) : ∀ n, n ≤ us.length → BestIs (us.take n) s ((List.range n).foldl (A3g us s) none)
  | 0,_=>⟨fun _ j u hj=>by simp at hj,fun i h=>by cases h⟩
  | n + 1, hn => by
    have ih:=A3f us s n (by omega)
    rw [List.range_succ,List.foldl_append,List.foldl_cons,List.foldl_nil]
    generalize (List.range n).foldl (A3g us s) none=b at ih ⊢
    obtain⟨u,hu⟩:∃ u,us[n]?=some u:=⟨_,List.getElem?_eq_getElem (by omega)⟩
    have hlow:∀ {j:Nat} {v:Unt},(us.take n)[j]?=some v→j<n∧us[j]?=some v:=by
      intro j v h
      have:=(List.getElem?_eq_some_iff.1 h).1
      have hj:j<n:=by simp at this;omega
      rw [List.getElem?_take_of_lt hj] at h
      exact⟨hj,h⟩
    have hup:∀ {j:Nat} {v:Unt},(us.take (n+1))[j]?=some v→j≤n∧us[j]?=some v:=by
      intro j v h
      have:=(List.getElem?_eq_some_iff.1 h).1
      have hj:j<n+1:=by simp at this;omega
      rw [List.getElem?_take_of_lt hj] at h
      exact⟨by omega,h⟩
    have hin:∀ {j:Nat} {v:Unt},j<n→us[j]?=some v→(us.take n)[j]?=some v:=fun hj h=>by rw [List.getElem?_take_of_lt hj];exact h
    have hin':∀ {j:Nat} {v:Unt},j<n+1→us[j]?=some v→(us.take (n+1))[j]?=some v:=fun hj h=>by rw [List.getElem?_take_of_lt hj];exact h
    unfold A3g
    rw [hu]
    dsimp only
    cases hb:begB s u.graph with
    | false=>
      rw [if_neg (by simp)]
      refine⟨fun e j v hj=>?_,fun i e=>?_⟩
      · obtain⟨h1,h2⟩:=hup hj
        by_cases hjn:j=n
        · subst hjn;rw [hu] at h2;cases h2;exact hb
        · exact ih.none_ e j v (hin (by omega) h2)
      · obtain⟨v,h1,h2,h3⟩:=ih.some_ i e
        obtain⟨hi,h1'⟩:=hlow h1
        refine⟨v,hin' (by omega) h1',h2,fun j x hj hx=>?_⟩
        obtain⟨h4,h5⟩:=hup hj
        by_cases hjn:j=n
        · subst hjn;rw [hu] at h5;cases h5;rw [hb] at hx;cases hx
        · exact h3 j x (hin (by omega) h5) hx
    | true=>
      rw [if_pos rfl]
      cases b with
      | none=>
        refine⟨fun e=>by(exact absurd e (by simp)),fun i e=>?_⟩
        cases e
        refine⟨u,hin' (by omega) hu,hb,fun j x hj hx=>?_⟩
        obtain⟨h4,h5⟩:=hup hj
        by_cases hjn:j=n
        · subst hjn;rw [hu] at h5;cases h5;exact⟨Nat.le_refl _,fun h=>absurd h (by omega)⟩
        · rw [ih.none_ rfl j x (hin (by omega) h5)] at hx;cases hx
      | some k=>
        obtain⟨v,h1,h2,h3⟩:=ih.some_ k rfl
        obtain⟨hk,h1'⟩:=hlow h1
        dsimp only
        rw [h1']
        dsimp only
        by_cases hlt:v.graph.length<u.graph.length
        · rw [if_pos hlt]
          refine⟨fun e=>by(exact absurd e (by simp)),fun i e=>?_⟩
          cases e
          refine⟨u,hin' (by omega) hu,hb,fun j x hj hx=>?_⟩
          obtain⟨h4,h5⟩:=hup hj
          by_cases hjn:j=n
          · subst hjn;rw [hu] at h5;cases h5;exact⟨Nat.le_refl _,fun h=>absurd h (by omega)⟩
          · have:=(h3 j x (hin (by omega) h5) hx).1
            exact⟨by omega,fun _=>by omega⟩
        · rw [if_neg hlt]
          refine⟨fun e=>by(exact absurd e (by simp)),fun i e=>?_⟩
          cases e
          refine⟨v,hin' (by omega) h1',h2,fun j x hj hx=>?_⟩
          obtain⟨h4,h5⟩:=hup hj
          by_cases hjn:j=n
          · subst hjn;rw [hu] at h5;cases h5;exact⟨by omega,fun h=>absurd h (by omega)⟩
          · exact h3 j x (hin (by omega) h5) hx
theorem C0w (us:List Unt) (s:List UInt8):BestIs us s (A5c us s):=by
  have:=A3f us s us.length (Nat.le_refl _)
  rwa [List.take_length] at this
def G3 (us : List Unt) : Nat → List UInt8 → List Int × Nat
  | 0,_=>([],0)
  | k + 1, s => if s = [] then ([], 0) else
    match A5c us s with
    | none=>([],0)
    | some i=>match us[i]? with
      | none=>([],0)
      | some u=>((i:Int)::(G3 us k (s.drop u.graph.length)).1,u.graph.length+(G3 us k (s.drop u.graph.length)).2)
def Q6 (us : List Unt) (s : List UInt8) : List Int × Int :=
  if s=[] then ([],4) else
    let p:=G3 us s.length s
    if p.2<s.length then ([],20) else
      let out:=p.1.flatMap fun i=>match us[i.toNat]? with|some u=>u.segs|none=>[]
      if 24<out.length then ([],5) else (out,0)
end Go.Pv
namespace Go.En
open Go.RowKit
def SlC (w:World) (v:Value) (n:Nat) (cs:List Value):Prop:=∃ a cap,v=.slice a n cap∧n≤cap∧(0<n→∃ b off,a=some ⟨b,off,none⟩∧At w b off cs)
theorem SlC.ext {w w':World} {v:Value} {n:Nat} {cs:List Value} (h:SlC w v n cs) (x:Ext w w'):SlC w' v n cs:=by
  obtain⟨a,cap,hv,hc,h⟩:=h
  exact⟨a,cap,hv,hc,fun hn=>by obtain⟨b,off,ha,hat⟩:=h hn;exact⟨b,off,ha,hat.ext x⟩⟩
theorem B7p {w:World} {B:Nat} {e:TypeId} {sz:Nat} {v:Value} {n:Nat} {xs:List Value} (h:w.ownsRow B e sz v n xs):SlC w v n xs:=by
  rcases W0 h with⟨rfl,rfl,rfl⟩|⟨b,cap,rfl,hc,_,_,hat⟩
  · exact⟨none,0,rfl,Nat.le_refl _,fun h=>absurd h (Nat.lt_irrefl 0)⟩
  · exact⟨_,cap,rfl,hc,fun _=>⟨b,0,rfl,hat⟩⟩
theorem C4o {w:World} {B B':Nat} {e:TypeId} {sz:Nat} {v:Value} {n:Nat} {xs:List Value} (h:w.ownsRow B e sz v n xs) (hB:B'≤B):w.ownsRow B' e sz v n xs:=by
  refine⟨h.1,?_⟩
  rcases h.2 with h2|⟨g,cap,cur,hv,hb,r⟩
  · exact .inl h2
  · exact .inr ⟨g,cap,cur,hv,Nat.le_trans hB hb,r⟩
theorem At.ith {w:World} {b off:Nat} {α:Type} {f:α→Value} {zs:List α} (h:At w b off (zs.map f)) {i:Nat} {z:α} (hz:zs[i]?=some z):w.cell? ⟨b,off+i*1,none⟩=some (f z):=by
  rw [Nat.mul_one]
  exact h i _ (by rw [List.getElem?_map,hz];rfl)
theorem At.elem {w:World} {b:Nat} {α:Type} {f:α→List Value} {k:Nat}:∀ {zs:List α} {off:Nat},(∀ z∈zs,(f z).length=k)→At w b off (zs.map f).flatten→∀ {i:Nat} {z:α},zs[i]?=some z→At w b (off+i*k) (f z)
  | [],_,_,_,i,z,h=>by simp at h
  | y::r,off,hk,h,0,z,hz=>by
    simp at hz
    subst hz
    rw [Nat.zero_mul,Nat.add_zero]
    intro j v hv
    have hj:j<(f y).length:=(List.getElem?_eq_some_iff.1 hv).1
    exact h j v (by rw [List.map_cons,List.flatten_cons,List.getElem?_append_left hj];exact hv)
  | y :: r, off, hk, h, i + 1, z, hz => by
    have hy:=hk y (by simp)
    have h2:At w b (off+k) (r.map f).flatten:=by
      intro j v hv
      have:=h (k+j) v (by rw [List.map_cons,List.flatten_cons,List.getElem?_append_right (by omega),hy,Nat.add_sub_cancel_left];exact hv)
      rwa [← Nat.add_assoc] at this
    have h3:=At.elem (fun z hz=>hk z (by simp [hz])) h2 (i:=i) (z:=z) (by simpa using hz)
    rw [show off+(i+1)*k=off+k+i*k by rw [Nat.add_mul];omega]
    exact h3
section
variable {P : Program} {n : Nat} {Q : Post} {L : List (Nat × Value)} {w w0 : World} {ops l tl : List Oper} {o : Oper} {rest : List Oper} {G : List (Nat × Ent)}
theorem B9v {w:World} {B:Nat} {e:TypeId} {size n b:Nat} {xs:List Value} (h:w.ownsRow B e size (.slice (some ⟨b,0,none⟩) n n) n xs):Row w b e xs:=by
  rcases h.2 with⟨hv,_⟩|⟨g,cap,cur,hv,_,hg,_,_,hs,ht⟩
  · cases hv
  · simp only [Value.slice.injEq,Option.some.injEq,Addr.mk.injEq,and_true,true_and] at hv
    obtain⟨rfl,rfl⟩:=hv
    unfold Row
    rw [hg,← ht,List.take_of_length_le (by simp [hs])]
theorem EL_make1 {d:Nat} {t e:TypeId} {x y:Operand} {z:Value} {bytes:Nat} [ut:UT P t (.slice e)] [ti:TI P e z 1 bytes] (hg:gst ops L o=some true) (hd:odst n o.dst=some d) (ho:o.op=.makeSlice t x y)
    {k1 k2:IntKind} {zx zy:Int} {m:Nat} (hx:ev L x=some (.int k1 zx)) (hy:ev L y=some (.int k2 zy)) (hzx:zx=(m:Int)) (hzy:zy=(m:Int)) (hz:z.cells=#[z]) (hmax:bytes*m≤281474976710656) (hmax':m≤9223372036854775807)
    (k:∀ b w',b=w.heap.size→Row w' b e (List.replicate m z)→Ext w w'→EL P n ops Q rest ((d,.slice (some ⟨b,0,none⟩) m m)::L) w'):EL P n ops Q (o::rest) L w:=
  A3l hg hd ho hx hy hzx hzy hmax hmax' fun b w' hb hown hx'=>k b w' hb (by
    have:=B9v hown
    rwa [hz,Nat.mul_one,toList_madeCells_one] at this) hx'
theorem C3g {t:TypeId} {x y:Operand} {v z:Value} {bytes:Nat} {b off:Nat} {e:TypeId} {cs:List Value} [TI P t z 1 bytes] {w0:World} (hr:Row w b e cs) (x0:Ext w0 w) (hb:w0.heap.size≤b) (hg:gst ops L o=some true) (hd:o.dst=none) (ho:o.op=.store t x y)
    (hx:ev L x=some (.pointer (some ⟨b,off,none⟩))) (hy:ev L y=some v) (hs:v.cells=#[v]) (h1:v.oneCell'=true) (hl:off<cs.length)
    (k:∀ w',Row w' b e (cs.set off v)→Ext w0 w'→Kb (some b) w w'→EL P n ops Q rest L w'):EL P n ops Q (o::rest) L w:=
  J0 hg hd ho hx hy (by rw [hs];rfl) (by rw [hs];simp [h1]) hr hl fun w' h2 h3 _=>k w' (by
    rw [hs] at h2
    rw [List.set_eq_take_append_cons_drop,if_pos hl];simpa using h2) (h3.ext x0 fun b' hb'=>by cases hb';exact hb) h3
end
section
variable {P : Program} {L : List (Nat × Value)} {w : World} {o : Oper}
theorem Z9 {t e:TypeId} {x q:Operand} {a:Option Addr} {len cap b:Nat} {kh:IntKind} {zb:Int} {zv:Value} {size bytes:Nat} [UT P t (.slice e)] [TI P e zv size bytes] (ho:o.op=.slice t x none (some q) none) (hx:ev L x=some (.slice a len cap))
    (hhi:ev L q=some (.int kh zb)) (hzb:zb=(b:Int)) (hb:b≤cap):Val P L w o (.slice a b cap):=fun ρ ha=>by
  have h1:=ha.ev (by rw [ho];simp [Op.operands]) hx
  have h4:=ha.ev (by rw [ho];simp [Op.operands]) hhi
  have h3:=J8 (t:=t) (P:=P) w
  have h5:=M3 (P:=P) (t:=e) w
  subst hzb
  have hadd:∀ y:Addr,y.add 0=y:=fun _=>rfl
  simp only [execOp,ho,Instr.sliceAt,Instr.slice,Instr.sliceBounds,Instr.sliceBound,asIntOf,h1,h4,Option.map_some,Option.map_none]
  simp [go_sem,h3,h5,hb]
theorem H8 {t e:TypeId} {x p:Operand} {a:Option Addr} {len cap b:Nat} {kl:IntKind} {za:Int} {zv:Value} {size bytes:Nat} [UT P t (.slice e)] [TI P e zv size bytes] (ho:o.op=.slice t x (some p) none none) (hx:ev L x=some (.slice a len cap))
    (hlo:ev L p=some (.int kl za)) (hza:za=(b:Int)) (hb:b≤len):Val P L w o (.slice (if cap=b then a else a.map (·.add (b*size))) (len-b) (cap-b)):=fun ρ ha=>by
  have h1:=ha.ev (by rw [ho];simp [Op.operands]) hx
  have h4:=ha.ev (by rw [ho];simp [Op.operands]) hlo
  have h3:=J8 (t:=t) (P:=P) w
  have h5:=M3 (P:=P) (t:=e) w
  subst hza
  simp only [execOp,ho,Instr.sliceAt,Instr.slice,Instr.sliceBounds,Instr.sliceBound,asIntOf,h1,h4,Option.map_some,Option.map_none]
  simp [go_sem,h3,h5,hb]
end
theorem SlC.take {w:World} {a:Option Addr} {n cap b:Nat} {cs ds:List Value} (h:SlC w (.slice a n cap) n cs) (hb:b≤n) (hd:ds <+: cs):SlC w (.slice a b cap) b ds:=by
  obtain⟨a',cap',hv,hc,h⟩:=h
  cases hv
  refine⟨_,_,rfl,by omega,fun hn=>?_⟩
  obtain⟨bl,off,rfl,hat⟩:=h (by omega)
  refine⟨bl,off,rfl,fun j v hv=>hat j v ?_⟩
  obtain⟨r,rfl⟩:=hd
  rw [List.getElem?_append_left (List.getElem?_eq_some_iff.1 hv).1]
  exact hv
end Go.En
