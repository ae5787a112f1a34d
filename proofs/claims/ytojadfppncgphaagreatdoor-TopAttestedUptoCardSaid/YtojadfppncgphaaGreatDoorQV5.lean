/- Own text. -/
import Derived.Test.YtojadfppncgphaaGreatDoorQYk
set_option linter.all false
set_option maxHeartbeats 16000000
namespace Go.Proofs.YtojadfppncgphaaGreatDoor
open Go.RowKit Go.En Go.Dl Go.Tp
def D1r (segs:List Phn)(s:Int):Int:=((segs[(s-1).toNat]?).map (·.feat)).getD 0
def inB (segs:List Phn)(s:Int)(c:Cls):Bool:=K0 segs.length s&&decide (c.value=C5h (D1r segs s) c.mask)
def A0j (segs:List Phn):List Cls→List Int→Bool
 | c::r,s::q=>inB segs s c&&A0j segs r q
 | _,_=>true
def B1n (segs : List Phn)(r : Rew)(w : List Int)(i : Nat)(x : Int) : Bool :=
 hasI r.frm x&&(decide (r.left.length≤i)&&(decide (i+1+r.right.length≤w.length)&&(!(r.beg&&decide (r.left.length<i))&&(!(r.fin&&decide (i+1+r.right.length<w.length))&&
  (A0j segs r.left ((w.drop (i-r.left.length)).take r.left.length)&&A0j segs r.right ((w.drop (i+1)).take r.right.length))))))
def newP (r:Rew)(x:Int):Int:=r.til.getD (ixF (fun y=>decide (x=y)) r.frm 0).toNat 0
def oneP (segs:List Phn)(r:Rew)(w:List Int)(i:Nat)(x:Int):List Int:=if B1n segs r w i x then (if newP r x=0 then [] else [newP r x]) else [x]
def S6 (segs:List Phn)(r:Rew)(w:List Int):Nat→List Int→List Int
 | _,[]=>[]
 | i,x::q=>oneP segs r w i x++S6 segs r w (i+1) q
def A5t (segs:List Phn)(w:List Int)(r:Rew):List Int:=S6 segs r w 0 w
def B8m (segs:List Phn)(rules:List Rew)(w:List Int):List Int:=rules.foldl (A5t segs) w
def uIx (us:List Unt)(s:Tx):Int:=ixF (fun u:Unt=>decide (u.graph=s)) us 0
def nxtU (us:List Unt)(s:Tx):Nat→Option (Nat × Nat)
 | 0=>none
 | n+1=>if 0≤uIx us (s.take (n+1)) then some ((uIx us (s.take (n+1))).toNat,n+1) else nxtU us s n
def A8z (us:List Unt):Nat:=us.foldl (fun m u=>max m u.graph.length) 0
def O3 (us : List Unt) : Nat → Tx → List Nat × Nat
 | 0,_=>([],0)
 | k+1,s=>if s=[] then ([],0) else match nxtU us s (min (A8z us) s.length) with
  | none=>([],0)
  | some (i,n)=>(i::(O3 us k (s.drop n)).1,n+(O3 us k (s.drop n)).2)
def O4 (us:List Unt)(s:Tx):List Nat × Nat:=O3 us s.length s
def outU (us:List Unt)(l:List Nat):List Int:=l.flatMap fun i=>((us[i]?).map (·.segs)).getD []
def A3s (us:List Unt)(s:Tx):List Int × Int × Int:=
 if s=[] then ([],0,4) else if (O4 us s).2<s.length then ([],(O4 us s).2,20) else if 24<(outU us (O4 us s).1).length then ([],0,5) else (outU us (O4 us s).1,0,0)
def A5n (e:Entr):List (List Int):=e.form::e.alts
def senG (l:List Entr):Nat→Int→List Sns
 | 0,_=>[]
 | n+1,id=>match getE l id with|none=>[]|some e=>if e.senses.length≠0 then e.senses else if e.main=0 then [] else senG l n e.main
def senF (l:List Entr)(id:Int):List Sns:=senG l (l.length+1) id
def aftP (steps:List Stp)(st:Nat)(cls:Int):Nat:=steps.foldl (fun out x=>if x.cls=cls∧(st >>> x.frm.toNat) &&& 1=1 then out ||| 2 ^ x.til.toNat else out) 0
def finP (l:List Int):Nat:=l.foldl (fun out q=>out ||| 2 ^ q.toNat) 0
def shrB (rules:List Rew):Bool:=rules.any fun r=>r.til.any fun x=>decide (x=0)
def fitB (g:Lng)(w base:List Int):Bool:=decide ((B8m g.segs g.rules base).length≠0)&&decide (B8m g.segs g.rules base=w)
abbrev Tr:=List (Tx × Bool)
def keyT (w:List Int):Tx:=w.map fun x=>UInt8.ofNat x.toNat
def trG:Tr→Tx→Option Bool
 | [],_=>none
 | (k,b)::r,x=>if k=x then some b else trG r x
def B3p (g:Lng)(w base:List Int)(tr:Tr):Bool × Tr:=match trG tr (keyT base) with
 | some b=>(b,tr)
 | none=>(fitB g w base,tr++[(keyT base,fitB g w base)])
def A4l (g:Lng)(w:List Int)(id:Int)(parts:List Prt)(st:Nat)(base:List Int)(tr:Tr):Bool × Tr:=
 if parts.length≠0∧st &&& finP g.net.final≠0∧w.length≤base.length then ((B3p g w base tr).1&&parts.anyB fun p=>decide (p.entry=id),(B3p g w base tr).2) else (false,tr)
def Q8 {α:Type}(f:Nat→α→Tr→Bool × Tr):Nat→List α→Tr→Bool × Tr
 | _,[],tr=>(false,tr)
 | i,x::r,tr=>if (f i x tr).1 then (true,(f i x tr).2) else Q8 f (i+1) r (f i x tr).2
def A0n (g : Lng)(w : List Int)(W : List Prt → Nat → List Int → Tr → Bool × Tr)(e : Entr)(parts : List Prt)(nx : Nat)(base : List Int)(tr : Tr) : Bool × Tr :=
 if (senF g.lex e.id).length=0 then (false,tr) else
  Q8 (fun i f t=>if 24<base.length+f.length∨(shrB g.rules=false∧w.length<base.length+f.length) then (false,t) else W (parts++[⟨e.id,(i:Int),0⟩]) nx (base++f) t) 0 (A5n e) tr
def P0 (g : Lng)(w : List Int)(id : Int) : Nat → List Prt → Nat → List Int → Tr → Bool × Tr
 | 0,parts,st,base,tr=>A4l g w id parts st base tr
 | k + 1, parts, st, base, tr =>
  if (A4l g w id parts st base tr).1 then (true,(A4l g w id parts st base tr).2) else
   Q8 (fun _ e t=>if aftP g.net.steps st e.cls≠0 then A0n g w (P0 g w id k) e parts (aftP g.net.steps st e.cls) base t else (false,t)) 0 g.lex (A4l g w id parts st base tr).2
def A3m (g:Lng)(w:List Int)(id:Int):Bool:=if w.length=0∨24<w.length then false else (P0 g w id 4 [] 1 [] []).1
def B0b (docs : List Doc)(g : Lng)(r : Rf) : Option (List Int) :=
 match docF docs r.rcd with
 | none=>none
 | some d=>match getN d.notes r.note with
  | none=>none
  | some n=>if n.tier≠H9 d.tiers 2 then none else if (A3s g.ortho.units n.text).2.2≠0 then none else some (A3s g.ortho.units n.text).1
def attP (docs:List Doc)(g:Lng)(id:Int)(r:Rf):Bool:=hasE g.lex id&&match B0b docs g r with|some w=>A3m g w id|none=>false
def A0k (p:Prj)(v:Vwr)(g:Lng)(e:Entr):Bool:=e.refs.any fun r=>K7 p v r&&attP p.docs g e.id r
def delI (st:List Int)(x:Int):List Int:=st.filter fun y=>decide (y≠x)
def C9g (st:List Int)(e:Entr):Bool:=hasI st e.id&&(decide (e.senses.length=0)&&!hasI st e.main)
def A2m (lex:List Entr)(st:List Int):List Int:=lex.foldl (fun st e=>if C9g st e then delI st e.id else st) st
def settle (lex:List Entr):Nat→List Int→List Int
 | 0,st=>st
 | k+1,st=>if (A2m lex st).length=st.length then A2m lex st else settle lex k (A2m lex st)
def rndF (p:Prj)(v:Vwr)(st:List Int):List Int:=(K8 p.lang st).lex.foldl (fun s e=>if A0k p v (K8 p.lang st) e then s else delI s e.id) st
def A6a (p:Prj)(v:Vwr):Nat→List Int→List Int
 | 0,st=>st
 | k+1,st=>if (rndF p v (settle p.lang.lex (st.length+1) st)).length=st.length then rndF p v (settle p.lang.lex (st.length+1) st) else A6a p v k (rndF p v (settle p.lang.lex (st.length+1) st))
def L8 (p:Prj)(v:Vwr):List Int:=A6a p v (p.lang.lex.length+1) (p.lang.lex.map (·.id))
def L7 (p:Prj)(v:Vwr):List Doc:=(p.docs.filter fun d=>decide ((D4 p.rgts d.rc v).length≠0)).map fun d=>clrF p (L8 p v) (redF d (D4 p.rgts d.rc v))
def L6 (p:Prj)(v:Vwr):Lng:={ K8 p.lang (L8 p v) with lex:=(K8 p.lang (L8 p v)).lex.map fun e=>{ e with refs:=remF p v (L7 p v) e.refs } }
def vPnt (p:Prj)(v:Vwr)(x:Pnt):Pnt:={ x with refs:=remF p v (L7 p v) x.refs,entries:=x.entries.filter fun i=>hasI (L8 p v) i }
def P1 (p:Prj)(v:Vwr):Prj where
 lang:=L6 p v
 docs:=L7 p v
 dcns:=p.dcns.filter fun d=>decide ((remF p v (L7 p v) [d.ref]).length≠0)&&T6 d.pick (L8 p v)
 pnts:=(p.pnts.map (vPnt p v)).filter fun x=>decide (x.refs.length≠0)
 rgts:=p.rgts
end Go.Proofs.YtojadfppncgphaaGreatDoor
