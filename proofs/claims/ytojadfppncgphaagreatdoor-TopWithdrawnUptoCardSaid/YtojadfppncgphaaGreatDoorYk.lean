/- Own text. -/
import Derived.Test.YtojadfppncgphaaGreatDoorYj
set_option linter.all false
set_option maxHeartbeats 16000000
namespace Go.Proofs.YtojadfppncgphaaGreatDoor
section
open Go.RowKit Go.En Go.Dl Go.Tp
def fstE {α:Type} (f:Nat→α→Int):Nat→List α→Int
 | _,[]=>0
 | i,x::r=>if f i x≠0 then f i x else fstE f (i+1) r
def orE (a b:Int):Int:=if a≠0 then a else b
def allI {α:Type} (p:Nat→α→Bool):Nat→List α→Bool
 | _,[]=>true
 | i,x::r=>p i x&&allI p (i+1) r
def prvB {α:Type} (p:α→Bool) (l:List α):Nat→Bool
 | 0=>false
 | j+1=>match l[j]? with|some h=>p h|none=>false
theorem B7 {α:Type} {l:List α} {i:Nat} {m:α} (h:l[i-1]?=some m):∀ p:α→Bool,prvB p l i=(decide (0<(i:Int))&&p m):=by
 intro p
 cases i with
 | zero=>simp [prvB]
 | succ j=>
  rw [Nat.add_sub_cancel] at h
  simp only [prvB,h]
  have:(0:Int)<((j+1:Nat):Int):=by omega
  simp [this]
def idB (n:Int):Bool:=decide (1≤n)&&decide (n≤1099511627776)
def B3i (c:UInt8):Bool:=decide (97≤(c.toNat:Int))&&decide ((c.toNat:Int)≤122)
def nmB (i:Nat) (c:UInt8):Bool:=B3i c||(decide (i≠0)&&(decide ((c.toNat:Int)=45)||decide ((c.toNat:Int)=95)||(decide (48≤(c.toNat:Int))&&decide ((c.toNat:Int)≤57))))
def A1y (s:Tx):Bool:=allI nmB 0 s&&(decide (1≤(s.length:Int))&&decide ((s.length:Int)≤32))
def ctlB (c:UInt8):Bool:=decide ((c.toNat:Int)<32)||decide ((c.toNat:Int)=127)
def upB:List Int→Bool
 | a::b::r=>decide (a<b)&&upB (b::r)
 | _=>true
def perF (l:List Pers) (id:Int):Option Pers:=l.find? fun x=>decide (x.id=id)
def grpF (l:List Grp) (id:Int):Option Grp:=l.find? fun x=>decide (x.id=id)
def putI:List Int→Int→List Int
 | [],n=>[n]
 | a::r,n=>if a<n then a::putI r n else if a=n then a::r else n::a::r
def srtR (l:List Int):List Int:=l.foldl putI []
def uniR (a b:List Int):List Int:=b.foldl putI (srtR a)
def grpE (people:List Pers) (l:List Grp) (i:Nat) (g:Grp):Int:=
 if idB g.id=false then 2 else if prvB (fun h=>decide (g.id≤h.id)) l i then 10 else if A1y g.name=false then 7 else if upB g.people=false then 10 else if (g.people.allB fun x=>(perF people x).isSome)=false then 9 else if upB g.subs=false then 10 else 0
def A7u (l:List Grp) (out:List Int):List Int:=out.foldl (fun more k=>match grpF l k with|some g=>uniR more g.subs|none=>more) out
def itr {α:Type} (f:α→α):Nat→α→α
 | 0,a=>a
 | n+1,a=>itr f n (f a)
def belR (l:List Grp) (id:Int):List Int:=itr (A7u l) l.length (match grpF l id with|some g=>srtR g.subs|none=>[])
def hasR (l:List Int) (a:Int):Bool:=l.anyB fun x=>decide (x=a)
def C2b (people:List Pers) (l:List Grp):Int:=
 if 20<l.length then 11 else orE (fstE (grpE people l) 0 l) (if (l.allB fun g=>g.subs.allB fun s=>(grpF l s).isSome)=false then 9 else if (l.anyB fun g=>hasR (belR l g.id) g.id) then 17 else 0)
def conE (people:List Pers) (l:List Cons) (i:Nat) (c:Cons):Int:=
 if (perF people c.person).isSome=false then 9 else if c.rcd<0∨1099511627776<c.rcd then 2 else if c.day<1∨109573<c.day then 12 else if c.kind<0∨2<c.kind then 14 else if prvB (fun h=>decide (c.day<h.day)) l i then 10 else 0
def D0t (people:List Pers) (l:List Cons):Int:=if 60<l.length then 11 else fstE (conE people l) 0 l
def gvN (l:List Cons) (d:Int):Nat→Nat
 | 0=>0
 | k+1=>match l[k]? with|some x=>if d<x.day then gvN l d k else k+1|none=>k+1
def A5l (l:List Cons) (c:Cons):List Cons:=l.take (gvN l c.day l.length)++c::l.drop (gvN l c.day l.length)
def C7b (groups:List Grp) (p:Prot):Int:=
 if p.level<0∨3<p.level then 14 else if p.groups.length≠0∧p.level≠2 then 1 else if p.groups.length=0∧p.level=2 then 4 else
 orE (fstE (fun i g=>if prvB (fun h=>decide (g≤h)) p.groups i then 10 else if (groups.anyB fun x=>decide (x.id=g))=false then 9 else 0) 0 p.groups) (if p.til<0∨109573<p.til then 12 else 0)
def A8 (s:Spn):Bool:=decide (0≤s.frm)&&(decide (s.frm<s.til)&&decide (s.til≤86400000))
def rulE (recs:List Rc) (groups:List Grp) (x:Rul):Int:=
 if idB x.rcd=false then 2 else if ¬ (x.span.frm=0∧x.span.til=0)∧A8 x.span=false then 12 else if (recs.anyB fun r=>decide (r.id=x.rcd)&&decide (r.len<x.span.til)) then 12 else C7b groups x.prot
end
section
open Go.RowKit Go.En Go.Dl Go.Tp
def encN (p:Nat):List Nat:=if p<128 then [p] else if p<2048 then [192+p / 64,128+p % 64] else if p<65536 then [224+p / 4096,128+p / 64 % 64,128+p % 64] else [240+p / 262144,128+p / 4096 % 64,128+p / 64 % 64,128+p % 64]
def encB (p:Nat):Tx:=(encN p).map UInt8.ofNat
def scal (p:Nat):Bool:=decide (p≤1114111)&&(decide (p<55296)||decide (57343<p))
def B1j (b:Nat):Nat:=if 240≤b then b-240 else if 224≤b then b-224 else if 192≤b then b-192 else b
def A0g (b:Nat):Nat:=if 240≤b then 4 else if 224≤b then 3 else if 192≤b then 2 else 1
def accP (d:Tx):Nat→Nat
 | 0=>0
 | 1=>B1j (d.getD 0 0).toNat
 | k+1=>accP d k*64+(d.getD k 0).toNat % 64
def M4 (d:Tx):Option (Nat × Nat):=
 if d.length<A0g (d.getD 0 0).toNat then none
 else if scal (accP d (A0g (d.getD 0 0).toNat))=true∧encB (accP d (A0g (d.getD 0 0).toNat))=d.take (A0g (d.getD 0 0).toNat) then some (accP d (A0g (d.getD 0 0).toNat),A0g (d.getD 0 0).toNat) else none
theorem B1k (b:Nat):1≤A0g b∧A0g b≤4:=by unfold A0g;(repeat' split) <;> omega
theorem A0j {d:Tx} {p n:Nat} (h:M4 d=some (p,n)):1≤n∧n≤d.length:=by
 unfold M4 at h
 split at h
 ·cases h
 ·split at h
  ·simp only [Option.some.injEq,Prod.mk.injEq] at h
   obtain⟨rfl,rfl⟩:=h
   exact⟨(B1k _).1,by omega⟩
  ·cases h
def A5e:Nat→Tx→Option (List Nat)
 | 0,_=>some []
 | k+1,d=>if d=[] then some [] else match M4 d with|none=>none|some (p,n)=>(A5e k (d.drop n)).map (p::·)
def points (d:Tx):Option (List Nat):=A5e d.length d
theorem A0y (k:Nat):A5e k []=some []:=by cases k <;> simp [A5e]
theorem A7l : ∀ (k m : Nat) (d : Tx), d.length ≤ k → d.length ≤ m → A5e k d = A5e m d
 | 0,m,d,hk,_=>by
  have:d=[]:=List.eq_nil_of_length_eq_zero (by omega)
  subst this;rw [A0y,A0y]
 | k+1,0,d,_,hm=>by
  have:d=[]:=List.eq_nil_of_length_eq_zero (by omega)
  subst this;rw [A0y,A0y]
 | k + 1, m + 1, d, hk, hm => by
  simp only [A5e]
  by_cases hd:d=[]
  ·rw [if_pos hd,if_pos hd]
  ·rw [if_neg hd,if_neg hd]
   cases hf:M4 d with
   | none=>rfl
   | some q=>
    obtain⟨p,n⟩:=q
    have:=A0j hf
    dsimp only
    rw [A7l k m (d.drop n) (by rw [List.length_drop];omega) (by rw [List.length_drop];omega)]
theorem B9a:points []=some []:=rfl
theorem B6c {d:Tx} (hd:d≠[]):points d=match M4 d with|none=>none|some (p,n)=>(points (d.drop n)).map (p::·):=by
 have hl:0<d.length:=List.length_pos_iff.2 hd
 obtain⟨k,hk⟩:∃ k,d.length=k+1:=⟨d.length-1,by omega⟩
 unfold points
 rw [hk]
 simp only [A5e]
 rw [if_neg hd]
 cases hf:M4 d with
 | none=>rfl
 | some q=>
  obtain⟨p,n⟩:=q
  have:=A0j hf
  dsimp only
  rw [A7l k (d.drop n).length _ (by rw [List.length_drop];omega) (Nat.le_refl _)]
def J6 (s:Tx):Bool:=!(s.anyB ctlB)&&((points s).isSome&&(decide (1≤(s.length:Int))&&decide ((s.length:Int)≤32)))
def natI (l:List Nat):List Int:=l.map Int.ofNat
def A4z (s:Tx):Int:=if 200<(s.length:Int) then 5 else match points s with|none=>3|some l=>if ((natI l).anyB fun z=>decide (z<32)||decide (z=127)) then 3 else 0
def C7i (l:List Pers):Int:=if 40<l.length then 11 else fstE (fun i p=>if idB p.id=false then 2 else if prvB (fun h=>decide (p.id≤h.id)) l i then 10 else if J6 p.name=false then 7 else 0) 0 l
def recE (l:List Pers) (r:Rc):Int:=
 if idB r.id=false then 2 else if A1y r.name=false then 7 else if r.len<1∨86400000<r.len then 12 else if r.day<1∨109573<r.day then 2 else if r.sp.length=0 then 1 else
 fstE (fun i s=>if prvB (fun h=>decide (s≤h)) r.sp i then 10 else if (perF l s).isSome=false then 9 else 0) 0 r.sp
def C6x (l:List Pers) (recs:List Rc):Int:=if 12<recs.length then 11 else
 fstE (fun i r=>if recE l r≠0 then recE l r else if prvB (fun h=>decide (r.id≤h.id)) recs i then 10 else if ((recs.take i).anyB fun x=>decide (x.name=r.name)) then 8 else 0) 0 recs
def B5x (recs:List Rc) (a:Rgts):Int:=
 orE (C7i a.people) (orE (C6x a.people recs) (orE (C2b a.people a.groups) (orE (D0t a.people a.consents) (if 60<a.rules.length then 11 else fstE (fun _ x=>rulE recs a.groups x) 0 a.rules))))
def A2z (a:Rgts) (recs:List Rc):Bool:=if 8<a.people.length∨6<a.groups.length∨12<a.consents.length∨10<a.rules.length∨4<recs.length then false else decide (B5x recs a=0)
def K6 (k:Int):Bool:=decide (k=0)||(decide (k=1)||decide (k=2))
def B1n (r:Int):Int:=if r=1 then 0 else if r=3 then 3 else if r=4∨r=5 then 4 else -1
def B0w (r:Int):Int:=if r=2∨r=5 then 1 else if r=3 then 2 else if r=4 then 3 else -1
def G2s:Tier:=⟨[],0,0,0⟩
def tAt (l:List Tier) (i:Int):Tier:=(l[i.toNat]?).getD G2s
def A6y (l:List Tier) (i:Nat) (t:Tier):Int:=
 if A1y t.name=false then 7 else if ((l.take i).anyB fun x=>decide (x.name=t.name)) then 8 else if t.kind<0∨4<t.kind then 14 else if t.role<0∨5<t.role then 2 else
 if ((l.take i).anyB fun x=>decide (t.role≠0)&&decide (x.role=t.role)) then 8 else
 if (t.kind=0∧t.parent ≠ -1)∨(t.kind≠0∧(t.parent<0∨(i:Int)≤t.parent)) then 13 else
 if t.kind≠0∧K6 t.kind=true∧K6 (tAt l t.parent).kind=false then 13 else
 if 0≤B1n t.role∧t.kind≠B1n t.role then 14 else
 if 0≤B0w t.role∧(t.kind=0∨(tAt l t.parent).role≠B0w t.role) then 13 else 0
def B3e (l:List Tier):Int:=if 12<l.length then 11 else fstE (A6y l) 0 l
def insS (l:List Spn) (s:Spn):List Spn × Spn × List Spn:=l.foldl (fun(q:List Spn × Spn × List Spn) x=>if x.til<q.2.1.frm then (q.1++[x],q.2.1,q.2.2) else if q.2.1.til<x.frm then (q.1,q.2.1,q.2.2++[x]) else (q.1,⟨min q.2.1.frm x.frm,max q.2.1.til x.til⟩,q.2.2)) ([],s,[])
def insR (l:List Spn) (s:Spn):List Spn:=(insS l s).1++(insS l s).2.1::(insS l s).2.2
def uniS (l:List Spn):List Spn:=l.foldl (fun out s=>if A8 s then insR out s else out) []
def cutL (x s:Spn):Spn:=⟨x.frm,min x.til s.frm⟩
def cutR (x s:Spn):Spn:=⟨max x.frm s.til,x.til⟩
def woS (l:List Spn) (s:Spn):List Spn:=l.flatMap fun x=>(if A8 (cutL x s) then [cutL x s] else [])++(if A8 (cutR x s) then [cutR x s] else [])
def minS (a b:List Spn):List Spn:=b.foldl (fun out s=>if A8 s then woS out s else out) (uniS a)
def covS (l:List Spn) (s:Spn):Bool:=A8 s&&decide ((minS [s] l).length=0)
def spOf (n:Note):Spn:=⟨n.frm,n.til⟩
def getD (d:Doc) (id:Int):Note:=(getN d.notes id).getD S0
def A3a (d:Doc) (n:Note):Int:=
 if (decide ((tAt d.tiers n.tier).kind=0)&&decide (n.parent≠0))||(decide ((tAt d.tiers n.tier).kind≠0)&&(!(getN d.notes n.parent).isSome||decide ((getD d n.parent).tier≠(tAt d.tiers n.tier).parent))) then 13 else
 if (!K6 (tAt d.tiers n.tier).kind&&!(decide (n.frm=0)&&decide (n.til=0)))||(K6 (tAt d.tiers n.tier).kind&&!A8 (spOf n)) then 12 else
 if (tAt d.tiers n.tier).kind=0∧d.rc.len<n.til then 12 else
 if K6 (tAt d.tiers n.tier).kind=true∧(tAt d.tiers n.tier).kind≠0∧(n.frm<(getD d n.parent).frm∨(getD d n.parent).til<n.til) then 12 else
 if n.rank<0∨(n.rank≠0∧(tAt d.tiers n.tier).kind≠3) then 1 else 0
def B0y (d:Doc) (i:Nat) (n:Note):Int:=
 if n.id<1∨1099511627776<n.id then 2 else if prvB (fun h=>decide (n.id≤h.id)) d.notes i then 10 else if n.tier<0∨(d.tiers.length:Int)≤n.tier then 2 else orE (A4z n.text) (A3a d n)
def sibs (d:Doc) (t p:Int):List Note:=d.notes.filter fun n=>decide (n.tier=t)&&decide (n.parent=p)
def ovB (l:List Note):Bool:=allI (fun i n=>!((l.take i).anyB fun k=>decide (n.frm<k.til)&&decide (k.frm<n.til))) 0 l
def C0w (l:List Note):Bool:=(List.range l.length).allB fun n=>l.anyB fun x=>decide (x.rank=(n:Int))
def T6 (d : Doc) (t : Int) : Int → List Note → Int
 | out,[]=>out
 | out,n::r=>if n.tier≠t then T6 d t out r else if K6 (tAt d.tiers t).kind=true∧ovB (sibs d t n.parent)=false then 15 else
  T6 d t (if (tAt d.tiers t).kind=4∧1<(sibs d t n.parent).length then 8 else if (tAt d.tiers t).kind=3∧C0w (sibs d t n.parent)=false then 10 else if (tAt d.tiers t).kind=1∧covS ((sibs d t n.parent).map spOf) (spOf (getD d n.parent))=false then 16 else out) r
def docE (d:Doc):Int:=orE (B3e d.tiers) (if d.rc.len<0∨86400000<d.rc.len then 12 else if 300<d.notes.length then 11 else orE (fstE (B0y d) 0 d.notes) (fstE (fun t _=>T6 d (t:Int) 0 d.notes) 0 d.tiers))
def docL (d:Doc):Bool:=decide (d.notes.length≤14)&&(decide (d.tiers.length≤6)&&(decide (d.rc.sp.length≤6)&&decide (docE d=0)))
end
section
open Go.RowKit Go.En Go.Dl Go.Tp
def K2 (n:Nat) (s:Int):Bool:=decide (1≤s)&&decide (s≤(n:Int))
def C7h (l:List Phn):Int:=if 60<l.length then 11 else
 fstE (fun i p=>if J6 p.name=false then 7 else if ((l.take i).anyB fun x=>decide (x.name=p.name)) then 8 else if p.feat<0∨65536≤p.feat then 2 else 0) 0 l
def V2 (n:Nat) (w:List Int):Int:=if w.length=0 then 4 else if 24<w.length then 5 else if (w.allB (K2 n))=false then 19 else 0
def B1m (s:Tx):Bool:=!(s.anyB fun c=>decide ((c.toNat:Int)=32))&&J6 s
def B0e (n:Nat) (l:List Unt) (i:Nat) (u:Unt):Int:=
 if B1m u.graph=false then 3 else if ((l.take i).anyB fun x=>decide (x.graph=u.graph)) then 8 else if u.segs.length<1∨3<u.segs.length then 19 else if (u.segs.allB (K2 n))=false then 19 else 0
def hasT (l:List Tx) (s:Tx):Bool:=l.anyB fun x=>decide (x=s)
def A5k (seen:List Tx):List Tx→Int × List Tx
 | []=>(0,seen)
 | s::r=>if B1m s=false then (3,seen) else if hasT seen s then (8,seen) else A5k (seen++[s]) r
def W6 (seen:List Tx):List (List Tx)→Int
 | []=>0
 | l::r=>if l.length=0 then 4 else if (A5k seen l).1≠0 then (A5k seen l).1 else W6 (A5k seen l).2 r
def C1b (n:Nat) (o:Orth):Int:=
 if A1y o.name=false then 7 else if 100<o.units.length then 11 else orE (fstE (B0e n o.units) 0 o.units) (if 100<o.letters.length then 11 else W6 [] o.letters)
def rewE (n : Nat) (r : Rew) : Int :=
 if r.frm.length=0∨r.til.length≠r.frm.length then 1 else
 orE (fstE (fun i s=>if K2 n s=false∨(r.til.getD i 0≠0∧K2 n (r.til.getD i 0)=false) then 19 else 0) 0 r.frm)
  (if (srtR r.frm).length≠r.frm.length then 8 else if 2<r.left.length∨2<r.right.length then 5 else 0)
def B3n (g:Lng):Int:=if 12<g.rules.length then 11 else fstE (fun _ r=>rewE g.segs.length r) 0 g.rules
def stB (n:Netw) (q:Int):Bool:=decide (0≤q)&&decide (q<n.states)
def netE (n : Netw) : Int :=
 if n.states<1∨24<n.states then 2 else if 200<n.steps.length then 11 else
 orE (fstE (fun i x=>if stB n x.frm=false∨stB n x.til=false then 2 else if x.cls<1∨20<x.cls then 21 else if ((n.steps.take i).anyB fun y=>decide (y.frm=x.frm)&&(decide (y.cls=x.cls)&&decide (y.til=x.til))) then 8 else 0) 0 n.steps)
  (if upB n.final=false then 10 else if (n.final.allB (stB n))=false then 2 else 0)
def B9g (s:Tx):Bool:=!(s.anyB fun c=>decide ((c.toNat:Int)=32)||decide ((c.toNat:Int)=45))&&J6 s
def B2s (n:Nat) (e:Entr):Int:=
 if idB e.id=false then 2 else orE (V2 n e.form) (if e.cls<1∨20<e.cls then 21 else if 3<e.alts.length then 11 else
 fstE (fun i a=>if V2 n a≠0 then V2 n a else if decide (a=e.form) then 8 else if ((e.alts.take i).anyB fun x=>decide (a=x)) then 8 else 0) 0 e.alts)
def A7c (l:List Sns) (s:Sns):Int:=if B9g s.gloss=false then 7 else if A4z s.dfn≠0 then A4z s.dfn else if (l.anyB fun x=>decide (x.gloss=s.gloss)) then 8 else 0
def A6b (e:Entr):Int:=
 if e.main≠0∧idB e.main=false then 2 else if e.main=e.id then 17 else if 5<e.senses.length then 11 else if e.senses.length=0∧e.main=0 then 4 else
 fstE (fun i s=>A7c (e.senses.take i) s) 0 e.senses
def B3y (e:Entr):Int:=if 12<e.links.length then 11 else
 fstE (fun i x=>if x.kind<0∨5<x.kind then 14 else if idB x.to=false then 2 else if x.to=e.id then 17 else if prvB (fun h=>decide (x.kind<h.kind)||(decide (x.kind=h.kind)&&decide (x.to≤h.to))) e.links i then 10 else 0) 0 e.links
def A5f (a b:Rf):Bool:=decide (a.rcd<b.rcd)||(decide (a.rcd=b.rcd)&&decide (a.note<b.note))
def refB (r:Rf):Bool:=idB r.rcd&&idB r.note
def B5y (l:List Rf) (most:Int):Int:=if most<(l.length:Int) then 11 else fstE (fun i r=>if refB r=false then 2 else if prvB (fun h=>!A5f h r) l i then 10 else 0) 0 l
def entE (n:Nat) (e:Entr):Int:=orE (B2s n e) (orE (A6b e) (orE (B3y e) (B5y e.refs 12)))
def hasE (l:List Entr) (id:Int):Bool:=(getE l id).isSome
def lexE (n : Nat) (l : List Entr) : Int := if 100 < l.length then 11 else
 orE (fstE (fun i e=>if entE n e≠0 then entE n e else if prvB (fun h=>decide (e.id≤h.id)) l i then 10 else 0) 0 l)
  (fstE (fun _ e=>if (e.main≠0∧hasE l e.main=false) then 9 else if (e.links.allB fun x=>hasE l x.to)=false then 9 else 0) 0 l)
def invR (k:Int):Int:=if k=0∨k=1 then k else if k=2 then 3 else if k=3 then 2 else if k=4 then 5 else if k=5 then 4 else -1
def eIx (l:List Entr) (id:Int):Int:=ixF (fun x=>decide (x.id=id)) l 0
def lkB (e:Entr) (x:Lnk):Bool:=e.links.anyB fun y=>decide (y.kind=x.kind)&&decide (y.to=x.to)
def rchL (l:List Entr) (kind:Int) (q:List Bool × List Int) (x:Lnk):List Bool × List Int:=
 if x.kind=kind∧0≤eIx l x.to∧q.1.getD (eIx l x.to).toNat true=false then (q.1.set (eIx l x.to).toNat true,q.2++[x.to]) else q
def rchN (l:List Entr) (kind:Int) (q:List Bool × List Int) (id:Int):List Bool × List Int:=match getE l id with|some e=>e.links.foldl (rchL l kind) q|none=>q
def rchR (l:List Entr) (kind:Int) (q:List Bool × List Int):List Bool × List Int:=q.2.foldl (rchN l kind) (q.1,[])
def P2 (l:List Entr) (id kind:Int):List Int:=
 (l.zip (itr (rchR l kind) (l.length+1) (List.replicate l.length false,[id])).1).filterMap fun p=>if p.2 then some p.1.id else none
def relE (l : List Entr) : Int :=
 orE (fstE (fun _ e=>fstE (fun _ x=>if invR x.kind<0 then 14 else match getE l x.to with|none=>9|some f=>if lkB f ⟨invR x.kind,e.id⟩=false then 1 else 0) 0 e.links) 0 l)
  (if (l.anyB fun e=>hasR (P2 l e.id 2) e.id||hasR (P2 l e.id 4) e.id) then 17 else 0)
def wayR (l:List Entr):Nat→Int→List Int
 | 0,_=>[]
 | n+1,id=>match getE l id with|none=>[]|some e=>e.id::(if e.main=0 then [] else wayR l n e.main)
def varE (l:List Entr):Int:=
 if (l.allB fun e=>decide (e.main=0)||hasE l e.main)=false then 9 else if (l.anyB fun e=>decide (l.length<(wayR l (l.length+1) e.id).length)) then 17 else 0
def B1l (g:Lng):Int:=orE (C7h g.segs) (orE (C1b g.segs.length g.ortho) (orE (B3n g) (orE (netE g.net) (orE (lexE g.segs.length g.lex) (orE (relE g.lex) (varE g.lex))))))
def A4e (l:List Entr):Bool:=if 5<l.length then false else l.allB fun e=>!(decide (3<e.form.length)||decide (1<e.alts.length))&&e.alts.allB fun a=>decide (a.length≤3)
def A7y (g:Lng):Bool:=
 if 8<g.segs.length∨10<g.ortho.units.length∨2<g.rules.length∨3<g.net.states∨6<g.net.steps.length∨3<g.net.final.length∨A4e g.lex=false then false else
 (g.rules.allB fun r=>decide (r.frm.length≤8))&&decide (B1l g=0)
def befP (a b:Prt):Bool:=if a.entry≠b.entry then decide (a.entry<b.entry) else if a.alt≠b.alt then decide (a.alt<b.alt) else decide (a.sense<b.sense)
def eqP (a b:Prt):Bool:=decide (a.entry=b.entry)&&(decide (a.alt=b.alt)&&decide (a.sense=b.sense))
def A3n:List Prt→List Prt→Bool
 | x::r,y::s=>if eqP x y then A3n r s else befP x y
 | l,m=>decide (l.length<m.length)
def B1i (a b:Dcn):Bool:=if a.ref.rcd≠b.ref.rcd then decide (a.ref.rcd<b.ref.rcd) else if a.ref.note≠b.ref.note then decide (a.ref.note<b.ref.note) else A3n a.pick b.pick
def dcnE (l:List Dcn) (i:Nat) (d:Dcn):Int:=
 if idB d.ref.rcd=false∨idB d.ref.note=false then 2 else if d.pick.length=0 then 4 else if 4<d.pick.length then 11 else if prvB (fun h=>!B1i h d) l i then 10 else
 if ((l.take i).anyB fun x=>d.yes&&(x.yes&&(decide (x.ref.rcd=d.ref.rcd)&&decide (x.ref.note=d.ref.note)))) then 8 else 0
def D0s (l:List Dcn):Int:=fstE (dcnE l) 0 l
def pntE (lex:List Entr) (p:Pnt):Int:=
 if J6 p.title=false then 7 else orE (A4z p.text) (if upB p.entries=false then 10 else if (p.entries.allB (hasE lex))=false then 9 else if p.refs.length=0∨12<p.refs.length then 24 else B5y p.refs 12)
def C0z (lex:List Entr) (l:List Pnt):Int:=if 40<l.length then 11 else
 fstE (fun i p=>if idB p.id=false then 2 else if prvB (fun h=>decide (p.id≤h.id)) l i then 10 else pntE lex p) 0 l
def prjE (p : Prj) : Int :=
 orE (B1l p.lang) (if 12<p.docs.length then 11 else orE (fstE (fun i d=>if docE d≠0 then docE d else if prvB (fun h=>decide (d.rc.id≤h.rc.id)) p.docs i then 10 else 0) 0 p.docs)
  (orE (D0s p.dcns) (orE (C0z p.lang.lex p.pnts) (B5x (p.docs.map (·.rc)) p.rgts))))
def prjL (p:Prj):Bool:=
 if prjE p≠0∨A7y p.lang=false∨2<p.docs.length∨6<p.dcns.length∨4<p.pnts.length∨A2z p.rgts (p.docs.map (·.rc))=false then false else p.docs.allB docL
end
section
open Go.RowKit Go.En Go.Dl Go.Tp
def insN {α:Type} (p:α→Bool) (l:List α):Nat→Nat
 | 0=>0
 | k+1=>match l[k]? with|some y=>if p y then insN p l k else k+1|none=>k+1
def insL {α:Type} (lt:α→α→Bool) (l:List α) (x:α):List α:=l.take (insN (lt x) l l.length)++x::l.drop (insN (lt x) l l.length)
def isrt {α:Type} (lt:α→α→Bool) (l:List α):List α:=l.foldl (insL lt) []
def mrg (out:List Spn) (s:Spn):List Spn:=
 match out.getLast? with
 | none=>[s]
 | some t=>if s.frm≤t.til then out.dropLast++[⟨t.frm,max t.til s.til⟩] else out++[s]
def uniP (l:List Spn):List Spn:=(isrt (fun a b=>decide (a.frm<b.frm)) (l.filter A8)).foldl mrg []
def S4:Nat→List Spn→List Spn→List Spn
 | n+1,x::a,y::b=>(if max x.frm y.frm<min x.til y.til then [⟨max x.frm y.frm,min x.til y.til⟩] else [])++(if x.til<y.til then S4 n a (y::b) else S4 n (x::a) b)
 | _,_,_=>[]
def C2x (a b:List Spn):List Spn:=S4 ((uniP a).length+(uniP b).length) (uniP a) (uniP b)
def X2 (at_:Int):List Spn→List Spn
 | []=>[⟨at_,86400000⟩]
 | s::r=>⟨at_,s.frm⟩::X2 s.til r
def B3w (a b:List Spn):List Spn:=C2x a (X2 0 (uniP b))
def covP (l:List Spn) (s:Spn):Bool:=A8 s&&(uniP l).any fun x=>decide (x.frm≤s.frm)&&decide (s.til≤x.til)
def visG (l:List Grp):Nat→List Int→Int→List Int
 | 0,met,_=>met
 | n+1,met,id=>(match grpF l id with|some g=>g.subs|none=>[]).foldl (fun met sub=>if (grpF l sub).isSome&&!hasI met sub then visG l n (met++[sub]) sub else met) met
def belP (l:List Grp) (id:Int):List Int:=srtR (visG l l.length [] id)
def memP (l:List Grp) (id:Int):List Int:=srtR ((id::belP l id).flatMap fun x=>match grpF l x with|some g=>g.people|none=>[])
def inP (l:List Grp) (id person:Int):Bool:=hasI (memP l id) person
def mbrB (people:List Pers) (id:Int):Bool:=match perF people id with|some p=>p.member|none=>false
def mayP (people:List Pers) (groups:List Grp) (p:Prot) (v:Vwr):Bool:=
 if v.day<p.til then false else if p.level=2 then p.groups.any fun id=>inP groups id v.person else if p.level=3 then false else if p.level=1 then mbrB people v.person else true
def B2j (a:Rgts) (r:Rc) (v:Vwr):Int:=fstE (fun _ s=>if atR s r.id v.day a.consents=0 then 26 else if atR s r.id v.day a.consents=1∧mbrB a.people v.person=false then 25 else 0) 0 r.sp
def ruls (a:Rgts) (r:Rc) (v:Vwr):List Rul:=a.rules.filter fun x=>decide (x.rcd=r.id)&&!mayP a.people a.groups x.prot v
def H5 (a:Rgts) (r:Rc) (v:Vwr):List Spn:=
 if B2j a r v≠0 then [] else if ((ruls a r v).any fun x=>decide (x.span.frm=0)&&decide (x.span.til=0)) then [] else B3w [⟨0,r.len⟩] ((ruls a r v).map (·.span))
def cmpI (a b:Int):Int:=if a<b then -1 else if b<a then 1 else 0
def ordF (a b:Note):Int:=if cmpI a.parent b.parent≠0 then cmpI a.parent b.parent else if cmpI a.frm b.frm≠0 then cmpI a.frm b.frm else cmpI a.rank b.rank
def Q5 (d:Doc) (id t:Int):List Int:=
 (isrt (fun a b=>decide (ordF a b<0)) (d.notes.filter fun n=>decide (n.tier=t)&&(decide (n.parent=id)&&(decide (0≤t)&&decide (t<(d.tiers.length:Int)))))).map (·.id)
def ofF (d:Doc):Nat→Int→List Int
 | 0,_=>[]
 | k+1,t=>if t<0∨(d.tiers.length:Int)≤t then [] else if (tAt d.tiers t).kind=0 then Q5 d 0 t else (ofF d k (tAt d.tiers t).parent).flatMap fun id=>Q5 d id t
def alB (l:List Tier) (i:Int):Bool:=decide (0≤i)&&(decide (i<(l.length:Int))&&K6 (tAt l i).kind)
def whrF (d:Doc):Nat→Int→Option Spn
 | 0,_=>none
 | k+1,id=>match getN d.notes id with|none=>none|some n=>if alB d.tiers n.tier then some (spOf n) else whrF d k n.parent
def A6k (d:Doc) (id:Int):Option Spn:=whrF d (d.tiers.length+1) id
def Z8 (d:Doc) (sp:List Spn) (id:Int):Bool:=match A6k d id with|some s=>covP sp s|none=>false
def N0 (d : Doc) : Nat → List Int → Int → List Int
 | 0,ms,_=>ms
 | k + 1, ms, id => match getN d.notes id with
  | none=>ms
  | some n=>if hasI ms id then ms else
   if (tAt d.tiers n.tier).kind=1 then (Q5 d n.parent n.tier).foldl (N0 d k) (N0 d k (ms++[id]) n.parent) else N0 d k (ms++[id]) n.parent
def B1r (d:Doc) (sp:List Spn):List Int:=d.notes.foldl (fun ms n=>if Z8 d sp n.id then N0 d (d.notes.length) ms n.id else ms) []
def redN (d:Doc) (sp:List Spn) (n:Note):Note:=if Z8 d sp n.id then n else { n with text:=[] }
def redF (d:Doc) (sp:List Spn):Doc:=⟨d.rc,d.tiers,(d.notes.filter fun n=>hasI (B1r d sp) n.id).map (redN d sp)⟩
def A1x (l:List Dcn) (r:Rf):Option (List Prt):=(l.find? fun d=>decide (d.ref.rcd=r.rcd)&&(decide (d.ref.note=r.note)&&d.yes)).map (·.pick)
def L5 (l:List Tier) (r:Int):Int:=ixF (fun x=>decide (r≠0)&&decide (x.role=r)) l 0
def A4h (d:Doc):Bool:=decide (0≤L5 d.tiers 2)&&(decide (0≤L5 d.tiers 3)&&decide (0≤L5 d.tiers 4))
def undG (d:Doc):Nat→Int→List Int
 | 0,_=>[]
 | k+1,id=>(d.notes.filter fun n=>decide (n.parent=id)).flatMap fun n=>n.id::undG d k n.id
def L1 (d:Doc) (id:Int):List Int:=match getN d.notes id with|none=>[]|some _=>srtR (undG d d.tiers.length id)
def A0m (d : Doc) (w : Int) : Option Doc :=
 if A4h d=false then none else match getN d.notes w with
 | none=>none
 | some n=>if n.tier≠L5 d.tiers 2 then none else
  some ⟨d.rc,d.tiers,d.notes.filter fun n=>!hasI ((Q5 d w (L5 d.tiers 3)).flatMap fun id=>id::L1 d id) n.id⟩
def docF (ds:List Doc) (id:Int):Option Doc:=ds.find? fun x=>decide (x.rc.id=id)
def O1 (p:Prj) (v:Vwr) (r:Rf):Bool:=match docF p.docs r.rcd with|some d=>Z8 d (H5 p.rgts d.rc v) r.note|none=>false
def Q6 (st:List Int) (e:Entr):Entr:={ e with main:=if hasI st e.main then e.main else 0,links:=e.links.filter fun x=>hasI st x.to }
def L7 (g:Lng) (st:List Int):Lng:={ g with lex:=(g.lex.filter fun e=>hasI st e.id).map (Q6 st) }
def Q2 (a:List Prt) (st:List Int):Bool:=a.all fun x=>hasI st x.entry
def A7b (p:Prj) (v:Vwr) (l:List Rf):List Rf:=l.filter (O1 p v)
def A1w (docs:List Doc) (r:Rf):Bool:=match docF docs r.rcd with|some d=>(getN d.notes r.note).isSome|none=>false
def remF (p:Prj) (v:Vwr) (docs:List Doc) (l:List Rf):List Rf:=(A7b p v l).filter (A1w docs)
def clrF (p:Prj) (st:List Int) (d:Doc):Doc:=
 (ofF d (d.tiers.length+1) (L5 d.tiers 2)).foldl (fun x id=>match A1x p.dcns ⟨d.rc.id,id⟩ with|none=>x|some a=>if Q2 a st then x else (A0m x id).getD x) d
end
end Go.Proofs.YtojadfppncgphaaGreatDoor
namespace Go.En
open Go.RowKit
def C3a (a b:Int):Int:=IntKind.i64.wrap ((BitVec.ofInt 64 a &&& BitVec.ofInt 64 b).toNat)
@[reducible] def u32 (m:Nat):Value:=.int .u32 (m:Int)
theorem A6h {m:Nat} (h:m<4294967296):IntKind.u32.wrap (m:Int)=(m:Int):=by
 simp [IntKind.wrap,IntKind.signed,IntKind.bits];omega
theorem A0z {m:Nat} (h:m<4294967296):(BitVec.ofInt 32 (m:Int)).toNat=m:=by
 rw [BitVec.toNat_ofInt]
 have:((m:Int) % ((2 ^ 32:Nat):Int))=(m:Int):=Int.emod_eq_of_lt (by omega) (by simp;omega)
 rw [this];omega
section
variable {P : Program} {n : Nat} {Q : Post} {L : List (Nat × Value)} {w : World} {ops : List Oper} {o : Oper} {rest : List Oper}
theorem D3p {t u:TypeId} {x y:Operand} {a b:Int} (ho:o.op=.binOp .and t x y u) (hx:ev L x=some (int a)) (hy:ev L y=some (int b)):Val P L w o (int (C3a a b)):=
 O0 ho hx hy rfl
theorem V4 {t u:TypeId} {x y:Operand} {a b:Nat} (ho:o.op=.binOp .and t x y u) (hx:ev L x=some (u32 a)) (hy:ev L y=some (u32 b)) (ha:a<4294967296) (hb:b<4294967296):Val P L w o (u32 (a &&& b)):=
 O0 ho hx hy (by
  have h1:a &&& b<4294967296:=Nat.lt_of_le_of_lt Nat.and_le_left ha
  have h2:((BitVec.ofInt 32 (a:Int)) &&& (BitVec.ofInt 32 (b:Int))).toNat=a &&& b:=by rw [BitVec.toNat_and,A0z ha,A0z hb]
  have key:binOp .and t (u32 a) (u32 b)=pure (.int .u32 (IntKind.u32.wrap (((BitVec.ofInt 32 (a:Int)) &&& (BitVec.ofInt 32 (b:Int))).toNat:Int))):=rfl
  rw [key,h2,A6h h1])
theorem B5c {t u:TypeId} {x y:Operand} {a b:Nat} (ho:o.op=.binOp .or t x y u) (hx:ev L x=some (u32 a)) (hy:ev L y=some (u32 b)) (ha:a<4294967296) (hb:b<4294967296):Val P L w o (u32 (a ||| b)):=
 O0 ho hx hy (by
  have h1:a ||| b<2 ^ 32:=Nat.or_lt_two_pow ha hb
  have h2:((BitVec.ofInt 32 (a:Int)) |||(BitVec.ofInt 32 (b:Int))).toNat=a ||| b:=by rw [BitVec.toNat_or,A0z ha,A0z hb]
  have key:binOp .or t (u32 a) (u32 b)=pure (.int .u32 (IntKind.u32.wrap (((BitVec.ofInt 32 (a:Int)) |||(BitVec.ofInt 32 (b:Int))).toNat:Int))):=rfl
  rw [key,h2,A6h h1])
theorem B0a {op:BinOp} {t u:TypeId} {x y:Operand} {k k':IntKind} {a b z:Int} (ho:o.op=.binOp op t x y u) (hop:op=.shl∨op=.shr) (hx:ev L x=some (.int k a)) (hy:ev L y=some (.int k' b))
  (hz:Op.shift op k a k' b=pure (.int k z)):Val P L w o (.int k z):=fun ρ ha=>by
 have h1:=ha.ev (by rw [ho];simp [Op.operands]) hx
 have h2:=ha.ev (by rw [ho];simp [Op.operands]) hy
 rcases hop with rfl|rfl
 ·simp only [execOp,ho,h1,h2,eqGuard,binOp,hz];rfl
 ·simp only [execOp,ho,h1,h2,eqGuard,binOp,hz];rfl
theorem A9z {t u:TypeId} {x y:Operand} {q:Nat} (ho:o.op=.binOp .shl t x y u) (hx:ev L x=some (u32 1)) (hy:ev L y=some (int q)) (hq:q<32):Val P L w o (u32 (2 ^ q)):=
 B0a ho (.inl rfl) hx hy (by
  have h0:¬ ((q:Int)<0):=by omega
  have h2:(2:Nat) ^ q<4294967296:=Nat.pow_lt_pow_right (by omega) (m:=q) (n:=32) hq
  have h1:((1:Nat):Int)*2 ^ q=((2 ^ q:Nat):Int):=by simp
  unfold Op.shift
  rw [if_neg h0]
  simp only [IntKind.bits,Int.toNat_natCast]
  rw [Nat.min_eq_left (Nat.le_of_lt hq),h1,A6h h2])
theorem C3s {t u:TypeId} {x y:Operand} {m q:Nat} (ho:o.op=.binOp .shr t x y u) (hx:ev L x=some (u32 m)) (hy:ev L y=some (int q)) (hq:q<32):Val P L w o (u32 (m >>> q)):=
 B0a ho (.inr rfl) hx hy (by
  have h0:¬ ((q:Int)<0):=by omega
  unfold Op.shift
  rw [if_neg h0]
  simp only [IntKind.bits,Int.toNat_natCast]
  rw [Nat.min_eq_left (Nat.le_of_lt hq)]
  have:((m:Int)).fdiv (2 ^ q)=((m >>> q:Nat):Int):=by
   rw [Nat.shiftRight_eq_div_pow]
   rw [Int.fdiv_eq_ediv_of_nonneg _ (Int.pow_nonneg (by omega))]
   simp
  rw [this])
end
def MaskIs (m:Nat) (S:Int→Bool):Prop:=m<2 ^ 24∧∀ q:Nat,m.testBit q=S (q:Int)
theorem MaskIs.lt {m:Nat} {S:Int→Bool} (h:MaskIs m S):m<4294967296:=by have:=h.1;omega
end Go.En
namespace Go.Proofs.YtojadfppncgphaaGreatDoor
section
open Go.RowKit Go.En Go.Dl Go.Tp
def C9o (segs:List Phn) (s:Int):Int:=((segs[(s-1).toNat]?).map (·.feat)).getD 0
def inB (segs:List Phn) (s:Int) (c:Cls):Bool:=K2 segs.length s&&decide (c.value=C3a (C9o segs s) c.mask)
def Z6 (segs:List Phn):List Cls→List Int→Bool
 | c::r,s::q=>inB segs s c&&Z6 segs r q
 | _,_=>true
def B0i (segs : List Phn) (r : Rew) (w : List Int) (i : Nat) (x : Int) : Bool :=
 hasI r.frm x&&(decide (r.left.length≤i)&&(decide (i+1+r.right.length≤w.length)&&(!(r.beg&&decide (r.left.length<i))&&(!(r.fin&&decide (i+1+r.right.length<w.length))&&
  (Z6 segs r.left ((w.drop (i-r.left.length)).take r.left.length)&&Z6 segs r.right ((w.drop (i+1)).take r.right.length))))))
def newP (r:Rew) (x:Int):Int:=r.til.getD (ixF (fun y=>decide (x=y)) r.frm 0).toNat 0
def oneP (segs:List Phn) (r:Rew) (w:List Int) (i:Nat) (x:Int):List Int:=if B0i segs r w i x then (if newP r x=0 then [] else [newP r x]) else [x]
def Q9 (segs:List Phn) (r:Rew) (w:List Int):Nat→List Int→List Int
 | _,[]=>[]
 | i,x::q=>oneP segs r w i x++Q9 segs r w (i+1) q
def A4t (segs:List Phn) (w:List Int) (r:Rew):List Int:=Q9 segs r w 0 w
def B6r (segs:List Phn) (rules:List Rew) (w:List Int):List Int:=rules.foldl (A4t segs) w
def uIx (us:List Unt) (s:Tx):Int:=ixF (fun u:Unt=>decide (u.graph=s)) us 0
def nxtU (us:List Unt) (s:Tx):Nat→Option (Nat × Nat)
 | 0=>none
 | n+1=>if 0≤uIx us (s.take (n+1)) then some ((uIx us (s.take (n+1))).toNat,n+1) else nxtU us s n
def A7t (us:List Unt):Nat:=us.foldl (fun m u=>max m u.graph.length) 0
def N3 (us : List Unt) : Nat → Tx → List Nat × Nat
 | 0,_=>([],0)
 | k+1,s=>if s=[] then ([],0) else match nxtU us s (min (A7t us) s.length) with
  | none=>([],0)
  | some (i,n)=>(i::(N3 us k (s.drop n)).1,n+(N3 us k (s.drop n)).2)
def N5 (us:List Unt) (s:Tx):List Nat × Nat:=N3 us s.length s
def outU (us:List Unt) (l:List Nat):List Int:=l.flatMap fun i=>((us[i]?).map (·.segs)).getD []
def B5z (us:List Unt) (s:Tx):List Int × Int × Int:=
 if s=[] then ([],0,4) else if (N5 us s).2<s.length then ([],(N5 us s).2,20) else if 24<(outU us (N5 us s).1).length then ([],0,5) else (outU us (N5 us s).1,0,0)
def A4o (e:Entr):List (List Int):=e.form::e.alts
def senG (l:List Entr):Nat→Int→List Sns
 | 0,_=>[]
 | n+1,id=>match getE l id with|none=>[]|some e=>if e.senses.length≠0 then e.senses else if e.main=0 then [] else senG l n e.main
def senF (l:List Entr) (id:Int):List Sns:=senG l (l.length+1) id
def aftP (steps:List Stp) (st:Nat) (cls:Int):Nat:=steps.foldl (fun out x=>if x.cls=cls∧(st >>> x.frm.toNat) &&& 1=1 then out ||| 2 ^ x.til.toNat else out) 0
def finP (l:List Int):Nat:=l.foldl (fun out q=>out ||| 2 ^ q.toNat) 0
def shrB (rules:List Rew):Bool:=rules.any fun r=>r.til.any fun x=>decide (x=0)
def fitB (g:Lng) (w base:List Int):Bool:=decide ((B6r g.segs g.rules base).length≠0)&&decide (B6r g.segs g.rules base=w)
abbrev Tr:=List (Tx × Bool)
def keyT (w:List Int):Tx:=w.map fun x=>UInt8.ofNat x.toNat
def trG:Tr→Tx→Option Bool
 | [],_=>none
 | (k,b)::r,x=>if k=x then some b else trG r x
def B2d (g:Lng) (w base:List Int) (tr:Tr):Bool × Tr:=match trG tr (keyT base) with
 | some b=>(b,tr)
 | none=>(fitB g w base,tr++[(keyT base,fitB g w base)])
def A8b (g:Lng) (w:List Int) (id:Int) (parts:List Prt) (st:Nat) (base:List Int) (tr:Tr):Bool × Tr:=
 if parts.length≠0∧st &&& finP g.net.final≠0∧w.length≤base.length then ((B2d g w base tr).1&&parts.anyB fun p=>decide (p.entry=id),(B2d g w base tr).2) else (false,tr)
def V7 {α:Type} (f:Nat→α→Tr→Bool × Tr):Nat→List α→Tr→Bool × Tr
 | _,[],tr=>(false,tr)
 | i,x::r,tr=>if (f i x tr).1 then (true,(f i x tr).2) else V7 f (i+1) r (f i x tr).2
def A2v (g : Lng) (w : List Int) (W : List Prt → Nat → List Int → Tr → Bool × Tr) (e : Entr) (parts : List Prt) (nx : Nat) (base : List Int) (tr : Tr) : Bool × Tr :=
 if (senF g.lex e.id).length=0 then (false,tr) else
  V7 (fun i f t=>if 24<base.length+f.length∨(shrB g.rules=false∧w.length<base.length+f.length) then (false,t) else W (parts++[⟨e.id,(i:Int),0⟩]) nx (base++f) t) 0 (A4o e) tr
def R7 (g : Lng) (w : List Int) (id : Int) : Nat → List Prt → Nat → List Int → Tr → Bool × Tr
 | 0,parts,st,base,tr=>A8b g w id parts st base tr
 | k + 1, parts, st, base, tr =>
  if (A8b g w id parts st base tr).1 then (true,(A8b g w id parts st base tr).2) else
   V7 (fun _ e t=>if aftP g.net.steps st e.cls≠0 then A2v g w (R7 g w id k) e parts (aftP g.net.steps st e.cls) base t else (false,t)) 0 g.lex (A8b g w id parts st base tr).2
def B5h (g:Lng) (w:List Int) (id:Int):Bool:=if w.length=0∨24<w.length then false else (R7 g w id 4 [] 1 [] []).1
def B7q (docs : List Doc) (g : Lng) (r : Rf) : Option (List Int) :=
 match docF docs r.rcd with
 | none=>none
 | some d=>match getN d.notes r.note with
  | none=>none
  | some n=>if n.tier≠L5 d.tiers 2 then none else if (B5z g.ortho.units n.text).2.2≠0 then none else some (B5z g.ortho.units n.text).1
def attP (docs:List Doc) (g:Lng) (id:Int) (r:Rf):Bool:=hasE g.lex id&&match B7q docs g r with|some w=>B5h g w id|none=>false
def A3x (p:Prj) (v:Vwr) (g:Lng) (e:Entr):Bool:=e.refs.any fun r=>O1 p v r&&attP p.docs g e.id r
def delI (st:List Int) (x:Int):List Int:=st.filter fun y=>decide (y≠x)
def C7n (st:List Int) (e:Entr):Bool:=hasI st e.id&&(decide (e.senses.length=0)&&!hasI st e.main)
def A3b (lex:List Entr) (st:List Int):List Int:=lex.foldl (fun st e=>if C7n st e then delI st e.id else st) st
def settle (lex:List Entr):Nat→List Int→List Int
 | 0,st=>st
 | k+1,st=>if (A3b lex st).length=st.length then A3b lex st else settle lex k (A3b lex st)
def rndF (p:Prj) (v:Vwr) (st:List Int):List Int:=(L7 p.lang st).lex.foldl (fun s e=>if A3x p v (L7 p.lang st) e then s else delI s e.id) st
def A1t (p:Prj) (v:Vwr):Nat→List Int→List Int
 | 0,st=>st
 | k+1,st=>if (rndF p v (settle p.lang.lex (st.length+1) st)).length=st.length then rndF p v (settle p.lang.lex (st.length+1) st) else A1t p v k (rndF p v (settle p.lang.lex (st.length+1) st))
def R9 (p:Prj) (v:Vwr):List Int:=A1t p v (p.lang.lex.length+1) (p.lang.lex.map (·.id))
def A1s (p:Prj) (v:Vwr):List Doc:=(p.docs.filter fun d=>decide ((H5 p.rgts d.rc v).length≠0)).map fun d=>clrF p (R9 p v) (redF d (H5 p.rgts d.rc v))
def B5g (p:Prj) (v:Vwr):Lng:={ L7 p.lang (R9 p v) with lex:=(L7 p.lang (R9 p v)).lex.map fun e=>{ e with refs:=remF p v (A1s p v) e.refs } }
def vPnt (p:Prj) (v:Vwr) (x:Pnt):Pnt:={ x with refs:=remF p v (A1s p v) x.refs,entries:=x.entries.filter fun i=>hasI (R9 p v) i }
def Q4 (p:Prj) (v:Vwr):Prj where
 lang:=B5g p v
 docs:=A1s p v
 dcns:=p.dcns.filter fun d=>decide ((remF p v (A1s p v) [d.ref]).length≠0)&&Q2 d.pick (R9 p v)
 pnts:=(p.pnts.map (vPnt p v)).filter fun x=>decide (x.refs.length≠0)
 rgts:=p.rgts
end
end Go.Proofs.YtojadfppncgphaaGreatDoor