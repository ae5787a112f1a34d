/- Own text. -/
import Derived.Test.YtojadfppncgphaaGreatDoorQYj
set_option linter.all false
set_option maxHeartbeats 16000000
set_option maxRecDepth 8000
namespace Go.Proofs.YtojadfppncgphaaGreatDoor
section
open Go.RowKit Go.En Go.Dl Go.Tp
attribute [local irreducible] X XL XW XG XK Val LS Fp Fo Calls bodyPost Code.wp
theorem c142 (l:List Pers)(id:Int):Fp Tryz.prog 142 [.s 3 (l.map M5),dI id] (fRes M5 C9c (l.find? fun x=>decide (x.id=id))):=by
 refine fXw Tryz.func142 Tryz.ntmps142 fun c hM=>?_
 (repeat' (first|refine Wz ?_|refine Wb fun hb=>?_))
 refine X_lp (ι:=Nat) 16776800 [] (fun i=>[(9,.d (dI i))]) (fun _=>[]) (fun i=>i≤l.length∧l.find? (fun x=>decide (x.id=id))=(l.drop i).find? fun x=>decide (x.id=id)) (fun i=>l.length-i) (0) ?_ ?_
 ·exact⟨zLw,rfl⟩
 rintro i ⟨hi,hq⟩
 by_cases hlt:i<l.length
 ·obtain⟨n,hn⟩:=gex hlt
  (repeat' (first|refine iDw (gm hn) ?_|refine Wz ?_|apply Wd <;>intro hh))
  all_goals (try exact oMw)
  all_goals first
   | (rw [hq,drp hn,List.find?_cons_of_pos (by simpa using hh)];exact rXw hM)
   | exact A0 (i+1) ⟨oEw,by rw [hq,drp hn];exact List.find?_cons_of_neg (by simpa using hh)⟩ oEw
 ·(repeat' (first|refine Wz ?_|apply Wd <;>intro hh))
  all_goals (try exact oMw)
  rw [hq,List.drop_eq_nil_of_le oEw]
  exact rXw hM
theorem c178 (l:List Grp)(id:Int):Fp Tryz.prog 178 [.s 4 (l.map grpC),dI id] (dI (ixF (fun x=>decide (x.id=id)) l 0)):=by
 refine fXw Tryz.func178 Tryz.ntmps178 fun c hM=>?_
 (repeat' (first|refine Wz ?_|refine Wb fun hb=>?_))
 refine X_lp (ι:=Nat) 1048368 [] (fun i=>[(8,.d (dI i))]) (fun _=>[]) (fun i=>i≤l.length∧ixF (fun x=>decide (x.id=id)) l 0=ixF (fun x=>decide (x.id=id)) (l.drop i) i) (fun i=>l.length-i) (0) ?_ ?_
 ·exact⟨zLw,rfl⟩
 rintro i ⟨hi,hq⟩
 by_cases hlt:i<l.length
 ·obtain⟨n,hn⟩:=gex hlt
  (repeat' (first|refine iDw (gm hn) ?_|refine Wz ?_|apply Wd <;>intro hh))
  all_goals (try exact oMw)
  all_goals first
   | (rw [hq,drp hn,ixF,if_pos (by simp [*])];exact rXw hM)
   | exact A0 (i+1) ⟨oEw,by rw [hq,drp hn,ixF,if_neg (by simp [*])];rfl⟩ oEw
 ·(repeat' (first|refine Wz ?_|apply Wd <;>intro hh))
  all_goals (try exact oMw)
  rw [hq,List.drop_eq_nil_of_le oEw]
  exact rXw hM
def cAt (p r d:Int)(c:Cons):Bool:=(decide (c.person=p)&&(decide (c.rcd=0)||decide (c.rcd=r)))&&decide (c.day≤d)
def atR (p r d:Int)(l:List Cons):Int:=l.foldl (fun k c=>if cAt p r d c then c.kind else k) 0
theorem B0g {p r d:Int}{l:List Cons}{i:Nat}{c:Cons}(h:l[i]?=some c):atR p r d (l.take (i+1))=if cAt p r d c then c.kind else atR p r d (l.take i):=by
 unfold atR
 rw [List.take_succ,h,Option.toList_some,List.foldl_append]
 rfl
theorem c143 (l : List Cons)(p r d : Int) : Fp Tryz.prog 143 [.s 4 (l.map Y7), dI p, dI r, dI d] (dI (atR p r d l)) := by
 refine fXw Tryz.func143 Tryz.ntmps143 fun c hM=>?_
 (repeat' (first|refine Wz ?_|fail))
 refine X_lp (ι:=Nat) 36028797018963456 [] (fun i=>[(9,.d (dI (atR p r d (l.take i)))),(10,.d (dI i))]) (fun _=>[]) (fun i=>i≤l.length) (fun i=>l.length-i) (0) ?_ ?_
 ·exact zLw
 rintro i hi
 by_cases hlt:i<l.length
 ·obtain⟨n,hn⟩:=gex hlt
  have ht:=B0g (p:=p) (r:=r) (d:=d) hn
  by_cases hc:cAt p r d n
  ·rw [if_pos hc] at ht
   (repeat' (first|refine iDw (gm hn) ?_|refine Wz ?_|refine Wb fun hb=>?_|apply Wd <;>intro hh))
   all_goals first
    | (exfalso;omega)
    | (exfalso;simp_all [cAt];done)
    | exact A0 (i+1) oEw oEw (by rw [ht];(repeat (refine A6 (by first|rfl|simp) ?_));exact B8 _)
  ·rw [if_neg hc] at ht
   (repeat' (first|refine iDw (gm hn) ?_|refine Wz ?_|refine Wb fun hb=>?_|apply Wd <;>intro hh))
   all_goals first
    | (exfalso;omega)
    | (exfalso;simp_all [cAt];done)
    | exact A0 (i+1) oEw oEw (by rw [ht];(repeat (refine A6 (by first|rfl|simp) ?_));exact B8 _)
 ·(repeat' (first|refine Wz ?_|refine Wb fun hb=>?_|apply Wd <;>intro hh))
  all_goals (try exact oMw)
  rw [List.take_of_length_le oEw]
  exact rXw hM
end
section
open Go.RowKit Go.En Go.Dl Go.Tp
def fstE {α:Type}(f:Nat→α→Int):Nat→List α→Int
 | _,[]=>0
 | i,x::r=>if f i x≠0 then f i x else fstE f (i+1) r
def orE (a b:Int):Int:=if a≠0 then a else b
def allI {α:Type}(p:Nat→α→Bool):Nat→List α→Bool
 | _,[]=>true
 | i,x::r=>p i x&&allI p (i+1) r
def prvB {α:Type}(p:α→Bool)(l:List α):Nat→Bool
 | 0=>false
 | j+1=>match l[j]? with|some h=>p h|none=>false
theorem B6 {α:Type}{l:List α}{i:Nat}{m:α}(h:l[i-1]?=some m):∀ p:α→Bool,prvB p l i=(decide (0<(i:Int))&&p m):=by
 intro p
 cases i with
 | zero=>simp [prvB]
 | succ j=>
  rw [Nat.add_sub_cancel] at h
  simp only [prvB,h]
  have:(0:Int)<((j+1:Nat):Int):=by omega
  simp [this]
def idB (n:Int):Bool:=decide (1≤n)&&decide (n≤1099511627776)
def B4v (c:UInt8):Bool:=decide (97≤(c.toNat:Int))&&decide ((c.toNat:Int)≤122)
def nmB (i:Nat)(c:UInt8):Bool:=B4v c||(decide (i≠0)&&(decide ((c.toNat:Int)=45)||decide ((c.toNat:Int)=95)||(decide (48≤(c.toNat:Int))&&decide ((c.toNat:Int)≤57))))
def A2n (s:Tx):Bool:=allI nmB 0 s&&(decide (1≤(s.length:Int))&&decide ((s.length:Int)≤32))
def ctlB (c:UInt8):Bool:=decide ((c.toNat:Int)<32)||decide ((c.toNat:Int)=127)
def upB:List Int→Bool
 | a::b::r=>decide (a<b)&&upB (b::r)
 | _=>true
def perF (l:List Pers)(id:Int):Option Pers:=l.find? fun x=>decide (x.id=id)
def grpF (l:List Grp)(id:Int):Option Grp:=l.find? fun x=>decide (x.id=id)
def putI:List Int→Int→List Int
 | [],n=>[n]
 | a::r,n=>if a<n then a::putI r n else if a=n then a::r else n::a::r
def srtR (l:List Int):List Int:=l.foldl putI []
def uniR (a b:List Int):List Int:=b.foldl putI (srtR a)
def grpE (people:List Pers)(l:List Grp)(i:Nat)(g:Grp):Int:=
 if idB g.id=false then 2 else if prvB (fun h=>decide (g.id≤h.id)) l i then 10 else if A2n g.name=false then 7 else if upB g.people=false then 10 else if (g.people.allB fun x=>(perF people x).isSome)=false then 9 else if upB g.subs=false then 10 else 0
def S3 (l:List Grp)(out:List Int):List Int:=out.foldl (fun more k=>match grpF l k with|some g=>uniR more g.subs|none=>more) out
def itr {α:Type}(f:α→α):Nat→α→α
 | 0,a=>a
 | n+1,a=>itr f n (f a)
def belR (l:List Grp)(id:Int):List Int:=itr (S3 l) l.length (match grpF l id with|some g=>srtR g.subs|none=>[])
def memR (l:List Grp)(id:Int):List Int:=match grpF l id with|none=>[]|some _=>(putI (belR l id) id).foldl (fun out k=>match grpF l k with|some g=>uniR out g.people|none=>out) []
def hasR (l:List Int)(a:Int):Bool:=l.anyB fun x=>decide (x=a)
def C4h (people:List Pers)(l:List Grp):Int:=
 if 20<l.length then 11 else orE (fstE (grpE people l) 0 l) (if (l.allB fun g=>g.subs.allB fun s=>(grpF l s).isSome)=false then 9 else if (l.anyB fun g=>hasR (belR l g.id) g.id) then 17 else 0)
def conE (people:List Pers)(l:List Cons)(i:Nat)(c:Cons):Int:=
 if (perF people c.person).isSome=false then 9 else if c.rcd<0∨1099511627776<c.rcd then 2 else if c.day<1∨109573<c.day then 12 else if c.kind<0∨2<c.kind then 14 else if prvB (fun h=>decide (c.day<h.day)) l i then 10 else 0
def D2w (people:List Pers)(l:List Cons):Int:=if 60<l.length then 11 else fstE (conE people l) 0 l
def gvN (l:List Cons)(d:Int):Nat→Nat
 | 0=>0
 | k+1=>match l[k]? with|some x=>if d<x.day then gvN l d k else k+1|none=>k+1
def D9s (l:List Cons)(c:Cons):List Cons:=l.take (gvN l c.day l.length)++c::l.drop (gvN l c.day l.length)
def C3d (groups:List Grp)(p:Prot):Int:=
 if p.level<0∨3<p.level then 14 else if p.groups.length≠0∧p.level≠2 then 1 else if p.groups.length=0∧p.level=2 then 4 else
 orE (fstE (fun i g=>if prvB (fun h=>decide (g≤h)) p.groups i then 10 else if (groups.anyB fun x=>decide (x.id=g))=false then 9 else 0) 0 p.groups) (if p.til<0∨109573<p.til then 12 else 0)
def A5 (s:Spn):Bool:=decide (0≤s.frm)&&(decide (s.frm<s.til)&&decide (s.til≤86400000))
def rulE (recs:List Rc)(groups:List Grp)(x:Rul):Int:=
 if idB x.rcd=false then 2 else if ¬ (x.span.frm=0∧x.span.til=0)∧A5 x.span=false then 12 else if (recs.anyB fun r=>decide (r.id=x.rcd)&&decide (r.len<x.span.til)) then 12 else C3d groups x.prot
end
section
open Go.RowKit Go.En Go.Dl Go.Tp
def encN (p:Nat):List Nat:=if p<128 then [p] else if p<2048 then [192+p / 64,128+p % 64] else if p<65536 then [224+p / 4096,128+p / 64 % 64,128+p % 64] else [240+p / 262144,128+p / 4096 % 64,128+p / 64 % 64,128+p % 64]
def encB (p:Nat):Tx:=(encN p).map UInt8.ofNat
def scal (p:Nat):Bool:=decide (p≤1114111)&&(decide (p<55296)||decide (57343<p))
def B2v (b:Nat):Nat:=if 240≤b then b-240 else if 224≤b then b-224 else if 192≤b then b-192 else b
def A0x (b:Nat):Nat:=if 240≤b then 4 else if 224≤b then 3 else if 192≤b then 2 else 1
def accP (d:Tx):Nat→Nat
 | 0=>0
 | 1=>B2v (d.getD 0 0).toNat
 | k+1=>accP d k*64+(d.getD k 0).toNat % 64
def N4 (d:Tx):Option (Nat × Nat):=
 if d.length<A0x (d.getD 0 0).toNat then none
 else if scal (accP d (A0x (d.getD 0 0).toNat))=true∧encB (accP d (A0x (d.getD 0 0).toNat))=d.take (A0x (d.getD 0 0).toNat) then some (accP d (A0x (d.getD 0 0).toNat),A0x (d.getD 0 0).toNat) else none
theorem B2w (b:Nat):1≤A0x b∧A0x b≤4:=by unfold A0x;(repeat' split) <;> omega
theorem A1a {d:Tx}{p n:Nat}(h:N4 d=some (p,n)):1≤n∧n≤d.length:=by
 unfold N4 at h
 split at h
 ·cases h
 ·split at h
  ·simp only [Option.some.injEq,Prod.mk.injEq] at h
   obtain⟨rfl,rfl⟩:=h
   exact⟨(B2w _).1,by omega⟩
  ·cases h
def A6f:Nat→Tx→Option (List Nat)
 | 0,_=>some []
 | k+1,d=>if d=[] then some [] else match N4 d with|none=>none|some (p,n)=>(A6f k (d.drop n)).map (p::·)
def points (d:Tx):Option (List Nat):=A6f d.length d
theorem A1p (k:Nat):A6f k []=some []:=by cases k <;> simp [A6f]
theorem A8q : ∀ (k m : Nat) (d : Tx), d.length ≤ k → d.length ≤ m → A6f k d = A6f m d
 | 0,m,d,hk,_=>by
  have:d=[]:=List.eq_nil_of_length_eq_zero (by omega)
  subst this;rw [A1p,A1p]
 | k+1,0,d,_,hm=>by
  have:d=[]:=List.eq_nil_of_length_eq_zero (by omega)
  subst this;rw [A1p,A1p]
 | k + 1, m + 1, d, hk, hm => by
  simp only [A6f]
  by_cases hd:d=[]
  ·rw [if_pos hd,if_pos hd]
  ·rw [if_neg hd,if_neg hd]
   cases hf:N4 d with
   | none=>rfl
   | some q=>
    obtain⟨p,n⟩:=q
    have:=A1a hf
    dsimp only
    rw [A8q k m (d.drop n) (by rw [List.length_drop];omega) (by rw [List.length_drop];omega)]
theorem C0z:points []=some []:=rfl
theorem B7s {d:Tx}(hd:d≠[]):points d=match N4 d with|none=>none|some (p,n)=>(points (d.drop n)).map (p::·):=by
 have hl:0<d.length:=List.length_pos_iff.2 hd
 obtain⟨k,hk⟩:∃ k,d.length=k+1:=⟨d.length-1,by omega⟩
 unfold points
 rw [hk]
 simp only [A6f]
 rw [if_neg hd]
 cases hf:N4 d with
 | none=>rfl
 | some q=>
  obtain⟨p,n⟩:=q
  have:=A1a hf
  dsimp only
  rw [A8q k (d.drop n).length _ (by rw [List.length_drop];omega) (Nat.le_refl _)]
def H2 (s:Tx):Bool:=!(s.anyB ctlB)&&((points s).isSome&&(decide (1≤(s.length:Int))&&decide ((s.length:Int)≤32)))
def natI (l:List Nat):List Int:=l.map Int.ofNat
def A5z (s:Tx):Int:=if 200<(s.length:Int) then 5 else match points s with|none=>3|some l=>if ((natI l).anyB fun z=>decide (z<32)||decide (z=127)) then 3 else 0
def C9b (l:List Pers):Int:=if 40<l.length then 11 else fstE (fun i p=>if idB p.id=false then 2 else if prvB (fun h=>decide (p.id≤h.id)) l i then 10 else if H2 p.name=false then 7 else 0) 0 l
def recE (l:List Pers)(r:Rc):Int:=
 if idB r.id=false then 2 else if A2n r.name=false then 7 else if r.len<1∨86400000<r.len then 12 else if r.day<1∨109573<r.day then 2 else if r.sp.length=0 then 1 else
 fstE (fun i s=>if prvB (fun h=>decide (s≤h)) r.sp i then 10 else if (perF l s).isSome=false then 9 else 0) 0 r.sp
def C3a (l:List Pers)(recs:List Rc):Int:=if 12<recs.length then 11 else
 fstE (fun i r=>if recE l r≠0 then recE l r else if prvB (fun h=>decide (r.id≤h.id)) recs i then 10 else if ((recs.take i).anyB fun x=>decide (x.name=r.name)) then 8 else 0) 0 recs
def B1u (recs:List Rc)(a:Rgts):Int:=
 orE (C9b a.people) (orE (C3a a.people recs) (orE (C4h a.people a.groups) (orE (D2w a.people a.consents) (if 60<a.rules.length then 11 else fstE (fun _ x=>rulE recs a.groups x) 0 a.rules))))
def A0o (a:Rgts)(recs:List Rc):Bool:=if 8<a.people.length∨6<a.groups.length∨12<a.consents.length∨10<a.rules.length∨4<recs.length then false else decide (B1u recs a=0)
def J6 (k:Int):Bool:=decide (k=0)||(decide (k=1)||decide (k=2))
def B2y (r:Int):Int:=if r=1 then 0 else if r=3 then 3 else if r=4∨r=5 then 4 else -1
def B2d (r:Int):Int:=if r=2∨r=5 then 1 else if r=3 then 2 else if r=4 then 3 else -1
def G5e:Tier:=⟨[],0,0,0⟩
def tAt (l:List Tier)(i:Int):Tier:=(l[i.toNat]?).getD G5e
def A2i (l:List Tier)(i:Nat)(t:Tier):Int:=
 if A2n t.name=false then 7 else if ((l.take i).anyB fun x=>decide (x.name=t.name)) then 8 else if t.kind<0∨4<t.kind then 14 else if t.role<0∨5<t.role then 2 else
 if ((l.take i).anyB fun x=>decide (t.role≠0)&&decide (x.role=t.role)) then 8 else
 if (t.kind=0∧t.parent ≠ -1)∨(t.kind≠0∧(t.parent<0∨(i:Int)≤t.parent)) then 13 else
 if t.kind≠0∧J6 t.kind=true∧J6 (tAt l t.parent).kind=false then 13 else
 if 0≤B2y t.role∧t.kind≠B2y t.role then 14 else
 if 0≤B2d t.role∧(t.kind=0∨(tAt l t.parent).role≠B2d t.role) then 13 else 0
def A8e (l:List Tier):Int:=if 12<l.length then 11 else fstE (A2i l) 0 l
def insS (l:List Spn)(s:Spn):List Spn × Spn × List Spn:=l.foldl (fun(q:List Spn × Spn × List Spn) x=>if x.til<q.2.1.frm then (q.1++[x],q.2.1,q.2.2) else if q.2.1.til<x.frm then (q.1,q.2.1,q.2.2++[x]) else (q.1,⟨min q.2.1.frm x.frm,max q.2.1.til x.til⟩,q.2.2)) ([],s,[])
def insR (l:List Spn)(s:Spn):List Spn:=(insS l s).1++(insS l s).2.1::(insS l s).2.2
def uniS (l:List Spn):List Spn:=l.foldl (fun out s=>if A5 s then insR out s else out) []
def cutL (x s:Spn):Spn:=⟨x.frm,min x.til s.frm⟩
def cutR (x s:Spn):Spn:=⟨max x.frm s.til,x.til⟩
def woS (l:List Spn)(s:Spn):List Spn:=l.flatMap fun x=>(if A5 (cutL x s) then [cutL x s] else [])++(if A5 (cutR x s) then [cutR x s] else [])
def minS (a b:List Spn):List Spn:=b.foldl (fun out s=>if A5 s then woS out s else out) (uniS a)
def covS (l:List Spn)(s:Spn):Bool:=A5 s&&decide ((minS [s] l).length=0)
def spOf (n:Note):Spn:=⟨n.frm,n.til⟩
def getD (d:Doc)(id:Int):Note:=(getN d.notes id).getD L9
def Z3 (d:Doc)(n:Note):Int:=
 if (decide ((tAt d.tiers n.tier).kind=0)&&decide (n.parent≠0))||(decide ((tAt d.tiers n.tier).kind≠0)&&(!(getN d.notes n.parent).isSome||decide ((getD d n.parent).tier≠(tAt d.tiers n.tier).parent))) then 13 else
 if (!J6 (tAt d.tiers n.tier).kind&&!(decide (n.frm=0)&&decide (n.til=0)))||(J6 (tAt d.tiers n.tier).kind&&!A5 (spOf n)) then 12 else
 if (tAt d.tiers n.tier).kind=0∧d.rc.len<n.til then 12 else
 if J6 (tAt d.tiers n.tier).kind=true∧(tAt d.tiers n.tier).kind≠0∧(n.frm<(getD d n.parent).frm∨(getD d n.parent).til<n.til) then 12 else
 if n.rank<0∨(n.rank≠0∧(tAt d.tiers n.tier).kind≠3) then 1 else 0
def A8v (d:Doc)(i:Nat)(n:Note):Int:=
 if n.id<1∨1099511627776<n.id then 2 else if prvB (fun h=>decide (n.id≤h.id)) d.notes i then 10 else if n.tier<0∨(d.tiers.length:Int)≤n.tier then 2 else orE (A5z n.text) (Z3 d n)
def sibs (d:Doc)(t p:Int):List Note:=d.notes.filter fun n=>decide (n.tier=t)&&decide (n.parent=p)
def ovB (l:List Note):Bool:=allI (fun i n=>!((l.take i).anyB fun k=>decide (n.frm<k.til)&&decide (k.frm<n.til))) 0 l
def C3b (l:List Note):Bool:=(List.range l.length).allB fun n=>l.anyB fun x=>decide (x.rank=(n:Int))
def W6 (d : Doc)(t : Int) : Int → List Note → Int
 | out,[]=>out
 | out,n::r=>if n.tier≠t then W6 d t out r else if J6 (tAt d.tiers t).kind=true∧ovB (sibs d t n.parent)=false then 15 else
  W6 d t (if (tAt d.tiers t).kind=4∧1<(sibs d t n.parent).length then 8 else if (tAt d.tiers t).kind=3∧C3b (sibs d t n.parent)=false then 10 else if (tAt d.tiers t).kind=1∧covS ((sibs d t n.parent).map spOf) (spOf (getD d n.parent))=false then 16 else out) r
def docE (d:Doc):Int:=orE (A8e d.tiers) (if d.rc.len<0∨86400000<d.rc.len then 12 else if 300<d.notes.length then 11 else orE (fstE (A8v d) 0 d.notes) (fstE (fun t _=>W6 d (t:Int) 0 d.notes) 0 d.tiers))
def docL (d:Doc):Bool:=decide (d.notes.length≤14)&&(decide (d.tiers.length≤6)&&(decide (d.rc.sp.length≤6)&&decide (docE d=0)))
end
section
open Go.RowKit Go.En Go.Dl Go.Tp
def K0 (n:Nat)(s:Int):Bool:=decide (1≤s)&&decide (s≤(n:Int))
def C3g (l:List Phn):Int:=if 60<l.length then 11 else
 fstE (fun i p=>if H2 p.name=false then 7 else if ((l.take i).anyB fun x=>decide (x.name=p.name)) then 8 else if p.feat<0∨65536≤p.feat then 2 else 0) 0 l
def X2 (n:Nat)(w:List Int):Int:=if w.length=0 then 4 else if 24<w.length then 5 else if (w.allB (K0 n))=false then 19 else 0
def A9e (s:Tx):Bool:=!(s.anyB fun c=>decide ((c.toNat:Int)=32))&&H2 s
def A7z (n:Nat)(l:List Unt)(i:Nat)(u:Unt):Int:=
 if A9e u.graph=false then 3 else if ((l.take i).anyB fun x=>decide (x.graph=u.graph)) then 8 else if u.segs.length<1∨3<u.segs.length then 19 else if (u.segs.allB (K0 n))=false then 19 else 0
def hasT (l:List Tx)(s:Tx):Bool:=l.anyB fun x=>decide (x=s)
def A6l (seen:List Tx):List Tx→Int × List Tx
 | []=>(0,seen)
 | s::r=>if A9e s=false then (3,seen) else if hasT seen s then (8,seen) else A6l (seen++[s]) r
def Y1 (seen:List Tx):List (List Tx)→Int
 | []=>0
 | l::r=>if l.length=0 then 4 else if (A6l seen l).1≠0 then (A6l seen l).1 else Y1 (A6l seen l).2 r
def B7u (n:Nat)(o:Orth):Int:=
 if A2n o.name=false then 7 else if 100<o.units.length then 11 else orE (fstE (A7z n o.units) 0 o.units) (if 100<o.letters.length then 11 else Y1 [] o.letters)
def rewE (n : Nat)(r : Rew) : Int :=
 if r.frm.length=0∨r.til.length≠r.frm.length then 1 else
 orE (fstE (fun i s=>if K0 n s=false∨(r.til.getD i 0≠0∧K0 n (r.til.getD i 0)=false) then 19 else 0) 0 r.frm)
  (if (srtR r.frm).length≠r.frm.length then 8 else if 2<r.left.length∨2<r.right.length then 5 else 0)
def B5b (g:Lng):Int:=if 12<g.rules.length then 11 else fstE (fun _ r=>rewE g.segs.length r) 0 g.rules
def stB (n:Netw)(q:Int):Bool:=decide (0≤q)&&decide (q<n.states)
def netE (n : Netw) : Int :=
 if n.states<1∨24<n.states then 2 else if 200<n.steps.length then 11 else
 orE (fstE (fun i x=>if stB n x.frm=false∨stB n x.til=false then 2 else if x.cls<1∨20<x.cls then 21 else if ((n.steps.take i).anyB fun y=>decide (y.frm=x.frm)&&(decide (y.cls=x.cls)&&decide (y.til=x.til))) then 8 else 0) 0 n.steps)
  (if upB n.final=false then 10 else if (n.final.allB (stB n))=false then 2 else 0)
def C1f (s:Tx):Bool:=!(s.anyB fun c=>decide ((c.toNat:Int)=32)||decide ((c.toNat:Int)=45))&&H2 s
def B4e (n:Nat)(e:Entr):Int:=
 if idB e.id=false then 2 else orE (X2 n e.form) (if e.cls<1∨20<e.cls then 21 else if 3<e.alts.length then 11 else
 fstE (fun i a=>if X2 n a≠0 then X2 n a else if decide (a=e.form) then 8 else if ((e.alts.take i).anyB fun x=>decide (a=x)) then 8 else 0) 0 e.alts)
def A8j (l:List Sns)(s:Sns):Int:=if C1f s.gloss=false then 7 else if A5z s.dfn≠0 then A5z s.dfn else if (l.anyB fun x=>decide (x.gloss=s.gloss)) then 8 else 0
def A7d (e:Entr):Int:=
 if e.main≠0∧idB e.main=false then 2 else if e.main=e.id then 17 else if 5<e.senses.length then 11 else if e.senses.length=0∧e.main=0 then 4 else
 fstE (fun i s=>A8j (e.senses.take i) s) 0 e.senses
def B5k (e:Entr):Int:=if 12<e.links.length then 11 else
 fstE (fun i x=>if x.kind<0∨5<x.kind then 14 else if idB x.to=false then 2 else if x.to=e.id then 17 else if prvB (fun h=>decide (x.kind<h.kind)||(decide (x.kind=h.kind)&&decide (x.to≤h.to))) e.links i then 10 else 0) 0 e.links
def A6g (a b:Rf):Bool:=decide (a.rcd<b.rcd)||(decide (a.rcd=b.rcd)&&decide (a.note<b.note))
def refB (r:Rf):Bool:=idB r.rcd&&idB r.note
def B7n (l:List Rf)(most:Int):Int:=if most<(l.length:Int) then 11 else fstE (fun i r=>if refB r=false then 2 else if prvB (fun h=>!A6g h r) l i then 10 else 0) 0 l
def entE (n:Nat)(e:Entr):Int:=orE (B4e n e) (orE (A7d e) (orE (B5k e) (B7n e.refs 12)))
def hasE (l:List Entr)(id:Int):Bool:=(getE l id).isSome
def lexE (n : Nat)(l : List Entr) : Int := if 100 < l.length then 11 else
 orE (fstE (fun i e=>if entE n e≠0 then entE n e else if prvB (fun h=>decide (e.id≤h.id)) l i then 10 else 0) 0 l)
  (fstE (fun _ e=>if (e.main≠0∧hasE l e.main=false) then 9 else if (e.links.allB fun x=>hasE l x.to)=false then 9 else 0) 0 l)
def invR (k:Int):Int:=if k=0∨k=1 then k else if k=2 then 3 else if k=3 then 2 else if k=4 then 5 else if k=5 then 4 else -1
def eIx (l:List Entr)(id:Int):Int:=ixF (fun x=>decide (x.id=id)) l 0
def lkB (e:Entr)(x:Lnk):Bool:=e.links.anyB fun y=>decide (y.kind=x.kind)&&decide (y.to=x.to)
def rchL (l:List Entr)(kind:Int)(q:List Bool × List Int)(x:Lnk):List Bool × List Int:=
 if x.kind=kind∧0≤eIx l x.to∧q.1.getD (eIx l x.to).toNat true=false then (q.1.set (eIx l x.to).toNat true,q.2++[x.to]) else q
def rchN (l:List Entr)(kind:Int)(q:List Bool × List Int)(id:Int):List Bool × List Int:=match getE l id with|some e=>e.links.foldl (rchL l kind) q|none=>q
def rchR (l:List Entr)(kind:Int)(q:List Bool × List Int):List Bool × List Int:=q.2.foldl (rchN l kind) (q.1,[])
def Q2 (l:List Entr)(id kind:Int):List Int:=
 (l.zip (itr (rchR l kind) (l.length+1) (List.replicate l.length false,[id])).1).filterMap fun p=>if p.2 then some p.1.id else none
def relE (l : List Entr) : Int :=
 orE (fstE (fun _ e=>fstE (fun _ x=>if invR x.kind<0 then 14 else match getE l x.to with|none=>9|some f=>if lkB f ⟨invR x.kind,e.id⟩=false then 1 else 0) 0 e.links) 0 l)
  (if (l.anyB fun e=>hasR (Q2 l e.id 2) e.id||hasR (Q2 l e.id 4) e.id) then 17 else 0)
def wayR (l:List Entr):Nat→Int→List Int
 | 0,_=>[]
 | n+1,id=>match getE l id with|none=>[]|some e=>e.id::(if e.main=0 then [] else wayR l n e.main)
def varE (l:List Entr):Int:=
 if (l.allB fun e=>decide (e.main=0)||hasE l e.main)=false then 9 else if (l.anyB fun e=>decide (l.length<(wayR l (l.length+1) e.id).length)) then 17 else 0
def A9d (g:Lng):Int:=orE (C3g g.segs) (orE (B7u g.segs.length g.ortho) (orE (B5b g) (orE (netE g.net) (orE (lexE g.segs.length g.lex) (orE (relE g.lex) (varE g.lex))))))
def A5e (l:List Entr):Bool:=if 5<l.length then false else l.allB fun e=>!(decide (3<e.form.length)||decide (1<e.alts.length))&&e.alts.allB fun a=>decide (a.length≤3)
def A4h (g:Lng):Bool:=
 if 8<g.segs.length∨10<g.ortho.units.length∨2<g.rules.length∨3<g.net.states∨6<g.net.steps.length∨3<g.net.final.length∨A5e g.lex=false then false else
 (g.rules.allB fun r=>decide (r.frm.length≤8))&&decide (A9d g=0)
def befP (a b:Prt):Bool:=if a.entry≠b.entry then decide (a.entry<b.entry) else if a.alt≠b.alt then decide (a.alt<b.alt) else decide (a.sense<b.sense)
def eqP (a b:Prt):Bool:=decide (a.entry=b.entry)&&(decide (a.alt=b.alt)&&decide (a.sense=b.sense))
def A4g:List Prt→List Prt→Bool
 | x::r,y::s=>if eqP x y then A4g r s else befP x y
 | l,m=>decide (l.length<m.length)
def B2u (a b:Dcn):Bool:=if a.ref.rcd≠b.ref.rcd then decide (a.ref.rcd<b.ref.rcd) else if a.ref.note≠b.ref.note then decide (a.ref.note<b.ref.note) else A4g a.pick b.pick
def dcnE (l:List Dcn)(i:Nat)(d:Dcn):Int:=
 if idB d.ref.rcd=false∨idB d.ref.note=false then 2 else if d.pick.length=0 then 4 else if 4<d.pick.length then 11 else if prvB (fun h=>!B2u h d) l i then 10 else
 if ((l.take i).anyB fun x=>d.yes&&(x.yes&&(decide (x.ref.rcd=d.ref.rcd)&&decide (x.ref.note=d.ref.note)))) then 8 else 0
def D2v (l:List Dcn):Int:=fstE (dcnE l) 0 l
def pntE (lex:List Entr)(p:Pnt):Int:=
 if H2 p.title=false then 7 else orE (A5z p.text) (if upB p.entries=false then 10 else if (p.entries.allB (hasE lex))=false then 9 else if p.refs.length=0∨12<p.refs.length then 24 else B7n p.refs 12)
def C3e (lex:List Entr)(l:List Pnt):Int:=if 40<l.length then 11 else
 fstE (fun i p=>if idB p.id=false then 2 else if prvB (fun h=>decide (p.id≤h.id)) l i then 10 else pntE lex p) 0 l
def prjE (p : Prj) : Int :=
 orE (A9d p.lang) (if 12<p.docs.length then 11 else orE (fstE (fun i d=>if docE d≠0 then docE d else if prvB (fun h=>decide (d.rc.id≤h.rc.id)) p.docs i then 10 else 0) 0 p.docs)
  (orE (D2v p.dcns) (orE (C3e p.lang.lex p.pnts) (B1u (p.docs.map (·.rc)) p.rgts))))
def prjL (p:Prj):Bool:=
 if prjE p≠0∨A4h p.lang=false∨2<p.docs.length∨6<p.dcns.length∨4<p.pnts.length∨A0o p.rgts (p.docs.map (·.rc))=false then false else p.docs.allB docL
end
section
open Go.RowKit Go.En Go.Dl Go.Tp
def insN {α:Type}(p:α→Bool)(l:List α):Nat→Nat
 | 0=>0
 | k+1=>match l[k]? with|some y=>if p y then insN p l k else k+1|none=>k+1
def insL {α:Type}(lt:α→α→Bool)(l:List α)(x:α):List α:=l.take (insN (lt x) l l.length)++x::l.drop (insN (lt x) l l.length)
def isrt {α:Type}(lt:α→α→Bool)(l:List α):List α:=l.foldl (insL lt) []
def mrg (out:List Spn)(s:Spn):List Spn:=
 match out.getLast? with
 | none=>[s]
 | some t=>if s.frm≤t.til then out.dropLast++[⟨t.frm,max t.til s.til⟩] else out++[s]
def uniP (l:List Spn):List Spn:=(isrt (fun a b=>decide (a.frm<b.frm)) (l.filter A5)).foldl mrg []
def N6:Nat→List Spn→List Spn→List Spn
 | n+1,x::a,y::b=>(if max x.frm y.frm<min x.til y.til then [⟨max x.frm y.frm,min x.til y.til⟩] else [])++(if x.til<y.til then N6 n a (y::b) else N6 n (x::a) b)
 | _,_,_=>[]
def B9q (a b:List Spn):List Spn:=N6 ((uniP a).length+(uniP b).length) (uniP a) (uniP b)
def Q9 (at_:Int):List Spn→List Spn
 | []=>[⟨at_,86400000⟩]
 | s::r=>⟨at_,s.frm⟩::Q9 s.til r
def A2y (a b:List Spn):List Spn:=B9q a (Q9 0 (uniP b))
def covP (l:List Spn)(s:Spn):Bool:=A5 s&&(uniP l).any fun x=>decide (x.frm≤s.frm)&&decide (s.til≤x.til)
def visG (l:List Grp):Nat→List Int→Int→List Int
 | 0,met,_=>met
 | n+1,met,id=>(match grpF l id with|some g=>g.subs|none=>[]).foldl (fun met sub=>if (grpF l sub).isSome&&!hasI met sub then visG l n (met++[sub]) sub else met) met
def belP (l:List Grp)(id:Int):List Int:=srtR (visG l l.length [] id)
def memP (l:List Grp)(id:Int):List Int:=srtR ((id::belP l id).flatMap fun x=>match grpF l x with|some g=>g.people|none=>[])
def inP (l:List Grp)(id person:Int):Bool:=hasI (memP l id) person
def mbrB (people:List Pers)(id:Int):Bool:=match perF people id with|some p=>p.member|none=>false
def mayP (people:List Pers)(groups:List Grp)(p:Prot)(v:Vwr):Bool:=
 if v.day<p.til then false else if p.level=2 then p.groups.any fun id=>inP groups id v.person else if p.level=3 then false else if p.level=1 then mbrB people v.person else true
def S4 (a:Rgts)(r:Rc)(v:Vwr):Int:=fstE (fun _ s=>if atR s r.id v.day a.consents=0 then 26 else if atR s r.id v.day a.consents=1∧mbrB a.people v.person=false then 25 else 0) 0 r.sp
def ruls (a:Rgts)(r:Rc)(v:Vwr):List Rul:=a.rules.filter fun x=>decide (x.rcd=r.id)&&!mayP a.people a.groups x.prot v
def D4 (a:Rgts)(r:Rc)(v:Vwr):List Spn:=
 if S4 a r v≠0 then [] else if ((ruls a r v).any fun x=>decide (x.span.frm=0)&&decide (x.span.til=0)) then [] else A2y [⟨0,r.len⟩] ((ruls a r v).map (·.span))
def mayA (a:Rgts)(r:Rc)(s:Spn)(v:Vwr):Int:=
 if S4 a r v≠0 then S4 a r v else if A5 s=false∨r.len<s.til then 12 else if covP (D4 a r v) s=false then 25 else 0
def cmpI (a b:Int):Int:=if a<b then -1 else if b<a then 1 else 0
def ordF (a b:Note):Int:=if cmpI a.parent b.parent≠0 then cmpI a.parent b.parent else if cmpI a.frm b.frm≠0 then cmpI a.frm b.frm else cmpI a.rank b.rank
def K5 (d:Doc)(id t:Int):List Int:=
 (isrt (fun a b=>decide (ordF a b<0)) (d.notes.filter fun n=>decide (n.tier=t)&&(decide (n.parent=id)&&(decide (0≤t)&&decide (t<(d.tiers.length:Int)))))).map (·.id)
def ofF (d:Doc):Nat→Int→List Int
 | 0,_=>[]
 | k+1,t=>if t<0∨(d.tiers.length:Int)≤t then [] else if (tAt d.tiers t).kind=0 then K5 d 0 t else (ofF d k (tAt d.tiers t).parent).flatMap fun id=>K5 d id t
def alB (l:List Tier)(i:Int):Bool:=decide (0≤i)&&(decide (i<(l.length:Int))&&J6 (tAt l i).kind)
def whrF (d:Doc):Nat→Int→Option Spn
 | 0,_=>none
 | k+1,id=>match getN d.notes id with|none=>none|some n=>if alB d.tiers n.tier then some (spOf n) else whrF d k n.parent
def A0l (d:Doc)(id:Int):Option Spn:=whrF d (d.tiers.length+1) id
def Q7 (d:Doc)(sp:List Spn)(id:Int):Bool:=match A0l d id with|some s=>covP sp s|none=>false
def K3 (d : Doc) : Nat → List Int → Int → List Int
 | 0,ms,_=>ms
 | k + 1, ms, id => match getN d.notes id with
  | none=>ms
  | some n=>if hasI ms id then ms else
   if (tAt d.tiers n.tier).kind=1 then (K5 d n.parent n.tier).foldl (K3 d k) (K3 d k (ms++[id]) n.parent) else K3 d k (ms++[id]) n.parent
def A6m (d:Doc)(sp:List Spn):List Int:=d.notes.foldl (fun ms n=>if Q7 d sp n.id then K3 d (d.notes.length) ms n.id else ms) []
def redN (d:Doc)(sp:List Spn)(n:Note):Note:=if Q7 d sp n.id then n else { n with text:=[] }
def redF (d:Doc)(sp:List Spn):Doc:=⟨d.rc,d.tiers,(d.notes.filter fun n=>hasI (A6m d sp) n.id).map (redN d sp)⟩
def A2l (l:List Dcn)(r:Rf):Option (List Prt):=(l.find? fun d=>decide (d.ref.rcd=r.rcd)&&(decide (d.ref.note=r.note)&&d.yes)).map (·.pick)
def H9 (l:List Tier)(r:Int):Int:=ixF (fun x=>decide (r≠0)&&decide (x.role=r)) l 0
def A2x (d:Doc):Bool:=decide (0≤H9 d.tiers 2)&&(decide (0≤H9 d.tiers 3)&&decide (0≤H9 d.tiers 4))
def undG (d:Doc):Nat→Int→List Int
 | 0,_=>[]
 | k+1,id=>(d.notes.filter fun n=>decide (n.parent=id)).flatMap fun n=>n.id::undG d k n.id
def K9 (d:Doc)(id:Int):List Int:=match getN d.notes id with|none=>[]|some _=>srtR (undG d d.tiers.length id)
def O8 (d : Doc)(w : Int) : Option Doc :=
 if A2x d=false then none else match getN d.notes w with
 | none=>none
 | some n=>if n.tier≠H9 d.tiers 2 then none else
  some ⟨d.rc,d.tiers,d.notes.filter fun n=>!hasI ((K5 d w (H9 d.tiers 3)).flatMap fun id=>id::K9 d id) n.id⟩
def docF (ds:List Doc)(id:Int):Option Doc:=ds.find? fun x=>decide (x.rc.id=id)
def K7 (p:Prj)(v:Vwr)(r:Rf):Bool:=match docF p.docs r.rcd with|some d=>Q7 d (D4 p.rgts d.rc v) r.note|none=>false
def R9 (st:List Int)(e:Entr):Entr:={ e with main:=if hasI st e.main then e.main else 0,links:=e.links.filter fun x=>hasI st x.to }
def K8 (g:Lng)(st:List Int):Lng:={ g with lex:=(g.lex.filter fun e=>hasI st e.id).map (R9 st) }
def T6 (a:List Prt)(st:List Int):Bool:=a.all fun x=>hasI st x.entry
def B4x (p:Prj)(v:Vwr)(l:List Rf):List Rf:=l.filter (K7 p v)
def A0p (docs:List Doc)(r:Rf):Bool:=match docF docs r.rcd with|some d=>(getN d.notes r.note).isSome|none=>false
def remF (p:Prj)(v:Vwr)(docs:List Doc)(l:List Rf):List Rf:=(B4x p v l).filter (A0p docs)
def clrF (p:Prj)(st:List Int)(d:Doc):Doc:=
 (ofF d (d.tiers.length+1) (H9 d.tiers 2)).foldl (fun x id=>match A2l p.dcns ⟨d.rc.id,id⟩ with|none=>x|some a=>if T6 a st then x else (O8 x id).getD x) d
end
end Go.Proofs.YtojadfppncgphaaGreatDoor
namespace Go.En
open Go.RowKit
def C5h (a b:Int):Int:=IntKind.i64.wrap ((BitVec.ofInt 64 a &&& BitVec.ofInt 64 b).toNat)
@[reducible] def u32 (m:Nat):Value:=.int .u32 (m:Int)
theorem A7k {m:Nat}(h:m<4294967296):IntKind.u32.wrap (m:Int)=(m:Int):=by
 simp [IntKind.wrap,IntKind.signed,IntKind.bits];omega
theorem A1q {m:Nat}(h:m<4294967296):(BitVec.ofInt 32 (m:Int)).toNat=m:=by
 rw [BitVec.toNat_ofInt]
 have:((m:Int) % ((2 ^ 32:Nat):Int))=(m:Int):=Int.emod_eq_of_lt (by omega) (by simp;omega)
 rw [this];omega
section
variable {P : Program}{n : Nat}{Q : Post}{L : List (Nat × Value)}{w : World}{ops : List Oper}{o : Oper}{rest : List Oper}
theorem D5q {t u:TypeId}{x y:Operand}{a b:Int}(ho:o.op=.binOp .and t x y u)(hx:ev L x=some (int a))(hy:ev L y=some (int b)):Val P L w o (int (C5h a b)):=
 P2 ho hx hy rfl
theorem X4 {t u:TypeId}{x y:Operand}{a b:Nat}(ho:o.op=.binOp .and t x y u)(hx:ev L x=some (u32 a))(hy:ev L y=some (u32 b))(ha:a<4294967296)(hb:b<4294967296):Val P L w o (u32 (a &&& b)):=
 P2 ho hx hy (by
  have h1:a &&& b<4294967296:=Nat.lt_of_le_of_lt Nat.and_le_left ha
  have h2:((BitVec.ofInt 32 (a:Int)) &&& (BitVec.ofInt 32 (b:Int))).toNat=a &&& b:=by rw [BitVec.toNat_and,A1q ha,A1q hb]
  have key:binOp .and t (u32 a) (u32 b)=pure (.int .u32 (IntKind.u32.wrap (((BitVec.ofInt 32 (a:Int)) &&& (BitVec.ofInt 32 (b:Int))).toNat:Int))):=rfl
  rw [key,h2,A7k h1])
theorem B6r {t u:TypeId}{x y:Operand}{a b:Nat}(ho:o.op=.binOp .or t x y u)(hx:ev L x=some (u32 a))(hy:ev L y=some (u32 b))(ha:a<4294967296)(hb:b<4294967296):Val P L w o (u32 (a ||| b)):=
 P2 ho hx hy (by
  have h1:a ||| b<2 ^ 32:=Nat.or_lt_two_pow ha hb
  have h2:((BitVec.ofInt 32 (a:Int)) |||(BitVec.ofInt 32 (b:Int))).toNat=a ||| b:=by rw [BitVec.toNat_or,A1q ha,A1q hb]
  have key:binOp .or t (u32 a) (u32 b)=pure (.int .u32 (IntKind.u32.wrap (((BitVec.ofInt 32 (a:Int)) |||(BitVec.ofInt 32 (b:Int))).toNat:Int))):=rfl
  rw [key,h2,A7k h1])
theorem B1f {op:BinOp}{t u:TypeId}{x y:Operand}{k k':IntKind}{a b z:Int}(ho:o.op=.binOp op t x y u)(hop:op=.shl∨op=.shr)(hx:ev L x=some (.int k a))(hy:ev L y=some (.int k' b))
  (hz:Op.shift op k a k' b=pure (.int k z)):Val P L w o (.int k z):=fun ρ ha=>by
 have h1:=ha.ev (by rw [ho];simp [Op.operands]) hx
 have h2:=ha.ev (by rw [ho];simp [Op.operands]) hy
 rcases hop with rfl|rfl
 ·simp only [execOp,ho,h1,h2,eqGuard,binOp,hz];rfl
 ·simp only [execOp,ho,h1,h2,eqGuard,binOp,hz];rfl
theorem B1e {t u:TypeId}{x y:Operand}{q:Nat}(ho:o.op=.binOp .shl t x y u)(hx:ev L x=some (u32 1))(hy:ev L y=some (int q))(hq:q<32):Val P L w o (u32 (2 ^ q)):=
 B1f ho (.inl rfl) hx hy (by
  have h0:¬ ((q:Int)<0):=by omega
  have h2:(2:Nat) ^ q<4294967296:=Nat.pow_lt_pow_right (by omega) (m:=q) (n:=32) hq
  have h1:((1:Nat):Int)*2 ^ q=((2 ^ q:Nat):Int):=by simp
  unfold Op.shift
  rw [if_neg h0]
  simp only [IntKind.bits,Int.toNat_natCast]
  rw [Nat.min_eq_left (Nat.le_of_lt hq),h1,A7k h2])
theorem C5z {t u:TypeId}{x y:Operand}{m q:Nat}(ho:o.op=.binOp .shr t x y u)(hx:ev L x=some (u32 m))(hy:ev L y=some (int q))(hq:q<32):Val P L w o (u32 (m >>> q)):=
 B1f ho (.inr rfl) hx hy (by
  have h0:¬ ((q:Int)<0):=by omega
  unfold Op.shift
  rw [if_neg h0]
  simp only [IntKind.bits,Int.toNat_natCast]
  rw [Nat.min_eq_left (Nat.le_of_lt hq)]
  have:((m:Int)).fdiv (2 ^ q)=((m >>> q:Nat):Int):=by
   rw [Nat.shiftRight_eq_div_pow]
   rw [Int.fdiv_eq_ediv_of_nonneg _ (Int.pow_nonneg (by omega))]
   simp
  rw [this])
end
def MaskIs (m:Nat)(S:Int→Bool):Prop:=m<2 ^ 24∧∀ q:Nat,m.testBit q=S (q:Int)
theorem MaskIs.lt {m:Nat}{S:Int→Bool}(h:MaskIs m S):m<4294967296:=by have:=h.1;omega
end Go.En
