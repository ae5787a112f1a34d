/- Own text. -/
import Derived.Test.YtojadfppncgphaaGreatDoorQUf
import Derived.Test.YtojadfppncgphaaGreatDoorQUc
set_option linter.all false
set_option maxHeartbeats 16000000
set_option maxRecDepth 8000
namespace Go.Proofs.YtojadfppncgphaaGreatDoor
section
open Go.RowKit Go.En Go.Dl Go.Tp
def B4h (ds:List Doc)(r:Rf):Option Spn:=match docF ds r.rcd with|some d=>A0l d r.note|none=>none
def V2 (ds:List Doc)(g:Lng)(id:Int):List Rf:=((getE g.lex id).getD ent0).refs.filter (attP ds g id)
def A2h (d:Doc)(ids:List Int):List Tx:=ids.map fun id=>((getN d.notes id).getD L9).text
structure Hit where
 ref:Rf
 left:List Tx
 key:Tx
 right:List Tx
def hitC (h:Hit):List Dt:=[dI h.ref.rcd,dI h.ref.note,txts h.left,dS h.key,txts h.right]
def hit0:Hit:=⟨⟨0,0⟩,[],[],[]⟩
def hitF (d : Doc)(id : Int) : Option Hit := (getN d.notes id).map fun n =>
 ⟨⟨d.rc.id,id⟩,A2h d (((K5 d n.parent n.tier).take (ixF (fun x=>decide (id=x)) (K5 d n.parent n.tier) 0).toNat).drop ((ixF (fun x=>decide (id=x)) (K5 d n.parent n.tier) 0).toNat-1)),n.text,
  A2h d (((K5 d n.parent n.tier).take (min (K5 d n.parent n.tier).length ((ixF (fun x=>decide (id=x)) (K5 d n.parent n.tier) 0).toNat+2))).drop ((ixF (fun x=>decide (id=x)) (K5 d n.parent n.tier) 0).toNat+1))⟩
theorem G6p (o:Option Note):fRes C4 L9 o=.t [.g (C4 (o.getD L9)),dB o.isSome]:=by cases o <;> rfl
theorem G6r (o:Option Entr):fRes entC ent0 o=.t [.g (entC (o.getD ent0)),dB o.isSome]:=by cases o <;> rfl
theorem D0n {d:Doc}{n:Note}(hg:GD d)(h:n∈d.notes):n.id∈K5 d n.parent n.tier:=by
 unfold K5
 have ht:=hg.tr n h
 refine List.mem_map.2 ⟨n,(A4j _ _ _).2 (List.mem_filter.2 ⟨h,?_⟩),rfl⟩
 simp [ht.1,ht.2]
attribute [local irreducible] X XL XW XG XK Val LS Fp Fo Calls bodyPost Code.wp
theorem c17 (ds:List Doc)(r:Rf)(hg:∀ d∈ds,GD d):Fp Tryz.prog 17 [docs ds,.g (rfC r)] (fRes spnC spn0 (B4h ds r)):=by
 unfold B4h
 obtain⟨o,ho⟩:∃ b,docF ds r.rcd=b:=⟨_,rfl⟩;have co:=n53 ds r.rcd;rw [ho] at co;cases o
 ·rw [ho]
  dsimp only
  refine fXw Tryz.func17 Tryz.ntmps17 fun c hM=>?_
  (repeat' (first|refine cDw en53 co ?_|refine Wz ?_|fail))
  all_goals (try exact oMw)
  exact rXw hM
 ·rename_i d
  rw [ho]
  dsimp only
  obtain⟨q,hq⟩:∃ b,A0l d r.note=b:=⟨_,rfl⟩;have cq:=c54 d r.note (hg d (List.mem_of_find?_eq_some ho));rw [hq] at cq;cases q
  ·rw [hq]
   refine fXw Tryz.func17 Tryz.ntmps17 fun c hM=>?_
   (repeat' (first|refine cDw en53 co ?_|refine cDw en54 cq ?_|refine Wz ?_|fail))
   all_goals (try exact oMw)
   exact rXw hM
  ·rename_i s
   rw [hq]
   refine fXw Tryz.func17 Tryz.ntmps17 fun c hM=>?_
   (repeat' (first|refine cDw en53 co ?_|refine cDw en54 cq ?_|refine Wz ?_|fail))
   all_goals (try exact oMw)
   exact rXw hM
theorem c12o (l:List Pnt)(hl:l.length≤1000)(hr:∀ p∈l,p.refs.length≤1000):Fo Tryz.prog 12 [.d (pnts l)] [] (.o 904 (numF l).length) [(904,.ls 77 2 (numF l).length ((numF l).map rfC))]:=by
 have ck:=c48o l hl hr
 refine fo_X (n:=11) Tryz.func12 rfl Tryz.ntmps12 rfl fun c hM=>?_
 (repeat' (first|refine G_c (B4 [(4,904),(10,910)] (ck) Z Z Z Z tRw en48) Z Z Z ?_|refine Wz ?_|fail))
 (first|exact A9 hM Z Z Z tRw Z Z|exact C0 (A9 hM Z Z Z tRw Z Z))
theorem c13 (ds:List Doc)(g:Lng)(id:Int)(hg:LgS g)(ho:OrS g.ortho)(ht:∀ d∈ds,∀ n∈d.notes,n.text.length≤1000)(hr:∀ e∈g.lex,e.refs.length≤1000):Fp Tryz.prog 13 [docs ds,.g (lngC g),dI id] (refs (V2 ds g id)):=by
 unfold V2
 have c1:=c49 g.lex id
 rw [G6r] at c1
 obtain⟨o,ho'⟩:∃ o,getE g.lex id=o:=⟨_,rfl⟩
 rw [ho'] at c1 ⊢
 obtain⟨e,he⟩:∃ e,o.getD ent0=e:=⟨_,rfl⟩
 have hel:e.refs.length≤1000:=by
  rw [← he]
  cases o with
  | none=>exact zLw
  | some x=>exact hr x (List.mem_of_find?_eq_some ho')
 rw [he] at c1 ⊢
 have ca:=fun r=>c50 ds g id r hg ho ht
 obtain⟨p,hp⟩:∃ p,attP ds g id=p:=⟨_,rfl⟩
 rw [hp] at ca ⊢
 refine fXw Tryz.func13 Tryz.ntmps13 fun c hM=>?_
 (repeat' (first|refine cDw en49 c1 ?_|refine Wz ?_|refine Wb fun hb=>?_))
 refine D0 9 9 77 2 Z Z ?_
 refine X_lp (ι:=Nat × Nat) 68715284992 [9] (fun s=>[(9,.o 9 s.2),(22,.d (dI s.1))]) (fun s=>[(9,.ls 77 2 s.2 (((e.refs.take s.1).filter p).map rfC))]) (fun s=>s.1≤e.refs.length) (fun s=>e.refs.length-s.1) ((0,0)) ?_ ?_
 ·exact zLw
 rintro⟨i,u⟩ hi
 dsimp only at hi ⊢
 by_cases hlt:i<e.refs.length
 ·obtain⟨x,hx⟩:=gex hlt
  have c2:=ca x
  have hle:((e.refs.take i).filter p).length≤1000:=Nat.le_trans (List.length_filter_le _ _) (by rw [List.length_take];omega)
  cases hb:p x with
  | false=>
   rw [hb] at c2
   (repeat' (first|refine iDw (gm hx) ?_|refine cDw en50 c2 ?_|refine Wz ?_|apply Wd <;>intro hh))
   all_goals (try exact oMw)
   exact A0 (i+1,u) (oDw) (oDw) (hh:=A1 (by dsimp only;rw [G1 hx hb];rfl) (A4 _))
  | true=>
   rw [hb] at c2
   have hrow:((e.refs.take (i+1)).filter p).map rfC=((e.refs.take i).filter p).map rfC++[rfC x]:=by rw [D9 hx hb];simp
   (repeat' (first|refine iDw (gm hx) ?_|refine cDw en50 c2 ?_|refine Wz ?_|apply Wd <;>intro hh))
   all_goals (try exact oMw)
   exact A0 (i+1,u+1) (oDw) (oDw) (hh:=A1 (by dsimp only;rw [hrow];rfl) (A4 _))
 ·have hz:i=e.refs.length:=oEw
  subst hz
  rw [List.take_length]
  have hle:(e.refs.filter p).length≤1000:=Nat.le_trans (List.length_filter_le _ _) hel
  (repeat' (first|refine Wz ?_|apply Wd <;>intro hh))
  all_goals (try exact oMw)
  refine B9 6 Z Z lOw ?_
  exact rXw hM
theorem c131 (d:Doc)(ids:List Int)(hl:ids.length≤1000):Fp Tryz.prog 131 [.g (docC d),ints ids] (txts (A2h d ids)):=by
 refine fXw Tryz.func131 Tryz.ntmps131 fun c hM=>?_
 (repeat' (first|refine Wz ?_|refine Wb fun hb=>?_))
 refine D0 5 5 9 1 Z Z ?_
 refine X_lp (ι:=Nat × Nat) 268432288 [5] (fun s=>[(5,.o 5 s.2),(12,.d (dI s.1))]) (fun s=>[(5,.ls 9 1 s.2 ((A2h d (ids.take s.1)).map tC))]) (fun s=>s.1≤ids.length) (fun s=>ids.length-s.1) ((0,0)) ?_ ?_
 ·exact zLw
 rintro⟨i,u⟩ hi
 dsimp only at hi ⊢
 have hlen:∀ q:List Int,(A2h d q).length=q.length:=fun q=>by unfold A2h;rw [List.length_map]
 by_cases hlt:i<ids.length
 ·obtain⟨x,hx⟩:=gex hlt
  have c2:=n119 d x
  rw [G6p] at c2
  have hrow:(A2h d (ids.take (i+1))).map tC=(A2h d (ids.take i)).map tC++[tC ((getN d.notes x).getD L9).text]:=by unfold A2h;rw [List.take_add_one,hx];simp
  have hle:(A2h d (ids.take i)).length≤1000:=by rw [hlen,List.length_take];omega
  obtain⟨o,ho⟩:∃ o,getN d.notes x=o:=⟨_,rfl⟩
  rw [ho] at c2 hrow
  obtain⟨y,hy⟩:∃ y,o.getD L9=y:=⟨_,rfl⟩
  rw [hy] at c2 hrow
  (repeat' (first|refine iDw (gm hx) ?_|refine cDw M7 c2 ?_|refine Wz ?_|apply Wd <;>intro hh))
  all_goals (try exact oMw)
  exact A0 (i+1,u+1) (oDw) (oDw) (hh:=A1 (by dsimp only;rw [hrow];rfl) (A4 _))
 ·have hz:i=ids.length:=oEw
  subst hz
  rw [List.take_length]
  have hle:=hlen ids
  (repeat' (first|refine Wz ?_|apply Wd <;>intro hh))
  all_goals (try exact oMw)
  refine B9 4 Z Z lOw ?_
  exact rXw hM
theorem c51 (d:Doc)(id:Int)(hg:GD d):Fp Tryz.prog 51 [.g (docC d),dI id,dI 1] (fRes hitC hit0 (hitF d id)):=by
 unfold hitF
 obtain⟨o,ho⟩:∃ b,getN d.notes id=b:=⟨_,rfl⟩;have co:=n119 d id;rw [ho] at co;cases o
 ·rw [ho]
  refine fXw Tryz.func51 Tryz.ntmps51 fun c hM=>?_
  (repeat' (first|refine cDw M7 co ?_|refine Wz ?_|fail))
  all_goals (try exact oMw)
  exact rXw hM
 ·rename_i n
  rw [ho,Option.map_some]
  have hm:=H3 ho
  have hk:=D0n hg hm.1
  rw [hm.2] at hk
  have hkl:=T0 hg n.parent n.tier
  have c1:=c129 d n.parent n.tier hg
  obtain⟨l,hl⟩:∃ l,K5 d n.parent n.tier=l:=⟨_,rfl⟩
  rw [hl] at hk hkl c1 ⊢
  have c2:=c130 l id
  rcases Q5 (fun x:Int=>decide (id=x)) l 0 with⟨_,h2⟩|⟨m,x,h1,h2,_⟩
  ·have:=List.find?_eq_none.1 h2 id hk
   simp at this
  rw [Nat.zero_add] at h1
  have h1':ixF (fun x:Int=>decide (id=x)) l 0=(m:Int):=h1
  dsimp only at c2
  rw [h1'] at c2 ⊢
  rw [Int.toNat_natCast]
  have hml:=(List.getElem?_eq_some_iff.1 h2).1
  have ca:=c131 d ((l.take m).drop (m-1)) (by rw [List.length_drop,List.length_take];omega)
  have cb:=c131 d ((l.take (min l.length (m+2))).drop (m+1)) (by rw [List.length_drop,List.length_take];omega)
  rw [show ints ((l.take m).drop (m-1))=.s 1 (((l.map iC).take m).drop (m-1)) by rw [← List.map_take,← List.map_drop]] at ca
  rw [show ints ((l.take (min l.length (m+2))).drop (m+1))=.s 1 (((l.map iC).take (min l.length (m+2))).drop (m+1)) by rw [← List.map_take,← List.map_drop]] at cb
  refine fXw Tryz.func51 Tryz.ntmps51 fun c hM=>?_
  (repeat' (first|refine cDw M7 co ?_|refine cDw B3t c1 ?_|refine cDw C4x c2 ?_|(refine W4 ?_;first|refine G_x (A7 fun _=>zMn Z Z Z) Z Z ?_|refine G_x (A7 fun _=>zMx Z Z Z) Z Z ?_)|(refine G_x (A4b (a:=m-1) (b:=m) Z Z Z Z oEw oEw oEw (by simp only [List.length_map];omega)) Z Z ?_)|(refine G_x (A4b (a:=m+1) (b:=min l.length (m+2)) Z Z Z Z oEw oEw oEw (by simp only [List.length_map];omega)) Z Z ?_)|refine G_x (A3 Z Z Z G1s (ca) (.eq rfl)) Z Z ?_|refine G_x (A3 Z Z Z G1s (cb) (.eq rfl)) Z Z ?_|refine Wz ?_|refine Wb fun hb=>?_))
  all_goals (try exact oMw)
  exact rXw hM
theorem c15 (d:Doc)(ids:List Int)(hg:GD d)(hl:ids.length≤1000):Fp Tryz.prog 15 [.g (docC d),ints ids,dI 1] (.s 5 ((ids.filterMap (hitF d)).map hitC)):=by
 refine fXw Tryz.func15 Tryz.ntmps15 fun c hM=>?_
 (repeat' (first|refine Wz ?_|refine Wb fun hb=>?_))
 refine D0 7 7 80 5 Z Z ?_
 refine X_lp (ι:=Nat × Nat) 2147470976 [7] (fun s=>[(7,.o 7 s.2),(14,.d (dI s.1))]) (fun s=>[(7,.ls 80 5 s.2 (((ids.take s.1).filterMap (hitF d)).map hitC))]) (fun s=>s.1≤ids.length) (fun s=>ids.length-s.1) ((0,0)) ?_ ?_
 ·exact zLw
 rintro⟨i,u⟩ hi
 dsimp only at hi ⊢
 by_cases hlt:i<ids.length
 ·obtain⟨x,hx⟩:=gex hlt
  have c2:=c51 d x hg
  have hle:((ids.take i).filterMap (hitF d)).length≤1000:=Nat.le_trans (List.length_filterMap_le _ _) (by rw [List.length_take];omega)
  have hst:(ids.take (i+1)).filterMap (hitF d)=(ids.take i).filterMap (hitF d)++(match hitF d x with|some h=>[h]|none=>[]):=by
   rw [List.take_add_one,hx,List.filterMap_append]
   cases hb:hitF d x <;> simp [List.filterMap,hb]
  cases hb:hitF d x with
  | none=>
   rw [hb] at c2 hst
   dsimp only at hst
   rw [List.append_nil] at hst
   (repeat' (first|refine iDw (gm hx) ?_|refine cDw en51 c2 ?_|refine Wz ?_|apply Wd <;>intro hh))
   all_goals (try exact oMw)
   exact A0 (i+1,u) (oDw) (oDw) (hh:=A1 (by dsimp only;rw [hst];rfl) (A4 _))
  | some h=>
   rw [hb] at c2 hst
   have hrow:((ids.take (i+1)).filterMap (hitF d)).map hitC=((ids.take i).filterMap (hitF d)).map hitC++[hitC h]:=by rw [hst];simp
   (repeat' (first|refine iDw (gm hx) ?_|refine cDw en51 c2 ?_|refine Wz ?_|apply Wd <;>intro hh))
   all_goals (try exact oMw)
   exact A0 (i+1,u+1) (oDw) (oDw) (hh:=A1 (by dsimp only;rw [hrow];rfl) (A4 _))
 ·have hz:i=ids.length:=oEw
  subst hz
  rw [List.take_length]
  have hle:(ids.filterMap (hitF d)).length≤1000:=Nat.le_trans (List.length_filterMap_le _ _) hl
  (repeat' (first|refine Wz ?_|apply Wd <;>intro hh))
  all_goals (try exact oMw)
  refine B9 6 Z Z lOw ?_
  exact rXw hM
def gN (d:Doc)(id:Int):Note:=(getN d.notes id).getD L9
def befR (d:Doc):Nat→Note→Note→Bool
 | 0,_,_=>false
 | k+1,a,b=>if a.parent≠b.parent then befR d k (gN d a.parent) (gN d b.parent) else if J6 (tAt d.tiers a.tier).kind then decide (a.frm<b.frm) else decide (a.rank<b.rank)
def Pd (d:Doc)(a:Note)(m:Nat):Prop:=(a∈d.notes∧a.tier.toNat<m)∨a=L9
theorem D9j {d:Doc}(hg:GD d)(hp:∀ n∈d.notes,1≤n.id){a:Note}{m:Nat}(h:Pd d a m):Pd d (gN d a.parent) (m-1):=by
 unfold gN
 cases hx:getN d.notes a.parent with
 | none=>exact .inr rfl
 | some x=>
  have hm:=H3 hx
  rcases h with⟨h1,h2⟩|rfl
  ·have h3:=hg.up a h1 x hm.1 hm.2.symm
   have h4:=hg.tr x hm.1
   exact .inl ⟨hm.1,by show x.tier.toNat<_;omega⟩
  ·have h5:=hp x hm.1
   rw [hm.2] at h5
   exact absurd h5 (by decide)
def ofR (d:Doc)(K:Nat)(t:Int):List Int:=(isrt (befR d K) (d.notes.filter fun n=>decide (n.tier=t))).map (·.id)
theorem G6q (o:Option Note):fRes C4 L9 o=.t [.g (C4 (o.getD L9)),dB o.isSome]:=by cases o <;> rfl
theorem m132 (d:Doc)(id:Int):Fp Tryz.prog 132 [.g (docC d),dI id] (.t [.g (C4 (gN d id)),dB (getN d.notes id).isSome]):=by
 have:=c132 d id
 rw [show fRes C4 L9 (d.notes.find? fun x=>decide (x.id=id))=.t [.g (C4 (gN d id)),dB (getN d.notes id).isSome] from G6q _] at this
 exact this
theorem c52 (d : Doc)(hg : GD d)(hp : ∀ n ∈ d.notes, 1 ≤ n.id)(ht : 0 < d.tiers.length) : ∀ (k : Nat) (a b : Note) (ma mb : Nat), Pd d a ma → Pd d b mb → ma + mb < k → Fp Tryz.prog 52 [.g (docC d), .g (C4 a), .g (C4 b)] (dB (befR d k a b))
 | 0,_,_,_,_,_,_,h=>absurd h (Nat.not_lt_zero _)
 | k + 1, a, b, ma, mb, ha, hb, hk => by
  rw [befR]
  by_cases hne:a.parent≠b.parent
  ·rw [if_pos hne]
   have hpos:1≤ma+mb:=by
    rcases ha with⟨_,h⟩|rfl
    ·omega
    ·rcases hb with⟨_,h⟩|rfl
     ·omega
     ·exact absurd rfl hne
   have ih:=c52 d hg hp ht k (gN d a.parent) (gN d b.parent) (ma-1) (mb-1) (D9j hg hp ha) (D9j hg hp hb) oEw
   have c1:=m132 d a.parent
   have c2:=m132 d b.parent
   obtain⟨x,hx⟩:∃ x,gN d a.parent=x:=⟨_,rfl⟩
   obtain⟨y,hy⟩:∃ y,gN d b.parent=y:=⟨_,rfl⟩
   rw [hx] at c1 ih ⊢
   rw [hy] at c2 ih ⊢
   refine fXw Tryz.func52 Tryz.ntmps52 fun c hM=>?_
   (repeat' (first|refine G_x (A3 Z Z Z C4w (c1) (.eq rfl)) Z Z ?_|refine G_x (A3 Z Z Z C4w (c2) (.eq rfl)) Z Z ?_|refine cDw en52 ih ?_|refine Wz ?_|apply Wd <;>intro hh))
   all_goals (try exact oMw)
   exact rXw hM
  ·rw [if_neg hne]
   have hr:0≤a.tier∧a.tier<(d.tiers.length:Int):=by
    rcases ha with⟨h,_⟩|rfl
    ·exact hg.tr a h
    ·exact⟨Int.le_refl _,by show(0:Int)<_;omega⟩
   obtain⟨i,hi⟩:∃ i:Nat,a.tier=(i:Int):=⟨a.tier.toNat,oEw⟩
   obtain⟨t,hti⟩:=gex (l:=d.tiers) (i:=i) oEw
   have hta:tAt d.tiers a.tier=t:=by rw [hi];exact B4r hti
   rw [hta]
   obtain⟨b',hb'⟩:∃ b,J6 t.kind=b:=⟨_,rfl⟩;have cb':=c133 t.kind;rw [hb'] at cb'
   rw [hb']
   cases b'
   ·rw [if_neg (by decide)]
    refine fXw Tryz.func52 Tryz.ntmps52 fun c hM=>?_
    (repeat' (first|(refine G_x (A2 (m:=i) Z Z Z hi (gm hti)) Z Z ?_)|refine cDw B9d cb' ?_|refine Wz ?_|apply Wd <;>intro hh))
    all_goals (try exact oMw)
    all_goals (refine rEw hM ?_;simp [one1, *,dB])
   ·rw [if_pos rfl]
    refine fXw Tryz.func52 Tryz.ntmps52 fun c hM=>?_
    (repeat' (first|(refine G_x (A2 (m:=i) Z Z Z hi (gm hti)) Z Z ?_)|refine cDw B9d cb' ?_|refine Wz ?_|apply Wd <;>intro hh))
    all_goals (try exact oMw)
    all_goals (refine rEw hM ?_;simp [one1, *,dB])
theorem c16 (d:Doc)(t:Int)(hg:GD d)(hp:∀ n∈d.notes,1≤n.id):Fp Tryz.prog 16 [.g (docC d),dI t] (ints (ofR d 20 t)):=by
 unfold ofR
 have hnn:=hg.nn
 have hnt:=hg.nt
 obtain⟨P,hP⟩:∃ P:Note→Bool,P=fun n=>decide (n.tier=t):=⟨_,rfl⟩
 rw [← hP]
 have hfl:=List.length_filter_le P d.notes
 refine fXw Tryz.func16 Tryz.ntmps16 fun c hM=>?_
 (repeat' (first|refine Wz ?_|fail))
 refine X_lp (ι:=Nat) 72057594037924320 [] (fun i=>[(5,.d (.s 7 ((isrt (befR d 20) ((d.notes.take i).filter P)).map C4))),(6,.d (dI i))]) (fun _=>[]) (fun i=>i≤d.notes.length) (fun i=>d.notes.length-i) (0) ?_ ?_
 ·exact zLw
 rintro i hi
 have hll:(isrt (befR d 20) ((d.notes.take i).filter P)).length≤i:=by rw [S0];exact Nat.le_trans (List.length_filter_le _ _) (by rw [List.length_take];omega)
 have hmem:∀ y∈isrt (befR d 20) ((d.notes.take i).filter P),y∈d.notes:=fun y hy=>by
  rw [A4j] at hy
  exact List.mem_of_mem_take (List.mem_filter.1 hy).1
 by_cases hlt:i<d.notes.length
 ·obtain⟨n,hn⟩:=gex hlt
  have hnm:=List.mem_of_getElem? hn
  have hPn:P n=decide (n.tier=t):=by rw [hP]
  by_cases hnt':n.tier=t
  rotate_left
  ·rw [decide_eq_false hnt'] at hPn
   have hf:=G1 hn hPn
   (repeat' (first|refine iDw (gm hn) ?_|refine Wz ?_|refine Wb fun hb=>?_|apply Wd <;>intro hh))
   all_goals (try exact oMw)
   exact A0 (i+1) oEw oEw (hf:=A6 (by rw [hf];rfl) (A6 Z (B8 _)))
  rw [decide_eq_true hnt'] at hPn
  have hf:=D9 hn hPn
  obtain⟨L,hL⟩:∃ L,isrt (befR d 20) ((d.notes.take i).filter P)=L:=⟨_,rfl⟩
  have hL2:isrt (befR d 20) ((d.notes.take (i+1)).filter P)=L.take (insN (befR d 20 n) L L.length)++n::L.drop (insN (befR d 20 n) L L.length):=by rw [hf,B3f,hL];rfl
  rw [hL] at hll hmem ⊢
  (repeat' (first|refine iDw (gm hn) ?_|refine Wz ?_|refine Wb fun hb=>?_|apply Wd <;>intro hh))
  all_goals (try exact oMw)
  refine X_lp (ι:=Nat) 17591112302848 [] (fun j=>[(8,.d (dI j))]) (fun _=>[]) (fun j=>j≤L.length∧insN (befR d 20 n) L L.length=insN (befR d 20 n) L j) (fun j=>j) (L.length) ?_ ?_
  ·exact⟨Nat.le_refl _,rfl⟩
  rintro j ⟨hj,hq⟩
  have hgo:∀ J,insN (befR d 20 n) L L.length=J→(isrt (befR d 20) ((d.notes.take (i+1)).filter P)).map C4=(L.map C4).take J++[C4 n]++(L.map C4).drop J:=fun J hJ=>by rw [hL2,hJ,List.map_append,List.map_cons,List.map_take,List.map_drop];simp
  by_cases hj0:j=0
  ·subst hj0
   rw [insN] at hq
   have hrow:=hgo 0 hq
   (repeat' (first|refine G_n Z Z (L1 44 Z Z Z Z Z) Z ?_|(refine G_x (M2 (b:=0) Z Z Z Z (by simp only [List.length_map];omega)) Z Z ?_)|(refine G_x (R3 (a:=0) Z Z Z Z (by simp only [List.length_map];omega)) Z Z ?_)|refine Wz ?_|apply Wd <;>intro hh))
   all_goals (try exact oMw)
   refine B9 5 Z Z lOw ?_
   exact A0 (i+1) oEw oEw (hf:=A6 (by rw [hrow];rfl) (A6 Z (B8 _)))
  obtain⟨m,rfl⟩:∃ m,j=m+1:=⟨j-1,oEw⟩
  obtain⟨y,hy⟩:=gex (l:=L) (i:=m) oEw
  rw [insN,hy] at hq
  dsimp only at hq
  have hym:=hmem y (List.mem_of_getElem? hy)
  have hn1:=hg.tr n hnm
  have hy1:=hg.tr y hym
  have cb:=c52 d hg hp oEw 20 n y 7 7 (.inl ⟨hnm,oEw⟩) (.inl ⟨hym,oEw⟩) oEw
  obtain⟨b,hb⟩:∃ b,befR d 20 n y=b:=⟨_,rfl⟩
  rw [hb] at hq cb
  cases b with
  | true=>
   rw [if_pos rfl] at hq
   (repeat' (first|refine iDw (gm hy) ?_|refine cDw en52 cb ?_|refine Wz ?_|apply Wd <;>intro hh))
   all_goals (try exact oMw)
   exact A0 m ⟨oEw,hq⟩ oEw (hf:=A6 (by first|rfl|(rw [show(((m+1:Nat):Int)-1)=(m:Int) by omega];rfl)|(show some _=some _;simp [dI])) (B8 _))
  | false=>
   rw [if_neg (by decide)] at hq
   have hrow:=hgo (m+1) hq
   (repeat' (first|refine iDw (gm hy) ?_|refine cDw en52 cb ?_|refine G_n Z Z (L1 44 Z Z Z Z Z) Z ?_|(refine G_x (M2 (b:=m+1) Z Z Z Z (by simp only [List.length_map];omega)) Z Z ?_)|(refine G_x (R3 (a:=m+1) Z Z Z Z (by simp only [List.length_map];omega)) Z Z ?_)|refine Wz ?_|apply Wd <;>intro hh))
   all_goals (try exact oMw)
   refine B9 5 Z Z lOw ?_
   exact A0 (i+1) oEw oEw (hf:=A6 (by rw [hrow];rfl) (A6 Z (B8 _)))
 ·have hz:i=d.notes.length:=oEw
  subst hz
  rw [List.take_length] at hll ⊢
  obtain⟨L,hL⟩:∃ L,isrt (befR d 20) (d.notes.filter P)=L:=⟨_,rfl⟩
  rw [hL] at hll ⊢
  (repeat' (first|refine G_nd Z Z (L1 _ Z Z Z Z Z) Z ?_|refine Wz ?_|refine Wb fun hb=>?_|apply Wd <;>intro hh))
  all_goals (try exact oMw)
  refine X_lp (ι:=Nat × Nat) 2361039126246746752512 [56] (fun s=>[(9,.o 56 s.2),(10,.d (dI s.1))]) (fun s=>[(56,.ls 3 1 s.2 (((L.take s.1).map (·.id)).map iC))]) (fun s=>s.1≤L.length) (fun s=>L.length-s.1) ((0,0)) ?_ ?_
  ·exact zLw
  rintro⟨j,u⟩ hj
  dsimp only at hj ⊢
  by_cases hjl:j<L.length
  ·obtain⟨y,hy⟩:=gex hjl
   have hrow:((L.take (j+1)).map (·.id)).map iC=((L.take j).map (·.id)).map iC++[iC y.id]:=by rw [List.take_add_one,hy];simp
   (repeat' (first|refine iDw (gm hy) ?_|refine Wz ?_|refine Wb fun hb=>?_|apply Wd <;>intro hh))
   all_goals (try exact oMw)
   exact A0 (j+1,u+1) (oDw) (oDw) (hh:=A1 (by dsimp only;rw [hrow];rfl) (A4 _))
  ·have hz:j=L.length:=oEw
   subst hz
   rw [List.take_length]
   (repeat' (first|refine Wz ?_|refine Wb fun hb=>?_|apply Wd <;>intro hh))
   all_goals (try exact oMw)
   refine B9 4 Z Z lOw ?_
   exact rXw hM
end
section
open Go.RowKit Go.En Go.Dl Go.Tp
theorem D9q {α:Type}{p:α→Bool}:∀ {l:List α} {j:Nat} {x:α} (k:Int),l[j]?=some x→p x=true→ixF p l k≤k+j
 | [],j,x,k,h,_=>by simp at h
 | y::r,0,x,k,h,hp=>by
  cases h
  rw [ixF,if_pos hp];simp
 | y :: r, j + 1, x, k, h, hp => by
  rw [ixF]
  split
  ·omega
  ·have:=D9q (k+1) (show r[j]?=some x by simpa using h) hp
   omega
structure DocM (d:Doc):Prop where
 til:∀ n∈d.notes,J6 (tAt d.tiers n.tier).kind=true→n.til≤d.rc.len
 rol:RolF d.tiers
theorem D7s {d : Doc}(hE : docE d = 0) : DocM d := by
 have F:=B5u hE
 unfold docE at hE
 obtain⟨ht,h⟩:=orE0 hE
 obtain⟨_,h⟩:=if0 (by decide) h
 obtain⟨_,h⟩:=if0 (by decide) h
 obtain⟨hn,_⟩:=orE0 h
 unfold A8e at ht
 obtain⟨_,ht⟩:=if0 (by decide) ht
 have hT:∀ i t,d.tiers[i]?=some t→A2i d.tiers i t=0:=fun i t hx=>by
  have:=A9h ht i t hx
  rwa [Nat.zero_add] at this
 have hP:∀ n∈d.notes,Z3 d n=0:=fun n hnm=>by
  obtain⟨i,_,h1⟩:=Q6 hn hnm
  unfold A8v at h1
  obtain⟨_,h1⟩:=if0 (by decide) h1
  obtain⟨_,h1⟩:=if0 (by decide) h1
  obtain⟨_,h1⟩:=if0 (by decide) h1
  exact(orE0 h1).2
 refine⟨?_,⟨fun h3=>?_⟩⟩
 ·have key:∀(m:Nat) (n:Note),n∈d.notes→n.tier.toNat=m→J6 (tAt d.tiers n.tier).kind=true→n.til≤d.rc.len:=by
   intro m
   induction m using Nat.strongRecOn with
   | ind m ih =>
    intro n hn hm hk
    have h1:=hP n hn
    unfold Z3 at h1
    obtain⟨_,h1⟩:=if0 (by decide) h1
    obtain⟨_,h1⟩:=if0 (by decide) h1
    obtain⟨h2,h1⟩:=if0 (by decide) h1
    obtain⟨h3,_⟩:=if0 (by decide) h1
    by_cases hk0:(tAt d.tiers n.tier).kind=0
    ·have:¬ d.rc.len<n.til:=fun e=>h2 ⟨hk0,e⟩
     omega
    ·obtain⟨x,hx,hxt⟩:=F.over n hn hk0
     have hxm:=H3 hx
     have htr:=F.tr n hn
     obtain⟨i,t,e1,e2,e3⟩:=C0q htr.1 htr.2
     have htp:=F.tiers i t e2 (by rw [← e3];exact hk0)
     have h4:=hT i t e2
     unfold A2i at h4
     obtain⟨_,h4⟩:=if0 (by decide) h4
     obtain⟨_,h4⟩:=if0 (by decide) h4
     obtain⟨_,h4⟩:=if0 (by decide) h4
     obtain⟨_,h4⟩:=if0 (by decide) h4
     obtain⟨_,h4⟩:=if0 (by decide) h4
     obtain⟨_,h4⟩:=if0 (by decide) h4
     obtain⟨h5,_⟩:=if0 (by decide) h4
     rw [e3] at hk hk0 hxt
     have h6:J6 (tAt d.tiers x.tier).kind=true:=by
      rw [hxt,← Bool.not_eq_false]
      exact fun e=>h5 ⟨hk0,hk,e⟩
     have h7:=ih x.tier.toNat (by omega) x hxm.1 rfl h6
     have h8:getD d n.parent=x:=by unfold getD;rw [hx];rfl
     rw [h8,e3] at h3
     have h9:¬ x.til<n.til:=fun e=>h3 ⟨hk,hk0,.inr e⟩
     omega
  exact fun n hn hk=>key _ n hn rfl hk
 ·rcases Q5 (fun x:Tier=>decide ((3:Int)≠0)&&decide (x.role=3)) d.tiers 0 with⟨h1,_⟩|⟨i,t,h1,h2,h4⟩
  ·have:H9 d.tiers 3 = -1:=h1
   omega
  ·rw [Nat.zero_add] at h1
   have h1':H9 d.tiers 3=(i:Int):=h1
   have hr:=List.find?_some h4
   have hr3:t.role=3:=by simpa using hr
   have h5:=hT i t h2
   unfold A2i at h5
   obtain⟨_,h5⟩:=if0 (by decide) h5
   obtain⟨_,h5⟩:=if0 (by decide) h5
   obtain⟨_,h5⟩:=if0 (by decide) h5
   obtain⟨_,h5⟩:=if0 (by decide) h5
   obtain⟨_,h5⟩:=if0 (by decide) h5
   obtain⟨h6,h5⟩:=if0 (by decide) h5
   obtain⟨_,h5⟩:=if0 (by decide) h5
   obtain⟨h7,h5⟩:=if0 (by decide) h5
   obtain⟨h8,_⟩:=if0 (by decide) h5
   rw [hr3] at h7 h8
   have k3:t.kind=3:=Decidable.not_not.mp fun e=>h7 ⟨by decide,e⟩
   have hp:0≤t.parent∧t.parent<(i:Int):=by
    have:¬ (t.parent<0∨(i:Int)≤t.parent):=fun e=>h6 (.inr ⟨by omega,e⟩)
    omega
   have hq:(tAt d.tiers t.parent).role=2:=Decidable.not_not.mp fun e=>h8 ⟨by decide,.inr e⟩
   have hil:=(List.getElem?_eq_some_iff.1 h2).1
   obtain⟨j,q,e1,e2,e3⟩:=C0q (l:=d.tiers) hp.1 (by omega)
   rw [e3] at hq
   have:=D9q (p:=fun x:Tier=>decide ((2:Int)≠0)&&decide (x.role=2)) 0 e2 (by simp [hq])
   have h9:H9 d.tiers 2≤0+(j:Int):=this
   omega
structure MorF (p:Prj):Prop where
 len:∀ d∈p.docs,1≤d.rc.len∧d.rc.len≤86400000
 docs:∀ d∈p.docs,DocM d
 lvl:∀ x∈p.rgts.rules,0≤x.prot.level∧x.prot.level≤3
 lgw:LgW p.lang
 nl:p.lang.ortho.letters.length≤1000000
theorem B2x {s:Tx}(h:H2 s=true):s.length≤32:=by
 unfold H2 at h
 simp only [Bool.and_eq_true] at h
 have:=of_decide_eq_true h.2.2.2
 omega
theorem G3n {p:Prj}(h:prjL p=true):MorF p:=by
 unfold prjL at h
 split at h
 ·cases h
 rename_i hsz
 have h1:prjE p=0:=Decidable.not_not.mp fun e=>hsz (.inl e)
 have h2:A4h p.lang=true:=by rw [← Bool.not_eq_false];exact fun e=>hsz (.inr (.inl e))
 have h3:A0o p.rgts (p.docs.map (·.rc))=true:=by rw [← Bool.not_eq_false];exact fun e=>hsz (.inr (.inr (.inr (.inr (.inr e)))))
 unfold prjE at h1
 obtain⟨_,h1⟩:=orE0 h1
 obtain⟨_,h1⟩:=if0 (by decide) h1
 obtain⟨hd,_⟩:=orE0 h1
 have hD:∀ d∈p.docs,docE d=0:=fun d hdm=>by
  obtain⟨i,_,h4⟩:=Q6 hd hdm
  by_cases e0:docE d=0
  ·exact e0
  ·rw [if_pos e0] at h4;exact absurd h4 e0
 unfold A0o at h3
 split at h3
 ·cases h3
 have hE:=of_decide_eq_true h3
 unfold B1u at hE
 obtain⟨_,hE⟩:=orE0 hE
 obtain⟨hrc,hE⟩:=orE0 hE
 obtain⟨_,hE⟩:=orE0 hE
 obtain⟨_,hE⟩:=orE0 hE
 obtain⟨_,hrl⟩:=if0 (by decide) hE
 unfold C3a at hrc
 obtain⟨_,hrc⟩:=if0 (by decide) hrc
 unfold A4h at h2
 split at h2
 ·cases h2
 rename_i hsl
 rw [Bool.and_eq_true] at h2
 have hL:=of_decide_eq_true h2.2
 unfold A9d at hL
 obtain⟨hp,hL⟩:=orE0 hL
 obtain⟨ho,_⟩:=orE0 hL
 unfold C3g at hp
 obtain⟨hp60,hp⟩:=if0 (by decide) hp
 unfold B7u at ho
 obtain⟨_,ho⟩:=if0 (by decide) ho
 obtain⟨hu100,ho⟩:=if0 (by decide) ho
 obtain⟨hu,ho⟩:=orE0 ho
 obtain⟨hl100,_⟩:=if0 (by decide) ho
 exact {
  len := fun d hdm => by
   obtain⟨i,_,h4⟩:=Q6 hrc (List.mem_map_of_mem (f:=(·.rc)) hdm)
   by_cases e0:recE p.rgts.people d.rc=0
   ·unfold recE at e0
    obtain⟨_,e0⟩:=if0 (by decide) e0
    obtain⟨_,e0⟩:=if0 (by decide) e0
    obtain⟨e1,_⟩:=if0 (by decide) e0
    omega
   ·rw [if_pos e0] at h4;exact absurd h4 e0
  docs:=fun d hdm=>D7s (hD d hdm)
  lvl:=fun x hx=>by
   obtain⟨i,_,h4⟩:=Q6 hrl hx
   unfold rulE at h4
   obtain⟨_,h4⟩:=if0 (by decide) h4
   obtain⟨_,h4⟩:=if0 (by decide) h4
   obtain⟨_,h4⟩:=if0 (by decide) h4
   unfold C3d at h4
   obtain⟨h5,_⟩:=if0 (by decide) h4
   omega
  lgw := {
   units:=fun u hum=>by
    obtain⟨i,_,h4⟩:=Q6 hu hum
    unfold A7z at h4
    obtain⟨h5,h4⟩:=if0 (by decide) h4
    obtain⟨_,h4⟩:=if0 (by decide) h4
    obtain⟨h6,_⟩:=if0 (by decide) h4
    rw [Bool.not_eq_false] at h5
    unfold A9e at h5
    rw [Bool.and_eq_true] at h5
    have:=B2x h5.2
    exact⟨by omega,by omega⟩
   nu:=by omega
   names:=fun q hq=>by
    obtain⟨i,_,h4⟩:=Q6 hp hq
    obtain⟨h5,_⟩:=if0 (by decide) h4
    rw [Bool.not_eq_false] at h5
    have:=B2x h5
    omega
   ns:=by omega }
  nl:=by omega }
theorem B6j {d : Doc} : ∀ (k : Nat) (id : Int) (s : Spn), whrF d k id = some s → ∃ n ∈ d.notes, alB d.tiers n.tier = true ∧ s = spOf n
 | 0,_,_,h=>by rw [whrF] at h;cases h
 | k + 1, id, s, h => by
  rw [whrF] at h
  cases hg:getN d.notes id with
  | none=>rw [hg] at h;cases h
  | some n=>
   rw [hg] at h
   dsimp only at h
   split at h
   ·rename_i ha
    cases h
    exact⟨n,(H3 hg).1,ha,rfl⟩
   ·exact B6j k n.parent s h
theorem D6d {p : Prj}{v : Vwr}(M : MorF p){r : Rf}(h : K7 p v r = true) : ∃ d s, docF p.docs r.rcd = some d ∧ B4h p.docs r = some s ∧ mayA p.rgts d.rc s v = 0 ∧ B8d p.rgts d.rc s v = 0 ∧ 0 ≤ s.frm ∧ s.til ≤ d.rc.len := by
 unfold K7 at h
 cases hd:docF p.docs r.rcd with
 | none=>rw [hd] at h;cases h
 | some d=>
  rw [hd] at h
  dsimp only at h
  have hdm:=B9g hd
  have hbase:S4 p.rgts d.rc v=0:=Decidable.not_not.mp fun e=>by
   have:D4 p.rgts d.rc v=[]:=by unfold D4;rw [if_pos e]
   rw [this,B1p] at h
   cases h
  have h0:=h
  unfold Q7 at h
  cases hw:A0l d r.note with
  | none=>rw [hw] at h;cases h
  | some s=>
   rw [hw] at h
   dsimp only at h
   have hr:A5 s=true:=by unfold covP at h;rw [Bool.and_eq_true] at h;exact h.1
   have hrs:=(G9 s).1 hr
   have hl:s.til≤d.rc.len:=by
    obtain⟨n,hn,ha,rfl⟩:=B6j _ _ _ hw
    unfold alB at ha
    rw [Bool.and_eq_true,Bool.and_eq_true] at ha
    exact(M.docs d hdm).til n hn ha.2.2
   have hm:mayA p.rgts d.rc s v=0:=by
    unfold mayA
    rw [if_neg (fun e=>e hbase),if_neg (by rintro(e|e);rw [hr] at e;cases e;omega),if_neg (by rw [h];decide)]
   exact⟨d,s,rfl,by unfold B4h;rw [hd];exact hw,hm,C6j M.lvl (M.len d hdm) hm,hrs.1,hl⟩
end
end Go.Proofs.YtojadfppncgphaaGreatDoor