/- Own text. -/
import Derived.Test.YtojadfppncgphaaGreatDoorQY9
import Derived.Test.YtojadfppncgphaaGreatDoorQYq
set_option linter.all false
set_option maxHeartbeats 16000000
set_option maxRecDepth 8000
namespace Go.Proofs.YtojadfppncgphaaGreatDoor
section
open Go.RowKit Go.En Go.Dl Go.Tp
attribute [local irreducible] X XL XW XG XK Val LS Fp Fo Calls bodyPost Code.wp
theorem q13S {p:Prop}(h:p:=by first|(simp [one1, *,dB,dI,dS,List.anyB,List.allB];done)|(simp_all [one1,dB,dI,dS,List.anyB,List.allB];done)|(simp_all [one1,dB,dI,dS,List.anyB,List.allB];omega)):p:=h
theorem c304 (l:List Sns)(s:Tx):Fp Tryz.prog 304 [.s 2 (l.map snC),dS s] ((fun _ l=>dB (l.anyB fun x=>decide (x.gloss=s))) 0 l):=by
 refine fXw Tryz.func304 Tryz.ntmps304 fun c hM=>?_
 (repeat' (first|refine Wz ?_|fail))
 refine X_lp (ι:=Nat) 524272 [] (fun i=>[(5,.d (dI i))]) (fun _=>[]) (fun i=>i≤l.length∧(fun _ l=>dB (l.anyB fun x=>decide (x.gloss=s))) 0 l=(fun _ l=>dB (l.anyB fun x=>decide (x.gloss=s))) i (l.drop i)) (fun i=>l.length-i) (0) ?_ ?_
 ·exact⟨zLw,rfl⟩
 rintro i ⟨hi,hq⟩
 by_cases hlt:i<l.length
 ·obtain⟨n,hn⟩:=gex hlt
  (repeat' (first|refine iDw (gm hn) ?_|refine Wz ?_|refine Wb fun hb=>?_|apply Wd <;>intro hh))
  all_goals (try exact oMw)
  all_goals first
   | (rw [hq,drp hn];refine rEw hM ?_;exact q13S)
   | exact A0 (i+1) ⟨oEw,by rw [hq,drp hn];exact q13S⟩ oEw
 ·(repeat' (first|refine Wz ?_|refine Wb fun hb=>?_|apply Wd <;>intro hh))
  all_goals (try exact oMw)
  all_goals rw [hq,List.drop_eq_nil_of_le oEw]
  all_goals (refine rEw hM ?_;exact q13S)
theorem n304 (l:List Sns)(s:Tx):Fp Tryz.prog 304 [.s 2 (l.map snC),dS s] (dB (l.anyB fun x=>decide (x.gloss=s))):=c304 l s
theorem c269 (l:List Sns)(s:Sns)(h1:s.gloss.length≤1048576)(h2:s.dfn.length≤1048576):Fp Tryz.prog 269 [.s 2 (l.map snC),.g (snC s)] (dI (A8j l s)):=by
 unfold A8j
 obtain⟨b,hb⟩:∃ b,C1f s.gloss=b:=⟨_,rfl⟩;have cb:=n303 s.gloss h1;rw [hb] at cb;obtain⟨e,he⟩:∃ b,(l.anyB fun x=>decide (x.gloss=s.gloss))=b:=⟨_,rfl⟩;have ce:=n304 l s.gloss;rw [he] at ce
 refine fXw Tryz.func269 Tryz.ntmps269 fun c hM=>?_
 (repeat' (first|refine cDw G7m cb ?_|refine cDw G7l ce ?_|refine cDw D2o (c166 s.dfn h2) ?_|refine Wz ?_|refine Wd (fun hh=>?_) fun hh=>?_|(refine Wc (fun hg=>?_) (fun hg=>?_) <;>(first|subst hg|(simp at hg;subst hg)|skip))))
 all_goals (try exact oMw)
 all_goals (refine rEw hM ?_;exact q13S)
theorem q14S {p:Prop}(h:p:=by first|(simp [one1, *,dB,dI,dS,List.anyB,List.allB,fstE];done)|(simp_all [one1,dB,dI,dS,List.anyB,List.allB,fstE];done)|(simp_all [one1,dB,dI,dS,List.anyB,List.allB,fstE];omega)):p:=h
theorem c227 (e:Entr)(ht:∀ s∈e.senses,s.gloss.length≤1048576∧s.dfn.length≤1048576):Fp Tryz.prog 227 [.g (entC e)] (dI (A7d e)):=by
 unfold A7d
 obtain⟨b,hb⟩:∃ b,idB e.main=b:=⟨_,rfl⟩;have cb:=c79 e.main;rw [hb] at cb
 refine fXw Tryz.func227 Tryz.ntmps227 fun c hM=>?_
 by_cases hz:e.senses.length=0
 all_goals (
  (repeat' (first|refine cDw en79 cb ?_|refine Wz ?_|refine Wb fun hb=>?_|refine Wd (fun hh=>?_) fun hh=>?_|(refine Wc (fun hg=>?_) (fun hg=>?_) <;>(first|subst hg|(simp at hg;subst hg)|skip))))
  all_goals (try exact oMw)
  all_goals (try (all_goals (refine rEw hM ?_;exact q13S);done)))
 all_goals (
  refine X_lp (ι:=Nat) 4503595332403228 [] (fun i=>[(3,.d (dI i))]) (fun _=>[]) (fun i=>i≤(e.senses).length∧(fun i q=>fstE (fun i s=>A8j (e.senses.take i) s) i q) 0 (e.senses)=(fun i q=>fstE (fun i s=>A8j (e.senses.take i) s) i q) i ((e.senses).drop i)) (fun i=>(e.senses).length-i) (0) ?_ ?_
  ·exact⟨zLw,rfl⟩
  rintro i ⟨hi,hq⟩
  by_cases hlt:i<(e.senses).length
  rotate_left
  ·have hz:i=(e.senses).length:=oEw
   subst hz
   rw [List.drop_eq_nil_of_le (Nat.le_refl _)] at hq
   try dsimp only at hq
   ((repeat' (first|refine Wz ?_|refine Wb fun hb=>?_|apply Wd <;>intro hh)) <;> first|(exfalso;omega)|(all_goals (refine rEw hM ?_;(try rw [hq]);exact q14S)))
  obtain⟨n,hn⟩:=gex hlt
  obtain⟨pv,hp⟩:=gex (l:=e.senses) (i:=i-1) oEw
  have hpr:=B6 hp
  have hmem:=List.mem_of_getElem? hn
  rw [drp hn] at hq
  try dsimp only at hq
  have cs:=c269 (e.senses.take i) n (ht n hmem).1 (ht n hmem).2;rw [List.map_take] at cs
  all_goals (repeat' (first|refine iDw (gm hn) ?_|refine cDw G8b cs ?_|refine G_x (M2 (b:=i) Z Z Z Z (by simp;omega)) Z Z ?_|refine Wz ?_|refine Wb fun hb=>?_|apply Wd <;>intro hh))
  all_goals (try exact oMw)
  all_goals first
   | exact A0 (i+1) ⟨oEw,by(try dsimp only);rw [hq];exact q14S⟩ oEw
   | (refine rEw hM ?_;(try rw [hq]);exact q14S))
theorem c228 (e:Entr):Fp Tryz.prog 228 [.g (entC e)] (dI (B5k e)):=by
 unfold B5k
 refine fXw Tryz.func228 Tryz.ntmps228 fun c hM=>?_
 (repeat' (first|refine Wz ?_|refine Wb fun hb=>?_|apply Wd <;>intro hh))
 all_goals (try exact oMw)
 all_goals (try (all_goals (refine rEw hM ?_;exact q13S);done))
 refine X_lp (ι:=Nat) 75557863725914323418652 [] (fun i=>[(3,.d (dI i))]) (fun _=>[]) (fun i=>i≤(e.links).length∧(fun i q=>fstE (fun i x=>if x.kind<0∨5<x.kind then 14 else if idB x.to=false then 2 else if x.to=e.id then 17 else if prvB (fun h=>decide (x.kind<h.kind)||(decide (x.kind=h.kind)&&decide (x.to≤h.to))) e.links i then 10 else 0) i q) 0 (e.links)=(fun i q=>fstE (fun i x=>if x.kind<0∨5<x.kind then 14 else if idB x.to=false then 2 else if x.to=e.id then 17 else if prvB (fun h=>decide (x.kind<h.kind)||(decide (x.kind=h.kind)&&decide (x.to≤h.to))) e.links i then 10 else 0) i q) i ((e.links).drop i)) (fun i=>(e.links).length-i) (0) ?_ ?_
 ·exact⟨zLw,rfl⟩
 rintro i ⟨hi,hq⟩
 by_cases hlt:i<(e.links).length
 rotate_left
 ·have hz:i=(e.links).length:=oEw
  subst hz
  rw [List.drop_eq_nil_of_le (Nat.le_refl _)] at hq
  try dsimp only at hq
  ((repeat' (first|refine Wz ?_|refine Wb fun hb=>?_|apply Wd <;>intro hh)) <;> first|(exfalso;omega)|(all_goals (refine rEw hM ?_;(try rw [hq]);exact q14S)))
 obtain⟨n,hn⟩:=gex hlt
 obtain⟨pv,hp⟩:=gex (l:=e.links) (i:=i-1) oEw
 have hpr:=B6 hp
 have hmem:=List.mem_of_getElem? hn
 rw [drp hn] at hq
 try dsimp only at hq
 obtain⟨b,hb⟩:∃ b,idB n.to=b:=⟨_,rfl⟩;have cb:=c79 n.to;rw [hb] at cb
 all_goals (repeat' (first|refine iDw (gm hn) ?_|refine iDw (gm hp) ?_|refine cDw en79 cb ?_|refine Wz ?_|refine Wb fun hb=>?_|refine Wd (fun hh=>?_) fun hh=>?_|(refine Wc (fun hg=>?_) (fun hg=>?_) <;>(first|subst hg|(simp at hg;subst hg)|skip))))
 all_goals (try exact oMw)
 all_goals first
  | exact A0 (i+1) ⟨oEw,by(try dsimp only);rw [hq];exact q14S⟩ oEw
  | (refine rEw hM ?_;(try rw [hq]);exact q14S)
theorem c233 (r:Rf):Fp Tryz.prog 233 [.g (rfC r)] (dB (refB r)):=by
 unfold refB
 obtain⟨b,hb⟩:∃ b,idB r.rcd=b:=⟨_,rfl⟩;have cb:=c79 r.rcd;rw [hb] at cb;obtain⟨e,he⟩:∃ b,idB r.note=b:=⟨_,rfl⟩;have ce:=c79 r.note;rw [he] at ce
 rw [hb,he]
 refine fXw Tryz.func233 Tryz.ntmps233 fun c hM=>?_
 (repeat' (first|refine G_x (A3 Z Z Z en79 (cb) (.eq rfl)) Z Z ?_|refine G_x (A3 Z Z Z en79 (ce) (.eq rfl)) Z Z ?_|refine Wz ?_|(refine Wg (fun hg=>?_) (fun hg=>?_) <;>(first|subst hg|(simp at hg;subst hg)))))
 all_goals (refine rEw hM ?_;exact q13S)
theorem c234 (a b:Rf):Fp Tryz.prog 234 [.g (rfC a),.g (rfC b)] (dB (A6g a b)):=by
 refine fXw Tryz.func234 Tryz.ntmps234 fun c hM=>?_
 (repeat' (first|refine Wz ?_|apply Wd <;>intro hh))
 all_goals (refine rEw hM ?_;(first|(simp [one1, *,dB,dI,dS,List.anyB,List.allB,A6g];done)|(simp_all [one1,dB,dI,dS,List.anyB,List.allB,A6g];done)|(simp_all [one1,dB,dI,dS,List.anyB,List.allB,A6g];omega)))
theorem c175 (l:List Rf)(m:Int):Fp Tryz.prog 175 [refs l,dI m] (dI (B7n l m)):=by
 unfold B7n
 refine fXw Tryz.func175 Tryz.ntmps175 fun c hM=>?_
 (repeat' (first|refine Wz ?_|refine Wb fun hb=>?_|apply Wd <;>intro hh))
 all_goals (try exact oMw)
 all_goals (try (all_goals (refine rEw hM ?_;exact q13S);done))
 refine X_lp (ι:=Nat) 137438952496 [] (fun i=>[(5,.d (dI i))]) (fun _=>[]) (fun i=>i≤(l).length∧(fun i q=>fstE (fun i r=>if refB r=false then 2 else if prvB (fun h=>!A6g h r) l i then 10 else 0) i q) 0 (l)=(fun i q=>fstE (fun i r=>if refB r=false then 2 else if prvB (fun h=>!A6g h r) l i then 10 else 0) i q) i ((l).drop i)) (fun i=>(l).length-i) (0) ?_ ?_
 ·exact⟨zLw,rfl⟩
 rintro i ⟨hi,hq⟩
 by_cases hlt:i<(l).length
 rotate_left
 ·have hz:i=(l).length:=oEw
  subst hz
  rw [List.drop_eq_nil_of_le (Nat.le_refl _)] at hq
  try dsimp only at hq
  ((repeat' (first|refine Wz ?_|refine Wb fun hb=>?_|apply Wd <;>intro hh)) <;> first|(exfalso;omega)|(all_goals (refine rEw hM ?_;(try rw [hq]);exact q14S)))
 obtain⟨n,hn⟩:=gex hlt
 obtain⟨pv,hp⟩:=gex (l:=l) (i:=i-1) oEw
 have hpr:=B6 hp
 have hmem:=List.mem_of_getElem? hn
 rw [drp hn] at hq
 try dsimp only at hq
 obtain⟨b,hb⟩:∃ b,refB n=b:=⟨_,rfl⟩;have cb:=c233 n;rw [hb] at cb;obtain⟨e,he⟩:∃ b,A6g pv n=b:=⟨_,rfl⟩;have ce:=c234 pv n;rw [he] at ce
 all_goals (repeat' (first|refine iDw (gm hn) ?_|refine iDw (gm hp) ?_|refine cDw G8s cb ?_|refine cDw G8r ce ?_|refine Wz ?_|refine Wb fun hb=>?_|refine Wd (fun hh=>?_) fun hh=>?_|(refine Wc (fun hg=>?_) (fun hg=>?_) <;>(first|subst hg|(simp at hg;subst hg)|skip))))
 all_goals (try exact oMw)
 all_goals first
  | exact A0 (i+1) ⟨oEw,by(try dsimp only);rw [hq];exact q14S⟩ oEw
  | (refine rEw hM ?_;(try rw [hq]);exact q14S)
theorem c226 (l : List Phn)(e : Entr) : Fp Tryz.prog 226 [phD l, .g (entC e)] (dI (B4e l.length e)) := by
 unfold B4e orE
 obtain⟨b,hb⟩:∃ b,idB e.id=b:=⟨_,rfl⟩;have cb:=c79 e.id;rw [hb] at cb
 refine fXw Tryz.func226 Tryz.ntmps226 fun c hM=>?_
 (repeat' (first|refine cDw en79 cb ?_|refine cDw G0l (c267 l e.form) ?_|refine Wz ?_|refine Wb fun hb=>?_|refine Wd (fun hh=>?_) fun hh=>?_|(refine Wc (fun hg=>?_) (fun hg=>?_) <;>(first|subst hg|(simp at hg;subst hg)|skip))))
 all_goals (try exact oMw)
 all_goals (try (all_goals (refine rEw hM ?_;exact q13S);done))
 all_goals (
  rw [if_neg (show ¬ (idB e.id=false) by rw [show idB e.id=true by assumption];simp),if_neg (by assumption),if_neg oEw,if_neg oEw]
  refine X_lp (ι:=Nat) 9444732965734995460560 [] (fun i=>[(6,.d (dI i))]) (fun _=>[]) (fun i=>i≤(e.alts).length∧(fun i q=>fstE (fun i a=>if X2 l.length a≠0 then X2 l.length a else if decide (a=e.form) then 8 else if ((e.alts.take i).anyB fun x=>decide (a=x)) then 8 else 0) i q) 0 (e.alts)=(fun i q=>fstE (fun i a=>if X2 l.length a≠0 then X2 l.length a else if decide (a=e.form) then 8 else if ((e.alts.take i).anyB fun x=>decide (a=x)) then 8 else 0) i q) i ((e.alts).drop i)) (fun i=>(e.alts).length-i) (0) ?_ ?_
  ·exact⟨zLw,rfl⟩
  rintro i ⟨hi,hq⟩
  by_cases hlt:i<(e.alts).length
  rotate_left
  ·have hz:i=(e.alts).length:=oEw
   subst hz
   rw [List.drop_eq_nil_of_le (Nat.le_refl _)] at hq
   try dsimp only at hq
   ((repeat' (first|refine Wz ?_|refine Wb fun hb=>?_|apply Wd <;>intro hh)) <;> first|(exfalso;omega)|(all_goals (refine rEw hM ?_;(try rw [hq]);exact q14S)))
  obtain⟨n,hn⟩:=gex hlt
  obtain⟨pv,hp⟩:=gex (l:=e.alts) (i:=i-1) oEw
  have hpr:=B6 hp
  have hmem:=List.mem_of_getElem? hn
  rw [drp hn] at hq
  try dsimp only at hq
  obtain⟨f,hf⟩:∃ b,decide (n=e.form)=b:=⟨_,rfl⟩;have cf:=c268 n e.form;rw [hf] at cf
  (repeat' (first|refine iDw (gm hn) ?_|refine cDw G0l (c267 l n) ?_|refine G_x (A3 Z Z Z G0k (cf) (.eq rfl)) Z Z ?_|refine Wz ?_|refine Wb fun hb=>?_|refine Wd (fun hh=>?_) fun hh=>?_|(refine Wc (fun hg=>?_) (fun hg=>?_) <;>(first|subst hg|(simp at hg;subst hg)|skip))))
  all_goals (try exact oMw)
  all_goals (try (all_goals (refine rEw hM ?_;(try rw [hq]);exact q14S);done))
  all_goals (
   refine X_lp (ι:=Nat) 9444588850551214571792 [] (fun k=>[(8,.d (dI k))]) (fun _=>[]) (fun k=>k≤i∧(e.alts.take i).anyB (fun x=>decide (n=x))=((e.alts.take i).drop k).anyB (fun x=>decide (n=x))) (fun k=>i-k) (0) ?_ ?_
   ·exact⟨zLw,rfl⟩
   rintro k ⟨hk,hqk⟩
   by_cases hltk:k<i
   ·obtain⟨m,hm⟩:=gex (l:=e.alts) (i:=k) oEw
    have hmt:(e.alts.take i)[k]?=some m:=by rw [List.getElem?_take_of_lt hltk];exact hm
    rw [drp hmt] at hqk
    obtain⟨g,hg⟩:∃ b,decide (n=m)=b:=⟨_,rfl⟩;have cg:=c268 n m;rw [hg] at cg
    (repeat' (first|refine iDw (gm hm) ?_|refine iDw (gm hn) ?_|refine G_x (A3 Z Z Z G0k (cg) (.eq rfl)) Z Z ?_|refine Wz ?_|refine Wd (fun hh=>?_) fun hh=>?_|(refine Wc (fun hg=>?_) (fun hg=>?_) <;>(first|subst hg|(simp at hg;subst hg)|skip))))
    all_goals (try exact oMw)
    all_goals first
     | refine A0 (k+1) ?_ oEw (hf:=A6 Z (B8 _))
     | (refine rEw hM ?_;rw [hq];(first|(simp [*,one1,dI,fstE,List.anyB];done)|(simp_all [one1,dI,fstE,List.anyB];done)))
    exact⟨oEw,by rw [hqk,List.anyB,hg,Bool.false_or]⟩
   ·have hzk:i=k:=oEw
    subst hzk
    rw [List.drop_eq_nil_of_le (by rw [List.length_take];omega)] at hqk
    simp only [List.anyB] at hqk
    (repeat' (first|refine Wz ?_|apply Wd <;>intro hh))
    all_goals (try exact oMw)
    all_goals first
     | exact A0 (i+1) ⟨oEw,by(try dsimp only);rw [hq];exact q14S⟩ oEw
     | (refine rEw hM ?_;(try rw [hq]);exact q14S)))
theorem c156 (l:List Phn)(e:Entr)(ht:∀ s∈e.senses,s.gloss.length≤1048576∧s.dfn.length≤1048576):Fp Tryz.prog 156 [phD l,.g (entC e)] (dI (entE l.length e)):=by
 unfold entE orE
 refine fXw Tryz.func156 Tryz.ntmps156 fun c hM=>?_
 (repeat' (first|refine cDw G8w (c226 l e) ?_|refine cDw G8v (c227 e ht) ?_|refine cDw G8u (c228 e) ?_|refine cDw G1i (c175 e.refs 12) ?_|refine Wz ?_|apply Wd <;>intro hh))
 all_goals (refine rEw hM ?_;exact q13S)
theorem c157 (l:List Entr)(id:Int):Fp Tryz.prog 157 [lexD l,dI id] (dB (hasE l id)):=by
 unfold hasE getE
 refine fXw Tryz.func157 Tryz.ntmps157 fun c hM=>?_
 have c1:=c174 l id
 obtain⟨g,hg⟩:∃ g,l.find? (fun x=>decide (x.id=id))=g:=⟨_,rfl⟩
 rw [hg] at c1 ⊢
 cases g <;>((repeat' (first|refine G_x (A3 Z Z Z G1j (c1)) Z Z ?_|refine Wz ?_|fail));exact rXw hM)
theorem c73 (p:List Phn)(l:List Entr)(ht:∀ e∈l,∀ s∈e.senses,s.gloss.length≤1048576∧s.dfn.length≤1048576):Fp Tryz.prog 73 [phD p,lexD l] (dI (lexE p.length l)):=by
 unfold lexE orE
 refine fXw Tryz.func73 Tryz.ntmps73 fun c hM=>?_
 (repeat' (first|refine Wz ?_|refine Wb fun hb=>?_|apply Wd <;>intro hh))
 all_goals (try exact oMw)
 all_goals (try (all_goals (refine rEw hM ?_;exact q13S);done))
 refine X_lp (ι:=Nat) 8796093005936 [] (fun i=>[(14,.d (dI i))]) (fun _=>[]) (fun i=>i≤(l).length∧(fun i q=>fstE (fun i e=>if entE p.length e≠0 then entE p.length e else if prvB (fun h=>decide (e.id≤h.id)) l i then 10 else 0) i q) 0 (l)=(fun i q=>fstE (fun i e=>if entE p.length e≠0 then entE p.length e else if prvB (fun h=>decide (e.id≤h.id)) l i then 10 else 0) i q) i ((l).drop i)) (fun i=>(l).length-i) (0) ?_ ?_
 ·exact⟨zLw,rfl⟩
 rintro i ⟨hi,hq⟩
 by_cases hlt:i<(l).length
 rotate_left
 ·have hz:i=(l).length:=oEw
  subst hz
  rw [List.drop_eq_nil_of_le (Nat.le_refl _)] at hq
  try dsimp only at hq
  have h1:=hq
  clear hq
  rw [fstE] at h1
  rw [h1]
  (repeat' (first|refine Wz ?_|refine Wb fun hb=>?_|apply Wd <;>intro hh))
  all_goals (try exact oMw)
  refine X_lp (ι:=Nat) 154742504910637349990302096 [] (fun i=>[(45,.d (dI i))]) (fun _=>[]) (fun i=>i≤(l).length∧(fun i q=>fstE (fun _ e=>if (e.main≠0∧hasE l e.main=false) then 9 else if (e.links.allB fun x=>hasE l x.to)=false then 9 else 0) i q) 0 (l)=(fun i q=>fstE (fun _ e=>if (e.main≠0∧hasE l e.main=false) then 9 else if (e.links.allB fun x=>hasE l x.to)=false then 9 else 0) i q) i ((l).drop i)) (fun i=>(l).length-i) (0) ?_ ?_
  ·exact⟨zLw,rfl⟩
  rintro i ⟨hi,hq⟩
  by_cases hlt:i<(l).length
  rotate_left
  ·have hz:i=(l).length:=oEw
   subst hz
   rw [List.drop_eq_nil_of_le (Nat.le_refl _)] at hq
   try dsimp only at hq
   ((repeat' (first|refine Wz ?_|apply Wd <;>intro hh)) <;> first|(exfalso;omega)|(all_goals (refine rEw hM ?_;(try rw [hq]);exact q14S)))
  obtain⟨n,hn⟩:=gex hlt
  obtain⟨pv,hp⟩:=gex (l:=l) (i:=i-1) oEw
  have hpr:=B6 hp
  have hmem:=List.mem_of_getElem? hn
  rw [drp hn] at hq
  try dsimp only at hq
  obtain⟨b,hb⟩:∃ b,hasE l n.main=b:=⟨_,rfl⟩;have cb:=c157 l n.main;rw [hb] at cb
  (repeat' (first|refine iDw (gm hn) ?_|refine cDw G1n cb ?_|refine Wz ?_|refine Wb fun hb=>?_|refine Wd (fun hh=>?_) fun hh=>?_|(refine Wc (fun hg=>?_) (fun hg=>?_) <;>(first|subst hg|(simp at hg;subst hg)|skip))))
  all_goals (try exact oMw)
  all_goals (try (all_goals (refine rEw hM ?_;(try rw [hq]);exact q14S);done))
  all_goals (
   rw [fstE] at hq
   refine X_lp (ι:=Nat) 77370071863715549769892112 [] (fun i=>[(70,.d (dI i))]) (fun _=>[]) (fun i=>i≤(n.links).length∧(fun _ q=>q.allB fun x=>hasE l x.to) 0 (n.links)=(fun _ q=>q.allB fun x=>hasE l x.to) i ((n.links).drop i)) (fun i=>(n.links).length-i) (0) ?_ ?_
   ·exact⟨zLw,rfl⟩
   rintro i2 ⟨hi2,hq2⟩
   by_cases hlt2:i2<(n.links).length
   rotate_left
   ·have hz2:i2=(n.links).length:=oEw
    subst hz2
    rw [List.drop_eq_nil_of_le (Nat.le_refl _)] at hq2
    try dsimp only at hq2
    (repeat' (first|refine iDw (gm hn) ?_|refine Wz ?_|apply Wd <;>intro hh))
    all_goals (try exact oMw)
    all_goals first
     | exact A0 (i+1) ⟨oEw,by(try dsimp only);rw [hq];exact q13S⟩ oEw
     | (refine rEw hM ?_;(try rw [hq]);exact q13S)
   obtain⟨n2,hn2⟩:=gex hlt2
   obtain⟨pv2,hp2⟩:=gex (l:=n.links) (i:=i2-1) oEw
   have hpr2:=B6 hp2
   have hmem2:=List.mem_of_getElem? hn2
   rw [drp hn2] at hq2
   try dsimp only at hq2
   obtain⟨e,he⟩:∃ b,hasE l n2.to=b:=⟨_,rfl⟩;have ce:=c157 l n2.to;rw [he] at ce
   all_goals (repeat' (first|refine iDw (gm hn2) ?_|refine iDw (gm hn) ?_|refine cDw G1n ce ?_|refine Wz ?_|refine Wd (fun hh=>?_) fun hh=>?_|(refine Wc (fun hg=>?_) (fun hg=>?_) <;>(first|subst hg|(simp at hg;subst hg)|skip))))
   all_goals (try exact oMw)
   all_goals first
    | exact A0 (i2+1) ⟨oEw,by(try dsimp only);rw [hq2];exact q13S⟩ oEw
    | (refine rEw hM ?_;(try rw [hq2]);exact q13S))
 obtain⟨n,hn⟩:=gex hlt
 obtain⟨pv,hp⟩:=gex (l:=l) (i:=i-1) oEw
 have hpr:=B6 hp
 have hmem:=List.mem_of_getElem? hn
 rw [drp hn] at hq
 try dsimp only at hq
 all_goals (repeat' (first|refine iDw (gm hn) ?_|refine iDw (gm hp) ?_|refine cDw H0c (c156 p n (ht n hmem)) ?_|refine Wz ?_|refine Wb fun hb=>?_|apply Wd <;>intro hh))
 all_goals (try exact oMw)
 all_goals first
  | exact A0 (i+1) ⟨oEw,by(try dsimp only);rw [hq];exact q14S⟩ oEw
  | (refine rEw hM ?_;(try rw [hq]);exact q14S)
def lkE (l:List Entr)(e:Entr)(x:Lnk):Int:=if invR x.kind<0 then 14 else match getE l x.to with|none=>9|some f=>if lkB f ⟨invR x.kind,e.id⟩=false then 1 else 0
theorem q17S {p:Prop}(h:p:=by first|(simp [one1, *,dB,dI,dS,List.anyB,List.allB];done)|(simp_all [one1,dB,dI,dS,List.anyB,List.allB];done)|(simp_all [one1,dB,dI,dS,List.anyB,List.allB];omega)):p:=h
theorem c74 (l:List Entr)(hl:l.length≤1048576):Fp Tryz.prog 74 [lexD l] (dI (relE l)):=by
 have hsp:relE l=orE (fstE (fun _ e=>fstE (fun _ x=>lkE l e x) 0 e.links) 0 l) (if (l.anyB fun e=>hasR (Q2 l e.id 2) e.id||hasR (Q2 l e.id 4) e.id) then 17 else 0):=rfl
 rw [hsp]
 unfold orE
 refine fXw Tryz.func74 Tryz.ntmps74 fun c hM=>?_
 (repeat' (first|refine Wz ?_|fail))
 refine X_lp (ι:=Nat) 144115188075855740 [] (fun i=>[(3,.d (dI i))]) (fun _=>[]) (fun i=>i≤(l).length∧(fun i q=>fstE (fun _ e=>fstE (fun _ x=>lkE l e x) 0 e.links) i q) 0 (l)=(fun i q=>fstE (fun _ e=>fstE (fun _ x=>lkE l e x) 0 e.links) i q) i ((l).drop i)) (fun i=>(l).length-i) (0) ?_ ?_
 ·exact⟨zLw,rfl⟩
 rintro i ⟨hi,hq⟩
 by_cases hlt:i<(l).length
 rotate_left
 ·have hz:i=(l).length:=oEw
  subst hz
  rw [List.drop_eq_nil_of_le (Nat.le_refl _)] at hq
  try dsimp only at hq
  have h1:=hq
  clear hq
  rw [fstE] at h1
  rw [h1]
  (repeat' (first|refine Wz ?_|refine Wb fun hb=>?_|apply Wd <;>intro hh))
  all_goals (try exact oMw)
  refine X_lp (ι:=Nat) 2475880078426645361722392708 [] (fun i=>[(7,.d (dI i))]) (fun _=>[]) (fun i=>i≤(l).length∧(fun _ q=>q.anyB fun e=>hasR (Q2 l e.id 2) e.id||hasR (Q2 l e.id 4) e.id) 0 (l)=(fun _ q=>q.anyB fun e=>hasR (Q2 l e.id 2) e.id||hasR (Q2 l e.id 4) e.id) i ((l).drop i)) (fun i=>(l).length-i) (0) ?_ ?_
  ·exact⟨zLw,rfl⟩
  rintro i ⟨hi,hq⟩
  by_cases hlt:i<(l).length
  rotate_left
  ·have hz:i=(l).length:=oEw
   subst hz
   rw [List.drop_eq_nil_of_le (Nat.le_refl _)] at hq
   try dsimp only at hq
   ((repeat' (first|refine Wz ?_|refine Wb fun hb=>?_|apply Wd <;>intro hh)) <;> first|(exfalso;omega)|(all_goals (refine rEw hM ?_;(try rw [hq]);exact q17S)))
  obtain⟨n,hn⟩:=gex hlt
  obtain⟨pv,hp⟩:=gex (l:=l) (i:=i-1) oEw
  have hpr:=B6 hp
  have hmem:=List.mem_of_getElem? hn
  rw [drp hn] at hq
  try dsimp only at hq
  obtain⟨b,hb⟩:∃ b,hasR (Q2 l n.id 2) n.id=b:=⟨_,rfl⟩;have cb:=n161 (Q2 l n.id 2) n.id;rw [hb] at cb;obtain⟨e,he⟩:∃ b,hasR (Q2 l n.id 4) n.id=b:=⟨_,rfl⟩;have ce:=n161 (Q2 l n.id 4) n.id;rw [he] at ce
  all_goals (repeat' (first|refine iDw (gm hn) ?_|refine G_x (A3 Z Z Z G1k (c162 l n.id 2 hl) (.eq rfl)) Z Z ?_|refine G_x (A3 Z Z Z G1k (c162 l n.id 4 hl) (.eq rfl)) Z Z ?_|refine G_x (A3 Z Z Z G1l (cb) (.eq rfl)) Z Z ?_|refine G_x (A3 Z Z Z G1l (ce) (.eq rfl)) Z Z ?_|refine Wz ?_|refine Wb fun hb=>?_|refine Wd (fun hh=>?_) fun hh=>?_|(refine Wg (fun hg=>?_) (fun hg=>?_) <;>(first|subst hg|(simp at hg;subst hg)))|(refine Wc (fun hg=>?_) (fun hg=>?_) <;>(first|subst hg|(simp at hg;subst hg)|skip))))
  all_goals (try exact oMw)
  all_goals first
   | exact A0 (i+1) ⟨oEw,by(try dsimp only);rw [hq];exact q17S⟩ oEw
   | (refine rEw hM ?_;(try rw [hq]);exact q17S)
 obtain⟨n,hn⟩:=gex hlt
 obtain⟨pv,hp⟩:=gex (l:=l) (i:=i-1) oEw
 have hpr:=B6 hp
 have hmem:=List.mem_of_getElem? hn
 rw [drp hn] at hq
 try dsimp only at hq
 (repeat' (first|refine Wz ?_|refine Wb fun hb=>?_|apply Wd <;>intro hh))
 all_goals (try exact oMw)
 rw [fstE] at hq
 refine X_lp (ι:=Nat) 144115188075839604 [] (fun i=>[(4,.d (dI i))]) (fun _=>[]) (fun i=>i≤(n.links).length∧(fun i q=>fstE (fun _ x=>lkE l n x) i q) 0 (n.links)=(fun i q=>fstE (fun _ x=>lkE l n x) i q) i ((n.links).drop i)) (fun i=>(n.links).length-i) (0) ?_ ?_
 ·exact⟨zLw,rfl⟩
 rintro i2 ⟨hi2,hq2⟩
 by_cases hlt2:i2<(n.links).length
 rotate_left
 ·have hz2:i2=(n.links).length:=oEw
  subst hz2
  rw [List.drop_eq_nil_of_le (Nat.le_refl _)] at hq2
  try dsimp only at hq2
  simp only [fstE] at hq2
  rw [hq2] at hq
  (repeat' (first|refine iDw (gm hn) ?_|refine Wz ?_|refine Wb fun hb=>?_|apply Wd <;>intro hh))
  all_goals (try exact oMw)
  all_goals (exact A0 (i+1) ⟨oEw,by(try dsimp only);rw [hq];simp⟩ oEw)
 obtain⟨n2,hn2⟩:=gex hlt2
 obtain⟨pv2,hp2⟩:=gex (l:=n.links) (i:=i2-1) oEw
 have hpr2:=B6 hp2
 have hmem2:=List.mem_of_getElem? hn2
 rw [drp hn2] at hq2
 try dsimp only at hq2
 have c1:=n159 l n2.to
 rw [fstE] at hq2
 rcases eix l n2.to with⟨k1,k2⟩|⟨p,g,k1,k2,k3⟩
 all_goals rw [k1] at c1
 ·have hlk:lkE l n n2=if invR n2.kind<0 then 14 else 9:=by unfold lkE;rw [k2]
  rw [hlk] at hq2
  (repeat' (first|(refine M0 ?_;first|(refine D2 (fun _=>zL Z Z Z) Z Z (fun hh=>?_) (fun hh=>?_) <;>(try (exfalso;omega))))|refine G_x (A2 (m:=i) Z Z Z Z (gm hn)) Z Z ?_|refine G_x (A2 (m:=i2) Z Z Z Z (gm hn2)) Z Z ?_|refine G_x (A3 Z Z Z G1m (c158 n2.kind)) Z Z ?_|refine G_x (A3 Z Z Z B3s (c1)) Z Z ?_|refine Wz ?_|refine Wb fun hb=>?_))
  all_goals (try exact oMw)
  all_goals (first|(refine rEw hM ?_;rw [hq,hq2];(first|(simp [*,one1,dI];done)|(simp_all [one1,dI];done))))
 ·have hlk:lkE l n n2=if invR n2.kind<0 then 14 else if lkB g ⟨invR n2.kind,n.id⟩=false then 1 else 0:=by unfold lkE;rw [k3]
  rw [hlk] at hq2
  obtain⟨b,hb⟩:∃ b,lkB g ⟨invR n2.kind,n.id⟩=b:=⟨_,rfl⟩;have cb:=c160 g ⟨invR n2.kind,n.id⟩;rw [hb] at cb
  rw [hb] at hq2
  (repeat' (first|(refine M0 ?_;first|(refine D2 (fun _=>zL Z Z Z) Z Z (fun hh=>?_) (fun hh=>?_) <;>(try (exfalso;omega))))|refine G_x (A2 (m:=i) Z Z Z Z (gm hn)) Z Z ?_|refine G_x (A2 (m:=i2) Z Z Z Z (gm hn2)) Z Z ?_|refine G_x (A3 Z Z Z G1m (c158 n2.kind)) Z Z ?_|refine G_x (A3 Z Z Z B3s (c1)) Z Z ?_|refine G_x (A2 (m:=p) Z Z Z Z (gm k2)) Z Z ?_|refine G_x (A3 Z Z Z H0b (cb)) Z Z ?_|refine Wz ?_|refine Wb fun hb=>?_|(refine Wc (fun hg=>?_) (fun hg=>?_) <;>(first|subst hg|(simp at hg;subst hg)|skip))))
  all_goals (try exact oMw)
  all_goals (first|exact A0 (i2+1) ⟨oEw,by(try dsimp only);rw [hq2];(first|(simp [*,one1];done)|(simp_all;done))⟩ oEw|(refine rEw hM ?_;rw [hq,hq2];(first|(simp [*,one1,dI];done)|(simp_all [one1,dI];done))))
theorem n153 (l:List Tx)(s:Tx):Fp Tryz.prog 153 [txts l,dS s] (dB (hasT l s)):=by
 have h:hasT l s=l.any fun x=>decide (x=s):=by
  unfold hasT
  induction l with
  | nil=>rfl
  | cons x r ih=>rw [List.anyB,ih,List.any_cons]
 rw [h]
 exact c153 l s
def ttl (l:List (List Tx)):Nat:=(l.map List.length).foldr (·+·) 0
theorem B7d (x:List Tx)(l:List (List Tx)):ttl (x::l)=x.length+ttl l:=rfl
abbrev tsR (l:List Tx):List (List Dt):=l.map fun s=>[dS s]
theorem q18S {p:Prop}(h:p:=by first|(simp [one1, *,dB,dI,dS,List.anyB,List.allB,fstE];done)|(simp_all [one1,dB,dI,dS,List.anyB,List.allB,fstE];done)|(simp_all [one1,dB,dI,dS,List.anyB,List.allB,fstE];omega)):p:=h
theorem c70 (p:List Phn)(o:Orth)(hn:o.name.length≤1048576)(hu:∀ u∈o.units,u.graph.length≤1048576)(hl:∀ l∈o.letters,∀ s∈l,s.length≤1048576)(ht:ttl o.letters≤1048576):Fp Tryz.prog 70 [phD p,.g (A0h o)] (dI (B7u p.length o)):=by
 unfold B7u orE
 obtain⟨b,hb⟩:∃ b,A2n o.name=b:=⟨_,rfl⟩;have cb:=n150 o.name hn;rw [hb] at cb
 refine fXw Tryz.func70 Tryz.ntmps70 fun c hM=>?_
 (repeat' (first|refine cDw C4u cb ?_|refine Wz ?_|refine Wb fun hb=>?_|refine Wd (fun hh=>?_) fun hh=>?_|(refine Wc (fun hg=>?_) (fun hg=>?_) <;>(first|subst hg|(simp at hg;subst hg)|skip))))
 all_goals (try exact oMw)
 all_goals (try (all_goals (refine rEw hM ?_;(first|(simp [one1, *,dB,dI,dS,List.anyB,List.allB];done)|(simp_all [one1,dB,dI,dS,List.anyB,List.allB];done)|(simp_all [one1,dB,dI,dS,List.anyB,List.allB];omega)));done))
 refine X_lp (ι:=Nat) 8589410416 [] (fun i=>[(5,.d (dI i))]) (fun _=>[]) (fun i=>i≤(o.units).length∧(fun i q=>fstE (A7z p.length o.units) i q) 0 (o.units)=(fun i q=>fstE (A7z p.length o.units) i q) i ((o.units).drop i)) (fun i=>(o.units).length-i) (0) ?_ ?_
 ·exact⟨zLw,rfl⟩
 rintro i ⟨hi,hq⟩
 by_cases hlt:i<(o.units).length
 rotate_left
 ·have hz:i=(o.units).length:=oEw
  subst hz
  rw [List.drop_eq_nil_of_le (Nat.le_refl _)] at hq
  try dsimp only at hq
  simp only [fstE] at hq
  rw [hq]
  have hnm:A2n o.name=true:=by assumption
  rw [hnm,if_neg (show ¬ true=false by simp),if_neg (show ¬ 100<o.units.length by omega),if_neg (show ¬ (0:Int)≠0 by simp)]
  (repeat' ((fail_if_success (refine H7 (x:=(Code.region 14 _ _)) ?_));first|refine Wz ?_|refine Wb fun hb=>?_|refine Wd (fun hh=>?_) fun hh=>?_))
  all_goals (try exact oMw)
  ·refine rEw hM ?_
   rw [if_pos (show 100<o.letters.length by omega)]
   simp [one1,dI]
  rw [if_neg (show ¬ 100<o.letters.length by omega)]
  refine D0 7 7 9 1 Z Z ?_
  (repeat' (first|refine Wz ?_|fail))
  refine X_lp (ι:=Nat × Nat × List Tx) 604462909807177148401552 [] (fun y=>[(7,.o 7 y.2.1),(8,.d (dI y.1))]) (fun y=>[(7,.ls 9 1 y.2.1 (tsR y.2.2))]) (fun y=>y.1≤o.letters.length∧Y1 [] o.letters=Y1 y.2.2 (o.letters.drop y.1)∧y.2.2.length+ttl (o.letters.drop y.1)≤1048576) (fun y=>o.letters.length-y.1) ((0,0,[])) ?_ ?_
  ·exact⟨zLw,rfl,by simpa using ht⟩
  rintro⟨i,v,seen⟩ ⟨hi,hq2,hs⟩
  dsimp only at hi hq2 hs ⊢
  by_cases hlt:i<o.letters.length
  ·obtain⟨n,hn⟩:=gex hlt
   have hmem:=List.mem_of_getElem? hn
   rw [drp hn] at hq2 hs
   rw [B7d] at hs
   rw [Y1] at hq2
   (repeat' ((fail_if_success (refine H7 (x:=(Code.region 19 _ _)) ?_));first|refine iDw (gm hn) ?_|refine Wz ?_|refine Wb fun hb=>?_|refine Wd (fun hh=>?_) fun hh=>?_))
   all_goals (try exact oMw)
   ·refine rEw hM ?_
    rw [hq2,if_pos (show n.length=0 by omega)]
    simp [one1,dI]
   rw [if_neg (show ¬ n.length=0 by omega)] at hq2
   (repeat' (first|refine Wz ?_|fail))
   refine X_lp (ι:=Nat × Nat × List Tx) 604462907555514773669520 [] (fun y=>[(7,.o 7 y.2.1),(9,.d (dI y.1))]) (fun y=>[(7,.ls 9 1 y.2.1 (tsR y.2.2))]) (fun y=>y.1≤n.length∧A6l seen n=A6l y.2.2 (n.drop y.1)∧y.2.2.length+(n.length-y.1)≤seen.length+n.length) (fun y=>n.length-y.1) ((0,v,seen)) ?_ ?_
   ·exact⟨zLw,rfl,by simp⟩
   rintro⟨j,v2,sn⟩ ⟨hj,hq3,hs2⟩
   dsimp only at hj hq3 hs2 ⊢
   by_cases hltj:j<n.length
   ·obtain⟨t,ht2⟩:=gex hltj
    have hmt:=List.mem_of_getElem? ht2
    rw [drp ht2,A6l] at hq3
    obtain⟨b,hb⟩:∃ b,A9e t=b:=⟨_,rfl⟩;have cb:=n152 t (hl n hmem t hmt);rw [hb] at cb;obtain⟨e,he⟩:∃ b,hasT sn t=b:=⟨_,rfl⟩;have ce:=n153 sn t;rw [he] at ce
    rw [hb,he] at hq3
    (repeat' (first|refine iDw (gm hn) ?_|refine iDw (gm ht2) ?_|refine cDw G1o cb ?_|refine G_x (A0v (xs:=[txts sn,dS t]) [7] Z Z ⟨_,_,rfl,⟨by simp,9,1,_,rfl,rfl,by rw [List.length_map];omega⟩,⟨_,_,rfl,rfl,rfl⟩⟩ rfl H0e ce) Z Z ?_|refine Wz ?_|refine Wb fun hb=>?_|refine Wd (fun hh=>?_) fun hh=>?_|(refine Wc (fun hg=>?_) (fun hg=>?_) <;>(first|subst hg|(simp at hg;subst hg)|skip))))
    all_goals (try exact oMw)
    ·refine rEw hM ?_
     rw [hq2,hq3]
     simp [one1,dI]
    ·refine rEw hM ?_
     rw [hq2,hq3]
     simp [one1,dI]
    ·simp only [Bool.true_eq_false,if_false] at hq3
     exact A0 (j+1,v2+1,sn++[t]) (by dsimp only;refine⟨oEw,?_,?_⟩;exact hq3;rw [List.length_append];simp only [List.length_cons,List.length_nil];omega) (oDw) (hh:=by dsimp only;exact A1 (by show some _=some _;simp [tsR,dS]) (A4 _))
   ·have hzj:j=n.length:=oEw
    subst hzj
    rw [List.drop_eq_nil_of_le (Nat.le_refl _),A6l] at hq3
    rw [hq3] at hq2
    simp only [ne_eq,not_true_eq_false,if_false] at hq2
    (repeat' (first|refine iDw (gm hn) ?_|refine Wz ?_|refine Wb fun hb=>?_|apply Wd <;>intro hh))
    all_goals (try exact oMw)
    exact A0 (i+1,v2,sn) (by dsimp only;exact⟨oEw,hq2,oEw⟩) (oDw)
  ·have hz:i=o.letters.length:=oEw
   subst hz
   rw [List.drop_eq_nil_of_le (Nat.le_refl _),Y1] at hq2
   (repeat' (first|refine Wz ?_|refine Wb fun hb=>?_|apply Wd <;>intro hh))
   all_goals (try exact oMw)
   refine rEw hM ?_
   rw [hq2]
   simp [one1,dI]
 obtain⟨n,hn⟩:=gex hlt
 obtain⟨pv,hp⟩:=gex (l:=o.units) (i:=i-1) oEw
 have hpr:=B6 hp
 have hmem:=List.mem_of_getElem? hn
 rw [drp hn] at hq
 try dsimp only at hq
 all_goals (repeat' (first|refine cDw H0f (c151 p o i n hn (hu n hmem) oEw) ?_|refine Wz ?_|refine Wb fun hb=>?_|apply Wd <;>intro hh))
 all_goals (try exact oMw)
 all_goals first
  | exact A0 (i+1) ⟨oEw,by(try dsimp only);rw [hq];exact q18S⟩ oEw
  | (refine rEw hM ?_;(try rw [hq]);exact q18S)
structure LangS (g:Lng):Prop where
 s1:∀ p∈g.segs,p.name.length≤1048576
 s2:g.ortho.name.length≤1048576
 s3:∀ u∈g.ortho.units,u.graph.length≤1048576
 s4:∀ l∈g.ortho.letters,∀ s∈l,s.length≤1048576
 s5:ttl g.ortho.letters≤1048576
 s6:∀ r∈g.rules,r.frm.length≤1048576
 s7:g.lex.length≤1048576
 s8:∀ e∈g.lex,∀ s∈e.senses,s.gloss.length≤1048576∧s.dfn.length≤1048576
theorem q19S {p:Prop}(h:p:=by first|(simp [one1, *,dB,dI,dS,List.anyB,List.allB];done)|(simp_all [one1,dB,dI,dS,List.anyB,List.allB];done)|(simp_all [one1,dB,dI,dS,List.anyB,List.allB];omega)):p:=h
theorem c27 (g:Lng)(h:LangS g):Fp Tryz.prog 27 [.g (lngC g)] (dI (A9d g)):=by
 unfold A9d orE
 refine fXw Tryz.func27 Tryz.ntmps27 fun c hM=>?_
 (repeat' (first|refine cDw en69 (c69 g.segs h.s1) ?_|refine cDw en70 (c70 g.segs g.ortho h.s2 h.s3 h.s4 h.s5) ?_|refine cDw en71 (c71 g fun r hr=>Nat.le_trans (h.s6 r hr) oEw) ?_|refine cDw en72 (c72 g.net) ?_|refine cDw en73 (c73 g.segs g.lex h.s8) ?_|refine cDw en74 (c74 g.lex h.s7) ?_|refine cDw en75 (c75 g.lex (Nat.le_trans h.s7 oEw)) ?_|refine Wz ?_|apply Wd <;>intro hh))
 all_goals (try exact oMw)
 all_goals (try (all_goals (refine rEw hM ?_;exact q19S);done))
 all_goals (refine rEw hM ?_;exact q19S)
end
end Go.Proofs.YtojadfppncgphaaGreatDoor