/- Own text. -/
import Derived.Test.YtojadfppncgphaaGreatDoorQUb
import Derived.Test.YtojadfppncgphaaGreatDoorQUa
set_option linter.all false
set_option maxHeartbeats 16000000
set_option maxRecDepth 8000
namespace Go.Proofs.YtojadfppncgphaaGreatDoor
section
open Go.RowKit Go.En Go.Dl Go.Tp
attribute [local irreducible] X XL XW XG XK Val LS Fp Fo Calls bodyPost Code.wp
theorem n174 (l:List Entr)(id:Int):Fp Tryz.prog 174 [lexD l,dI id] (fRes entC ent0 (getE l id)):=c174 l id
theorem q31S {p:Prop}(h:p:=by first|(simp [one1, *,dB,dI,dS,List.anyB,List.allB];done)|(simp_all [one1,dB,dI,dS,List.anyB,List.allB];done)|(simp_all [one1,dB,dI,dS,List.anyB,List.allB];omega)):p:=h
theorem q32S {p:Prop}(h:p:=by first|(simp [one1, *,dB,dI,dS,List.anyB,List.allB,hasE];done)|(simp_all [one1,dB,dI,dS,List.anyB,List.allB,hasE];done)|(simp_all [one1,dB,dI,dS,List.anyB,List.allB,hasE];omega)):p:=h
theorem c81 (l : List Entr)(p : Pnt)(h1 : p.title.length ≤ 1048576)(h2 : p.text.length ≤ 1048576) : Fp Tryz.prog 81 [lexD l, .g (pntC p)] (dI (pntE l p)) := by
 unfold pntE orE
 obtain⟨b1,hb1⟩:∃ b,H2 p.title=b:=⟨_,rfl⟩;have cb1:=c149 p.title h1;rw [hb1] at cb1;obtain⟨b2,hb2⟩:∃ b,upB p.entries=b:=⟨_,rfl⟩;have cb2:=c173 p.entries;rw [hb2] at cb2
 refine fXw Tryz.func81 Tryz.ntmps81 fun c hM=>?_
 (repeat' (first|refine cDw A9s cb1 ?_|refine cDw D2n cb2 ?_|refine cDw D2o (c166 p.text h2) ?_|refine Wz ?_|refine Wd (fun hh=>?_) fun hh=>?_|(refine Wc (fun hg=>?_) (fun hg=>?_) <;>(first|subst hg|(simp at hg;subst hg)|skip))))
 all_goals (try exact oMw)
 all_goals (try (all_goals (refine rEw hM ?_;exact q31S);done))
 all_goals (
  refine X_lp (ι:=Nat) 4398038122960 [] (fun i=>[(6,.d (dI i))]) (fun _=>[]) (fun i=>i≤(p.entries).length∧(fun _ q=>q.allB (hasE l)) 0 (p.entries)=(fun _ q=>q.allB (hasE l)) i ((p.entries).drop i)) (fun i=>(p.entries).length-i) (0) ?_ ?_
  ·exact⟨zLw,rfl⟩
  rintro i ⟨hi,hq⟩
  by_cases hlt:i<(p.entries).length
  rotate_left
  ·have hz:i=(p.entries).length:=oEw
   subst hz
   rw [List.drop_eq_nil_of_le (Nat.le_refl _)] at hq
   try dsimp only at hq
   have h3:=hq
   clear hq
   rw [List.allB] at h3
   by_cases hz:p.refs.length=0
   ·(repeat' (first|(refine M0 ?_;first|(refine D2 (fun _=>zL Z Z Z) Z Z (fun hh=>?_) (fun hh=>?_) <;>(try (exfalso;omega)))|(refine D2 (fun _=>zM Z Z Z) Z Z (fun hh=>?_) (fun hh=>?_) <;>(try (exfalso;omega))))|refine Wz ?_|refine Wb fun hb=>?_))
    all_goals (try exact oMw)
    all_goals (refine rEw hM ?_;exact q31S)
   ·by_cases hz2:12<p.refs.length
    ·(repeat' (first|(refine M0 ?_;first|(refine D2 (fun _=>zL Z Z Z) Z Z (fun hh=>?_) (fun hh=>?_) <;>(try (exfalso;omega)))|(refine D2 (fun _=>zM Z Z Z) Z Z (fun hh=>?_) (fun hh=>?_) <;>(try (exfalso;omega)))|(refine D2 (fun _=>zO Z Z Z) Z Z (fun hh=>?_) (fun hh=>?_) <;>(try (exfalso;omega))))|refine Wz ?_|refine Wb fun hb=>?_))
     all_goals (try exact oMw)
     all_goals (refine rEw hM ?_;exact q31S)
    ·(repeat' (first|(refine M0 ?_;first|(refine D2 (fun _=>zL Z Z Z) Z Z (fun hh=>?_) (fun hh=>?_) <;>(try (exfalso;omega)))|(refine D2 (fun _=>zM Z Z Z) Z Z (fun hh=>?_) (fun hh=>?_) <;>(try (exfalso;omega)))|(refine D2 (fun _=>zO Z Z Z) Z Z (fun hh=>?_) (fun hh=>?_) <;>(try (exfalso;omega))))|refine G_x (A3 Z Z Z G1i (c175 p.refs 12)) Z Z ?_|refine Wz ?_|refine Wb fun hb=>?_))
     all_goals (try exact oMw)
     all_goals (refine rEw hM ?_;exact q31S)
  obtain⟨n,hn⟩:=gex hlt
  obtain⟨pv,hp⟩:=gex (l:=p.entries) (i:=i-1) oEw
  have hpr:=B6 hp
  have hmem:=List.mem_of_getElem? hn
  rw [drp hn] at hq
  try dsimp only at hq
  obtain⟨e,he⟩:∃ e,getE l n=e:=⟨_,rfl⟩;have ce:=n174 l n;rw [he] at ce;rw [List.allB,show hasE l n=e.isSome by unfold hasE;rw [he]] at hq;cases e
  all_goals (repeat' (first|refine iDw (gm hn) ?_|refine cDw G1j ce ?_|refine Wz ?_|refine Wb fun hb=>?_|apply Wd <;>intro hh))
  all_goals (try exact oMw)
  all_goals first
   | exact A0 (i+1) ⟨oEw,by(try dsimp only);rw [hq];exact q32S⟩ oEw
   | (refine rEw hM ?_;(try rw [hq]);exact q32S))
theorem q33S {p:Prop}(h:p:=by first|(simp [one1, *,dB,dI,dS,List.anyB,List.allB,fstE];done)|(simp_all [one1,dB,dI,dS,List.anyB,List.allB,fstE];done)|(simp_all [one1,dB,dI,dS,List.anyB,List.allB,fstE];omega)):p:=h
theorem c30 (l:List Entr)(q:List Pnt)(ht:∀ p∈q,p.title.length≤1048576∧p.text.length≤1048576):Fp Tryz.prog 30 [lexD l,pnts q] (dI (C3e l q)):=by
 unfold C3e
 refine fXw Tryz.func30 Tryz.ntmps30 fun c hM=>?_
 (repeat' (first|refine Wz ?_|refine Wb fun hb=>?_|apply Wd <;>intro hh))
 all_goals (try exact oMw)
 all_goals (try (all_goals (refine rEw hM ?_;exact q31S);done))
 refine X_lp (ι:=Nat) 281474976709744 [] (fun i=>[(5,.d (dI i))]) (fun _=>[]) (fun i=>i≤(q).length∧(fun i r=>fstE (fun i p=>if idB p.id=false then 2 else if prvB (fun h=>decide (p.id≤h.id)) q i then 10 else pntE l p) i r) 0 (q)=(fun i r=>fstE (fun i p=>if idB p.id=false then 2 else if prvB (fun h=>decide (p.id≤h.id)) q i then 10 else pntE l p) i r) i ((q).drop i)) (fun i=>(q).length-i) (0) ?_ ?_
 ·exact⟨zLw,rfl⟩
 rintro i ⟨hi,hq⟩
 by_cases hlt:i<(q).length
 rotate_left
 ·have hz:i=(q).length:=oEw
  subst hz
  rw [List.drop_eq_nil_of_le (Nat.le_refl _)] at hq
  try dsimp only at hq
  ((repeat' (first|refine Wz ?_|refine Wb fun hb=>?_|apply Wd <;>intro hh)) <;> first|(exfalso;omega)|(all_goals (refine rEw hM ?_;(try rw [hq]);exact q33S)))
 obtain⟨n,hn⟩:=gex hlt
 obtain⟨pv,hp⟩:=gex (l:=q) (i:=i-1) oEw
 have hpr:=B6 hp
 have hmem:=List.mem_of_getElem? hn
 rw [drp hn] at hq
 try dsimp only at hq
 obtain⟨b,hb⟩:∃ b,idB n.id=b:=⟨_,rfl⟩;have cb:=c79 n.id;rw [hb] at cb
 all_goals (repeat' (first|refine iDw (gm hn) ?_|refine iDw (gm hp) ?_|refine cDw en79 cb ?_|refine cDw en81 (c81 l n (ht n hmem).1 (ht n hmem).2) ?_|refine Wz ?_|refine Wb fun hb=>?_|refine Wd (fun hh=>?_) fun hh=>?_|(refine Wc (fun hg=>?_) (fun hg=>?_) <;>(first|subst hg|(simp at hg;subst hg)|skip))))
 all_goals (try exact oMw)
 all_goals first
  | exact A0 (i+1) ⟨oEw,by(try dsimp only);rw [hq];exact q33S⟩ oEw
  | (refine rEw hM ?_;(try rw [hq]);exact q33S)
theorem c23 (l:List Doc)(hl:l.length≤1048576):Fp Tryz.prog 23 [docs l] (.s 5 ((l.map (·.rc)).map rcC)):=by
 refine fXw Tryz.func23 Tryz.ntmps23 fun c hM=>?_
 (repeat' ((fail_if_success (refine H7 (x:=(Code.block 0 _)) ?_));first|refine Wz ?_|fail))
 refine D0 3 3 58 5 Z Z ?_
 skip
 refine X_lp (ι:=Nat × Nat) 524280 [] (fun q=>[(3,.o 3 q.2),(4,.d (dI q.1))]) (fun q=>[(3,.ls 58 5 q.2 (((l.take q.1).map (·.rc)).map rcC))]) (fun q=>q.1≤l.length) (fun q=>l.length-q.1) ((0,0)) ?_ ?_
 ·exact zLw
 rintro⟨i,ver⟩ hi
 dsimp only at hi
 by_cases hlt:i<l.length
 ·obtain⟨n,hn⟩:=gex hlt
  (repeat' (first|refine iDw (gm hn) ?_|refine Wz ?_|refine Wb fun hb=>?_|apply Wd <;>intro hh))
  all_goals (try exact oMw)
  exact A0 (i+1,ver+1) (oDw) (oDw) (hh:=by dsimp only;exact A1 (by show some _=some _;rw [List.take_succ,hn];simp [rcC];done) (A4 _))
 ·have hz:i=l.length:=oEw
  subst hz
  rw [List.take_length]
  (repeat' (first|refine Wz ?_|refine Wb fun hb=>?_|apply Wd <;>intro hh))
  all_goals (try exact oMw)
  refine B9 2 Z Z lOw ?_
  exact rXw hM
theorem q41S {p:Prop}(h:p:=by first|(simp [one1, *,dB,dI,dS,List.anyB,List.allB];done)|(simp_all [one1,dB,dI,dS,List.anyB,List.allB];done)|(simp_all [one1,dB,dI,dS,List.anyB,List.allB];omega)):p:=h
theorem c21 (g:Lng)(h:LangS g):Fp Tryz.prog 21 [.g (lngC g)] (dB (A4h g)):=by
 unfold A4h
 obtain⟨b,hb⟩:∃ b,A5e g.lex=b:=⟨_,rfl⟩;have cb:=c63 g.lex;rw [hb] at cb
 refine fXw Tryz.func21 Tryz.ntmps21 fun c hM=>?_
 (repeat' (first|refine cDw en63 cb ?_|refine Wz ?_|refine Wb fun hb=>?_|refine Wd (fun hh=>?_) fun hh=>?_|(refine Wc (fun hg=>?_) (fun hg=>?_) <;>(first|subst hg|(simp at hg;subst hg)|skip))))
 all_goals (try exact oMw)
 all_goals (try (all_goals (refine rEw hM ?_;exact q41S);done))
 refine X_lp (ι:=Nat) 9223090561878065164 [] (fun i=>[(3,.d (dI i))]) (fun _=>[]) (fun i=>i≤(g.rules).length∧(fun _ q=>q.allB (fun r=>decide (r.frm.length≤8))) 0 (g.rules)=(fun _ q=>q.allB (fun r=>decide (r.frm.length≤8))) i ((g.rules).drop i)) (fun i=>(g.rules).length-i) (0) ?_ ?_
 ·exact⟨zLw,rfl⟩
 rintro i ⟨hi,hq⟩
 by_cases hlt:i<(g.rules).length
 rotate_left
 ·have hz:i=(g.rules).length:=oEw
  subst hz
  rw [List.drop_eq_nil_of_le (Nat.le_refl _)] at hq
  try dsimp only at hq
  ((repeat' (first|refine G_x (A3 Z Z Z en27 (c27 g h)) Z Z ?_|refine Wz ?_|refine Wb fun hb=>?_|apply Wd <;>intro hh)) <;> first|(exfalso;omega)|(all_goals (refine rEw hM ?_;(try rw [hq]);exact q41S)))
 obtain⟨n,hn⟩:=gex hlt
 obtain⟨pv,hp⟩:=gex (l:=g.rules) (i:=i-1) oEw
 have hpr:=B6 hp
 have hmem:=List.mem_of_getElem? hn
 rw [drp hn] at hq
 try dsimp only at hq
 all_goals (repeat' (first|refine iDw (gm hn) ?_|refine Wz ?_|refine Wb fun hb=>?_|apply Wd <;>intro hh))
 all_goals (try exact oMw)
 all_goals first
  | exact A0 (i+1) ⟨oEw,by(try dsimp only);rw [hq];exact q41S⟩ oEw
  | (refine rEw hM ?_;(try rw [hq]);exact q41S)
structure PrjS (p:Prj):Prop where
 lang:LangS p.lang
 docs:p.docs.length≤1048576
 names:∀ d∈p.docs,∀ t∈d.tiers,t.name.length≤1048576
 notes:∀ d∈p.docs,∀ n∈d.notes,n.text.length≤1048576
 recs:∀ d∈p.docs,d.rc.name.length≤1048576
 pnts:∀ q∈p.pnts,q.title.length≤1048576∧q.text.length≤1048576
 people:∀ q∈p.rgts.people,q.name.length≤1048576
 groups:∀ q∈p.rgts.groups,q.name.length≤1048576
 subs:(P3 p.rgts.groups).length≤1073741824
theorem PrjS.recN {p:Prj}(h:PrjS p):∀ r∈p.docs.map (·.rc),r.name.length≤1048576:=fun r hr=>by
 obtain⟨d,hd,rfl⟩:=List.mem_map.1 hr
 exact h.recs d hd
theorem q34S {p:Prop}(h:p:=by first|(simp [one1, *,dB,dI,dS,List.anyB,List.allB,fstE];done)|(simp_all [one1,dB,dI,dS,List.anyB,List.allB,fstE];done)|(simp_all [one1,dB,dI,dS,List.anyB,List.allB,fstE];omega)):p:=h
theorem c8 (p:Prj)(h:PrjS p):Fp Tryz.prog 8 [.g (prjC p)] (dI (prjE p)):=by
 unfold prjE orE
 refine fXw Tryz.func8 Tryz.ntmps8 fun c hM=>?_
 (repeat' (first|refine cDw en27 (c27 p.lang h.lang) ?_|refine Wz ?_|refine Wb fun hb=>?_|apply Wd <;>intro hh))
 all_goals (try exact oMw)
 all_goals (try (all_goals (refine rEw hM ?_;(first|(simp [one1, *,dB,dI,dS,List.anyB,List.allB];done)|(simp_all [one1,dB,dI,dS,List.anyB,List.allB];done)|(simp_all [one1,dB,dI,dS,List.anyB,List.allB];omega)));done))
 refine X_lp (ι:=Nat) 18014398509219892 [] (fun i=>[(4,.d (dI i))]) (fun _=>[]) (fun i=>i≤(p.docs).length∧(fun i r=>fstE (fun i d=>if docE d≠0 then docE d else if prvB (fun h=>decide (d.rc.id≤h.rc.id)) p.docs i then 10 else 0) i r) 0 (p.docs)=(fun i r=>fstE (fun i d=>if docE d≠0 then docE d else if prvB (fun h=>decide (d.rc.id≤h.rc.id)) p.docs i then 10 else 0) i r) i ((p.docs).drop i)) (fun i=>(p.docs).length-i) (0) ?_ ?_
 ·exact⟨zLw,rfl⟩
 rintro i ⟨hi,hq⟩
 by_cases hlt:i<(p.docs).length
 rotate_left
 ·have hz:i=(p.docs).length:=oEw
  subst hz
  rw [List.drop_eq_nil_of_le (Nat.le_refl _)] at hq
  try dsimp only at hq
  simp only [fstE] at hq
  rw [hq,if_neg (show ¬ A9d p.lang≠0 by assumption),if_neg (show ¬ 12<p.docs.length by omega),if_neg (show ¬ (0:Int)≠0 by simp)]
  (repeat' (first|refine cDw en29 (c29 p.dcns) ?_|refine cDw en30 (c30 p.lang.lex p.pnts h.pnts) ?_|refine cDw en23 (c23 p.docs h.docs) ?_|refine cDw en31 (c31 (p.docs.map (·.rc)) p.rgts h.people h.recN h.groups h.subs) ?_|refine Wz ?_|refine Wb fun hb=>?_|apply Wd <;>intro hh))
  all_goals (try exact oMw)
  all_goals (refine rEw hM ?_;simp [*,one1,dI])
 obtain⟨n,hn⟩:=gex hlt
 obtain⟨pv,hp⟩:=gex (l:=p.docs) (i:=i-1) oEw
 have hpr:=B6 hp
 have hmem:=List.mem_of_getElem? hn
 rw [drp hn] at hq
 try dsimp only at hq
 all_goals (repeat' (first|refine iDw (gm hn) ?_|refine iDw (gm hp) ?_|refine cDw en28 (c28 n (h.names n hmem) (h.notes n hmem)) ?_|refine Wz ?_|refine Wb fun hb=>?_|apply Wd <;>intro hh))
 all_goals (try exact oMw)
 all_goals first
  | exact A0 (i+1) ⟨oEw,by(try dsimp only);rw [hq];exact q34S⟩ oEw
  | (refine rEw hM ?_;(try rw [hq]);exact q34S)
theorem q42S {p:Prop}(h:p:=by first|(simp [one1, *,dB,dI,dS,List.anyB,List.allB];done)|(simp_all [one1,dB,dI,dS,List.anyB,List.allB];done)|(simp_all [one1,dB,dI,dS,List.anyB,List.allB];omega)):p:=h
theorem c5 (p:Prj)(h:PrjS p):Fp Tryz.prog 5 [.g (prjC p)] (dB (prjL p)):=by
 unfold prjL
 obtain⟨b1,hb1⟩:∃ b,A4h p.lang=b:=⟨_,rfl⟩;have cb1:=c21 p.lang h.lang;rw [hb1] at cb1;obtain⟨b2,hb2⟩:∃ b,A0o p.rgts (p.docs.map (·.rc))=b:=⟨_,rfl⟩;have cb2:=c22 (p.docs.map (·.rc)) p.rgts h.people h.recN h.groups h.subs;rw [hb2] at cb2
 refine fXw Tryz.func5 Tryz.ntmps5 fun c hM=>?_
 (repeat' (first|refine cDw en8 (c8 p h) ?_|refine cDw en21 cb1 ?_|refine cDw en23 (c23 p.docs h.docs) ?_|refine cDw en22 cb2 ?_|refine Wz ?_|refine Wd (fun hh=>?_) fun hh=>?_|(refine Wg (fun hg=>?_) (fun hg=>?_) <;>(first|subst hg|(simp at hg;subst hg)))|(refine Wc (fun hg=>?_) (fun hg=>?_) <;>(first|subst hg|(simp at hg;subst hg)|skip))))
 all_goals (try exact oMw)
 all_goals (try (all_goals (refine rEw hM ?_;exact q42S);done))
 refine X_lp (ι:=Nat) 18013298997854220 [] (fun i=>[(3,.d (dI i))]) (fun _=>[]) (fun i=>i≤(p.docs).length∧(fun _ q=>q.allB docL) 0 (p.docs)=(fun _ q=>q.allB docL) i ((p.docs).drop i)) (fun i=>(p.docs).length-i) (0) ?_ ?_
 ·exact⟨zLw,rfl⟩
 rintro i ⟨hi,hq⟩
 by_cases hlt:i<(p.docs).length
 rotate_left
 ·have hz:i=(p.docs).length:=oEw
  subst hz
  rw [List.drop_eq_nil_of_le (Nat.le_refl _)] at hq
  try dsimp only at hq
  ((repeat' (first|refine Wz ?_|refine Wb fun hb=>?_|apply Wd <;>intro hh)) <;> first|(exfalso;omega)|(all_goals (refine rEw hM ?_;(try rw [hq]);exact q42S)))
 obtain⟨n,hn⟩:=gex hlt
 obtain⟨pv,hp⟩:=gex (l:=p.docs) (i:=i-1) oEw
 have hpr:=B6 hp
 have hmem:=List.mem_of_getElem? hn
 rw [drp hn] at hq
 try dsimp only at hq
 obtain⟨e,he⟩:∃ b,docL n=b:=⟨_,rfl⟩;have ce:=c24 n (h.names n hmem) (h.notes n hmem);rw [he] at ce
 all_goals (repeat' (first|refine iDw (gm hn) ?_|refine cDw en24 ce ?_|refine Wz ?_|refine Wb fun hb=>?_|refine Wd (fun hh=>?_) fun hh=>?_|(refine Wc (fun hg=>?_) (fun hg=>?_) <;>(first|subst hg|(simp at hg;subst hg)|skip))))
 all_goals (try exact oMw)
 all_goals first
  | exact A0 (i+1) ⟨oEw,by(try dsimp only);rw [hq];exact q42S⟩ oEw
  | (refine rEw hM ?_;(try rw [hq]);exact q42S)
end
end Go.Proofs.YtojadfppncgphaaGreatDoor