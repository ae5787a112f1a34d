/- Own text. -/
import Derived.Test.YtojadfppncgphaaGreatDoorQUe
set_option linter.all false
set_option maxHeartbeats 16000000
set_option maxRecDepth 8000
namespace Go.Proofs.YtojadfppncgphaaGreatDoor
section
open Go.RowKit Go.En Go.Dl Go.Tp
def pplS (l:List Grp):List Int:=l.flatMap (·.people)
theorem B7q:∀ {l:List Grp},(∀ g∈l,g.people.length≤1000)→(pplS l).length≤l.length*1000
 | [],_=>Nat.le_refl _
 | x::r,h=>by
  have h1:=h x (List.mem_cons_self ..)
  have h2:=B7q fun g hg=>h g (List.mem_cons_of_mem _ hg)
  show(x.people++pplS r).length≤_
  rw [List.length_append,List.length_cons];omega
theorem B8w {l:List Grp}:∀(o b:List Int),Fine (pplS l) b→Fine (pplS l) (o.foldl (fun out k=>match grpF l k with|some g=>uniR out g.people|none=>out) b)
 | [],_,h=>h
 | x::r,b,h=>by
  rw [List.foldl_cons]
  refine B8w r _ ?_
  cases hg:grpF l x with
  | none=>exact h
  | some g=>exact B8v h.sub fun y hy=>List.mem_flatMap.2 ⟨g,List.mem_of_find?_eq_some hg,hy⟩
theorem D1o (S:List Int):Fine S []:=⟨.nil,fun _ h=>by cases h⟩
structure GrS (l:List Grp):Prop where
 subs:(P3 l).length≤1073741824
 len:l.length≤20
 ppl:∀ g∈l,g.people.length≤1000
attribute [local irreducible] X XL XW XG XK Val LS Fp Fo Calls bodyPost Code.wp
theorem c257 (l:List Grp)(id:Int)(h:GrS l):Fp Tryz.prog 257 [grps l,dI id] (ints (memR l id)):=by
 unfold memR
 have c1:=c178 l id
 rcases gix l id with⟨h1,h2⟩|⟨j,g,h1,h2,h3⟩
 all_goals rw [h1] at c1
 ·rw [h2]
  dsimp only
  refine fXw Tryz.func257 Tryz.ntmps257 fun c hM=>?_
  (repeat' (first|refine cDw A1d c1 ?_|refine Wz ?_|apply Wd <;>intro hh))
  all_goals (try exact oMw)
  exact rXw hM
 ·rw [h3]
  dsimp only
  have cb:=c180 l id h.subs
  have hbl:(belR l id).length≤1073741824:=by
   have:Fine (P3 l) (belR l id):=by unfold belR;rw [h3];exact A4q _ (A4p (A8g h3))
   exact Nat.le_trans this.len h.subs
  have cp:=c266 (belR l id) id oEw
  have hpl:=B7q h.ppl
  have hll:=h.len
  obtain⟨o,ho⟩:∃ o,putI (belR l id) id=o:=⟨_,rfl⟩
  have hol:=A3u (belR l id) id
  rw [ho] at cp hol ⊢
  refine fXw Tryz.func257 Tryz.ntmps257 fun c hM=>?_
  (repeat' ((fail_if_success (refine H7 (x:=(Code.region 5 _ _)) ?_));first|refine cDw A1d c1 ?_|refine cDw G1g cb ?_|refine cDw D2d cp ?_|refine Wz ?_|refine Wd (fun hh=>?_) fun hh=>?_))
  all_goals (try exact oMw)
  refine D3q 6 1 rfl ?_
  (repeat' (first|refine Wz ?_|refine Wb fun hb=>?_))
  refine X_lp (ι:=Nat) 549754765760 [] (fun i=>[(6,.d (ints (((o).take i).foldl (fun out k=>match grpF l k with|some g=>uniR out g.people|none=>out) ([])))),(20,.d (dI i))]) (fun _=>[]) (fun i=>i≤(o).length) (fun i=>(o).length-i) (0) ?_ ?_
  ·exact zLw
  rintro i hi
  by_cases hlt:i<(o).length
  rotate_left
  ·have hz:i=(o).length:=oEw
   subst hz
   rw [List.take_length]
   ((repeat' (first|refine Wz ?_|apply Wd <;>intro hh)) <;> first|(exfalso;omega)|exact rXw hM)
  obtain⟨n,hn⟩:=gex hlt
  have hmem:=List.mem_of_getElem? hn
  have ht:=J0 (f:=fun out k=>match grpF l k with|some g=>uniR out g.people|none=>out) (b:=[]) hn
  have hf:=B8w (l:=l) (o.take i) [] (D1o _)
  obtain⟨u,hu⟩:∃ u,u=(o.take i).foldl (fun out k=>match grpF l k with|some g=>uniR out g.people|none=>out) []:=⟨_,rfl⟩
  rw [← hu] at ht hf ⊢
  have hul:=hf.len
  have c2:=c178 l n
  rcases gix l n with⟨k1,k2⟩|⟨p,q,k1,k2,k3⟩
  ·rw [k1] at c2
   rw [k2] at ht
   (repeat' (first|refine iDw (gm hn) ?_|refine cDw A1d c2 ?_|refine Wz ?_|apply Wd <;>intro hh))
   all_goals (try exact oMw)
   all_goals exact A0 (i+1) oEw oEw (by(try dsimp only);rw [ht];(repeat (refine A6 (by first|rfl|simp [*]) ?_));exact B8 _)
  ·rw [k1] at c2
   rw [k3] at ht
   have hq:=h.ppl q (List.mem_of_getElem? k2)
   (repeat' (first|refine iDw (gm hn) ?_|refine cDw A1d c2 ?_|refine iDw (gm k2) ?_|refine cDw D2g (c235 u q.people oEw) ?_|refine Wz ?_|apply Wd <;>intro hh))
   all_goals (try exact oMw)
   all_goals exact A0 (i+1) oEw oEw (by(try dsimp only);rw [ht];(repeat (refine A6 (by first|rfl|simp [*]) ?_));exact B8 _)
theorem c215 (l:List Grp)(id person:Int)(h:GrS l):Fp Tryz.prog 215 [grps l,dI id,dI person] (dB (hasR (memR l id) person)):=by
 have c1:=c257 l id h
 obtain⟨m,hm⟩:∃ m,memR l id=m:=⟨_,rfl⟩
 rw [hm] at c1 ⊢
 have c2:=n179 m person
 refine fXw Tryz.func215 Tryz.ntmps215 fun c hM=>?_
 (repeat' (first|refine cDw G8g c1 ?_|refine cDw G1h c2 ?_|refine Wz ?_|fail))
 exact rXw hM
theorem q43S {p:Prop}(h:p:=by first|(simp [one1, *,dB,dI,dS,List.anyB,List.allB];done)|(simp_all [one1,dB,dI,dS,List.anyB,List.allB];done)|(simp_all [one1,dB,dI,dS,List.anyB,List.allB];omega)):p:=h
theorem c145 (people:List Pers)(l:List Grp)(p:Prot)(v:Vwr)(h:GrS l):Fp Tryz.prog 145 [.s 3 (people.map M5),grps l,.g (B7p p),.g (vwrC v)] (dB (mayR people l p v)):=by
 unfold mayR
 by_cases hd:v.day<p.til
 ·rw [if_pos hd]
  refine fXw Tryz.func145 Tryz.ntmps145 fun c hM=>?_
  (repeat' (first|refine Wz ?_|apply Wd <;>intro hh))
  all_goals (try exact oMw)
  exact rXw hM
 rw [if_neg hd]
 by_cases h0:p.level=0
 ·rw [if_pos h0]
  refine fXw Tryz.func145 Tryz.ntmps145 fun c hM=>?_
  (repeat' (first|refine Wz ?_|apply Wd <;>intro hh))
  all_goals (try exact oMw)
  exact rXw hM
 rw [if_neg h0]
 by_cases h1:p.level=1
 ·rw [if_pos h1]
  unfold mbrB
  obtain⟨o,ho⟩:∃ b,perF people v.person=b:=⟨_,rfl⟩;have co:=p142 people v.person;rw [ho] at co;cases o
  ·rw [ho]
   refine fXw Tryz.func145 Tryz.ntmps145 fun c hM=>?_
   (repeat' (first|refine cDw A6p co ?_|refine Wz ?_|apply Wd <;>intro hh))
   all_goals (try exact oMw)
   exact rXw hM
  ·rename_i x
   rw [ho]
   refine fXw Tryz.func145 Tryz.ntmps145 fun c hM=>?_
   (repeat' (first|refine cDw A6p co ?_|refine Wz ?_|apply Wd <;>intro hh))
   all_goals (try exact oMw)
   exact rXw hM
 rw [if_neg h1]
 by_cases h2:p.level=2
 ·rw [if_pos h2]
  refine fXw Tryz.func145 Tryz.ntmps145 fun c hM=>?_
  (repeat' (first|refine Wz ?_|apply Wd <;>intro hh))
  all_goals (try exact oMw)
  refine X_lp (ι:=Nat) 18014123631577344 [] (fun i=>[(11,.d (dI i))]) (fun _=>[]) (fun i=>i≤(p.groups).length∧(fun _ q=>q.anyB fun g=>hasR (memR l g) v.person) 0 (p.groups)=(fun _ q=>q.anyB fun g=>hasR (memR l g) v.person) i ((p.groups).drop i)) (fun i=>(p.groups).length-i) (0) ?_ ?_
  ·exact⟨zLw,rfl⟩
  rintro i ⟨hi,hq⟩
  by_cases hlt:i<(p.groups).length
  rotate_left
  ·have hz:i=(p.groups).length:=oEw
   subst hz
   rw [List.drop_eq_nil_of_le (Nat.le_refl _)] at hq
   try dsimp only at hq
   ((repeat' (first|refine Wz ?_|refine Wb fun hb=>?_|apply Wd <;>intro hh)) <;> first|(exfalso;omega)|(all_goals (refine rEw hM ?_;(try rw [hq]);exact q43S)))
  obtain⟨n,hn⟩:=gex hlt
  obtain⟨pv,hp⟩:=gex (l:=p.groups) (i:=i-1) oEw
  have hpr:=B6 hp
  have hmem:=List.mem_of_getElem? hn
  rw [drp hn] at hq
  try dsimp only at hq
  obtain⟨b,hb⟩:∃ b,hasR (memR l n) v.person=b:=⟨_,rfl⟩;have cb:=c215 l n v.person h;rw [hb] at cb
  all_goals (repeat' (first|refine iDw (gm hn) ?_|refine cDw G9d cb ?_|refine Wz ?_|refine Wb fun hb=>?_|refine Wd (fun hh=>?_) fun hh=>?_|(refine Wc (fun hg=>?_) (fun hg=>?_) <;>(first|subst hg|(simp at hg;subst hg)|skip))))
  all_goals (try exact oMw)
  all_goals first
   | exact A0 (i+1) ⟨oEw,by(try dsimp only);rw [hq];exact q43S⟩ oEw
   | (refine rEw hM ?_;(try rw [hq]);exact q43S)
 ·rw [if_neg h2]
  refine fXw Tryz.func145 Tryz.ntmps145 fun c hM=>?_
  (repeat' (first|refine Wz ?_|apply Wd <;>intro hh))
  all_goals (try exact oMw)
  exact rXw hM
theorem c59 (a:Rgts)(r:Rc)(v:Vwr):Fp Tryz.prog 59 [.g (V7 a),.g (rcC r),.g (vwrC v)] (dI (S4 a r v)):=by
 unfold S4
 obtain⟨b,hb⟩:∃ b,mbrB a.people v.person=b:=⟨_,rfl⟩
 rw [hb]
 unfold mbrB at hb
 obtain⟨o,ho⟩:∃ b,perF a.people v.person=b:=⟨_,rfl⟩;have co:=p142 a.people v.person;rw [ho] at co;cases o
 ·rw [ho] at hb
  subst hb
  refine fXw Tryz.func59 Tryz.ntmps59 fun c hM=>?_
  (repeat' (first|refine cDw A6p co ?_|refine Wz ?_|refine Wb fun hb=>?_))
  all_goals (try exact oMw)
  refine X_lp (ι:=Nat) 2251799809492544 [] (fun i=>[(22,.d (dI i))]) (fun _=>[]) (fun i=>i≤(r.sp).length∧(fun i q=>dI (fstE (fun _ s=>if atR s r.id v.day a.consents=0 then 26 else if atR s r.id v.day a.consents=1∧false=false then 25 else 0) i q)) 0 (r.sp)=(fun i q=>dI (fstE (fun _ s=>if atR s r.id v.day a.consents=0 then 26 else if atR s r.id v.day a.consents=1∧false=false then 25 else 0) i q)) i ((r.sp).drop i)) (fun i=>(r.sp).length-i) (0) ?_ ?_
  ·exact⟨zLw,rfl⟩
  rintro i ⟨hi,hq⟩
  by_cases hlt:i<(r.sp).length
  rotate_left
  ·have hz:i=(r.sp).length:=oEw
   subst hz
   rw [List.drop_eq_nil_of_le (Nat.le_refl _)] at hq
   try dsimp only at hq
   ((repeat' (first|refine Wz ?_|apply Wd <;>intro hh));all_goals (first|(exfalso;omega)|(refine rEw hM ?_;rw [hq];rfl)))
  obtain⟨n,hn⟩:=gex hlt
  obtain⟨pv,hp⟩:=gex (l:=r.sp) (i:=i-1) oEw
  have hpr:=B6 hp
  have hmem:=List.mem_of_getElem? hn
  rw [drp hn] at hq
  try dsimp only at hq
  have ca:=c143 a.consents n r.id v.day;obtain⟨z,hz⟩:∃ z,atR n r.id v.day a.consents=z:=⟨_,rfl⟩;rw [fstE,hz] at hq;rw [hz] at ca
  (repeat' (first|refine iDw (gm hn) ?_|refine cDw D2s ca ?_|refine Wz ?_|apply Wd <;>intro hh))
  all_goals (try exact oMw)
  all_goals first
   | exact A0 (i+1) ⟨oEw,by(try dsimp only);rw [hq];(first|(simp [one1, *,dB,dI,fstE];done)|(simp_all [one1,dB,dI,fstE];done))⟩ oEw (hh':=hSw)
   | (refine rEw hM ?_;rw [hq];(first|(simp [one1, *,dB,dI,fstE];done)|(simp_all [one1,dB,dI,fstE];done)))
 ·rename_i x
  obtain⟨x1,x2,m⟩:=x
  rw [ho] at hb
  dsimp only at hb
  cases m
  all_goals subst hb
  ·skip
   refine fXw Tryz.func59 Tryz.ntmps59 fun c hM=>?_
   (repeat' (first|refine cDw A6p co ?_|refine Wz ?_|refine Wb fun hb=>?_))
   all_goals (try exact oMw)
   refine X_lp (ι:=Nat) 2251799809492544 [] (fun i=>[(22,.d (dI i))]) (fun _=>[]) (fun i=>i≤(r.sp).length∧(fun i q=>dI (fstE (fun _ s=>if atR s r.id v.day a.consents=0 then 26 else if atR s r.id v.day a.consents=1∧false=false then 25 else 0) i q)) 0 (r.sp)=(fun i q=>dI (fstE (fun _ s=>if atR s r.id v.day a.consents=0 then 26 else if atR s r.id v.day a.consents=1∧false=false then 25 else 0) i q)) i ((r.sp).drop i)) (fun i=>(r.sp).length-i) (0) ?_ ?_
   ·exact⟨zLw,rfl⟩
   rintro i ⟨hi,hq⟩
   by_cases hlt:i<(r.sp).length
   rotate_left
   ·have hz:i=(r.sp).length:=oEw
    subst hz
    rw [List.drop_eq_nil_of_le (Nat.le_refl _)] at hq
    try dsimp only at hq
    ((repeat' (first|refine Wz ?_|apply Wd <;>intro hh));all_goals (first|(exfalso;omega)|(refine rEw hM ?_;rw [hq];rfl)))
   obtain⟨n,hn⟩:=gex hlt
   obtain⟨pv,hp⟩:=gex (l:=r.sp) (i:=i-1) oEw
   have hpr:=B6 hp
   have hmem:=List.mem_of_getElem? hn
   rw [drp hn] at hq
   try dsimp only at hq
   have ca:=c143 a.consents n r.id v.day;obtain⟨z,hz⟩:∃ z,atR n r.id v.day a.consents=z:=⟨_,rfl⟩;rw [fstE,hz] at hq;rw [hz] at ca
   (repeat' (first|refine iDw (gm hn) ?_|refine cDw D2s ca ?_|refine Wz ?_|apply Wd <;>intro hh))
   all_goals (try exact oMw)
   all_goals first
    | exact A0 (i+1) ⟨oEw,by(try dsimp only);rw [hq];(first|(simp [one1, *,dB,dI,fstE];done)|(simp_all [one1,dB,dI,fstE];done))⟩ oEw (hh':=hSw)
    | (refine rEw hM ?_;rw [hq];(first|(simp [one1, *,dB,dI,fstE];done)|(simp_all [one1,dB,dI,fstE];done)))
  ·skip
   refine fXw Tryz.func59 Tryz.ntmps59 fun c hM=>?_
   (repeat' (first|refine cDw A6p co ?_|refine Wz ?_|refine Wb fun hb=>?_))
   all_goals (try exact oMw)
   refine X_lp (ι:=Nat) 2251799809492544 [] (fun i=>[(22,.d (dI i))]) (fun _=>[]) (fun i=>i≤(r.sp).length∧(fun i q=>dI (fstE (fun _ s=>if atR s r.id v.day a.consents=0 then 26 else if atR s r.id v.day a.consents=1∧true=false then 25 else 0) i q)) 0 (r.sp)=(fun i q=>dI (fstE (fun _ s=>if atR s r.id v.day a.consents=0 then 26 else if atR s r.id v.day a.consents=1∧true=false then 25 else 0) i q)) i ((r.sp).drop i)) (fun i=>(r.sp).length-i) (0) ?_ ?_
   ·exact⟨zLw,rfl⟩
   rintro i ⟨hi,hq⟩
   by_cases hlt:i<(r.sp).length
   rotate_left
   ·have hz:i=(r.sp).length:=oEw
    subst hz
    rw [List.drop_eq_nil_of_le (Nat.le_refl _)] at hq
    try dsimp only at hq
    ((repeat' (first|refine Wz ?_|apply Wd <;>intro hh));all_goals (first|(exfalso;omega)|(refine rEw hM ?_;rw [hq];rfl)))
   obtain⟨n,hn⟩:=gex hlt
   obtain⟨pv,hp⟩:=gex (l:=r.sp) (i:=i-1) oEw
   have hpr:=B6 hp
   have hmem:=List.mem_of_getElem? hn
   rw [drp hn] at hq
   try dsimp only at hq
   have ca:=c143 a.consents n r.id v.day;obtain⟨z,hz⟩:∃ z,atR n r.id v.day a.consents=z:=⟨_,rfl⟩;rw [fstE,hz] at hq;rw [hz] at ca
   (repeat' (first|refine iDw (gm hn) ?_|refine cDw D2s ca ?_|refine Wz ?_|apply Wd <;>intro hh))
   all_goals (try exact oMw)
   all_goals first
    | exact A0 (i+1) ⟨oEw,by(try dsimp only);rw [hq];(first|(simp [one1, *,dB,dI,fstE];done)|(simp_all [one1,dB,dI,fstE];done))⟩ oEw (hh':=hSw)
    | (refine rEw hM ?_;rw [hq];(first|(simp [one1, *,dB,dI,fstE];done)|(simp_all [one1,dB,dI,fstE];done)))
theorem C8e:∀ {l:List Spn},(∀ x∈l,A5 x=true)→tot l≤(l.length:Int)*86400000
 | [],_=>by simp [tot]
 | x::r,h=>by
  have h1:=(G9 x).1 (h x (List.mem_cons_self ..))
  have h2:=C8e fun y hy=>h y (List.mem_cons_of_mem _ hy)
  rw [A8d,List.length_cons]
  omega
theorem B1j (l:List Spn):(uniS l).length≤l.length:=by
 have:=B6y l []
 simp only [List.length_nil,Nat.zero_add] at this
 exact this
theorem C2c (s:Spn):∀ q:List Spn,(woS q s).length≤2*q.length
 | []=>Nat.le_refl _
 | x::r=>by
  have ih:=C2c s r
  unfold woS at ih ⊢
  rw [List.flatMap_cons,List.length_append,List.length_append,List.length_cons]
  split <;> split <;> simp only [List.length_cons,List.length_nil] <;> omega
theorem D0a (a:List Spn)(s:Spn):(minS a [s]).length≤2*a.length:=by
 have h1:=B1j a
 have h2:=C2c s (uniS a)
 show(if A5 s then woS (uniS a) s else uniS a).length≤_
 split <;> omega
theorem c62 (a:Rgts)(r:Rc)(v:Vwr)(h:GrS a.groups)(hr:a.rules.length≤11):Fp Tryz.prog 62 [.g (V7 a),.g (rcC r),.g (vwrC v)] (spnD (A8h a r v)):=by
 have cb:=c59 a r v
 unfold A8h
 by_cases hb:S4 a r v≠0
 ·rw [if_pos hb]
  refine fXw Tryz.func62 Tryz.ntmps62 fun c hM=>?_
  (repeat' (first|refine cDw en59 cb ?_|refine Wz ?_|refine Wb fun hb=>?_|apply Wd <;>intro hh))
  all_goals (try exact oMw)
  exact rXw hM
 rw [if_neg hb]
 refine fXw Tryz.func62 Tryz.ntmps62 fun c hM=>?_
 (repeat' (first|refine cDw en59 cb ?_|refine Wz ?_|refine Wb fun hb=>?_|apply Wd <;>intro hh))
 all_goals (try exact oMw)
 refine X_lp (ι:=Nat × List Spn) 144115188059080512 [] (fun s=>[(8,.d (spnD s.2)),(24,.d (dI s.1))]) (fun _=>[]) (fun s=>s.1≤a.rules.length∧T8 a r v a.rules [⟨0,r.len⟩]=T8 a r v (a.rules.drop s.1) s.2∧s.2.length≤2 ^ s.1) (fun s=>a.rules.length-s.1) ((0,[⟨0,r.len⟩])) ?_ ?_
 ·exact⟨zLw,rfl,Nat.le_refl _⟩
 rintro⟨i,out⟩ ⟨hi,hq,hl⟩
 dsimp only at hi hq hl ⊢
 by_cases hlt:i<a.rules.length
 rotate_left
 ·rw [List.drop_eq_nil_of_le oEw,T8] at hq
  rw [hq]
  (repeat' (first|refine Wz ?_|apply Wd <;>intro hh))
  all_goals (try exact oMw)
  exact rXw hM
 obtain⟨x,hx⟩:=gex hlt
 rw [drp hx,T8] at hq
 have hp:=Nat.pow_le_pow_right (n:=2) (by decide) (show i≤11 by omega)
 rw [show(2:Nat) ^ 11=2048 from rfl] at hp
 have hml:=D0a out x.span
 have hps:(2:Nat) ^ (i+1)=2*2 ^ i:=by rw [Nat.pow_succ,Nat.mul_comm]
 have hul:=B1j out
 have htl:=C8e (A8a out).1
 obtain⟨b,hbm⟩:∃ b,mayR a.people a.groups x.prot v=b:=⟨_,rfl⟩
 have cm:=c145 a.people a.groups x.prot v h
 rw [hbm] at hq cm
 obtain⟨z,hzz⟩:∃ z,(decide (x.span.frm=0)&&decide (x.span.til=0))=z:=⟨_,rfl⟩
 have c2:=c144 out [x.span] oEw (A8a out).1 oEw
 by_cases hid:x.rcd=r.id
 rotate_left
 ·rw [if_pos (.inl hid)] at hq
  (repeat' (first|refine iDw (gm hx) ?_|refine Wz ?_|apply Wd <;>intro hh))
  all_goals (try exact oMw)
  exact A0 (i+1,out) ⟨oDw,hq,oDw⟩ (oDw)
 cases b with
 | true=>
  rw [if_pos (.inr rfl)] at hq
  (repeat' (first|refine iDw (gm hx) ?_|refine cDw D2r cm ?_|refine Wz ?_|apply Wd <;>intro hh))
  all_goals (try exact oMw)
  all_goals (first|exact absurd hid (by assumption)|exact A0 (i+1,out) ⟨oDw,hq,oDw⟩ (oDw))
 | false=>
  rw [if_neg (by rintro(e|e);exact e hid;cases e)] at hq
  cases z with
  | true=>
   rw [Bool.and_eq_true,decide_eq_true_iff,decide_eq_true_iff] at hzz
   rw [if_pos hzz] at hq
   replace hzz:(decide (x.span.frm=0)&&decide (x.span.til=0))=true:=by rw [hzz.1,hzz.2];rfl
   rw [hq]
   (repeat' (first|refine iDw (gm hx) ?_|refine cDw D2r cm ?_|refine G_x (Z7 B1k Z Z Z hzz) Z Z ?_|refine Wz ?_|apply Wd <;>intro hh))
   all_goals (try exact oMw)
   all_goals (first|exact absurd hid (by assumption)|exact rXw hM)
  | false=>
   rw [if_neg (fun e=>by rw [e.1,e.2] at hzz;cases hzz)] at hq
   (repeat' (first|refine iDw (gm hx) ?_|refine cDw D2r cm ?_|refine G_x (Z7 B1k Z Z Z hzz) Z Z ?_|refine cDw G1p c2 ?_|refine Wz ?_|apply Wd <;>intro hh))
   all_goals (try exact oMw)
   all_goals (first|exact absurd hid (by assumption)|exact A0 (i+1,minS out [x.span]) ⟨oDw,hq,oDw⟩ (oDw))
theorem c20 (a:Rgts)(r:Rc)(s:Spn)(v:Vwr)(h:GrS a.groups)(hr:a.rules.length≤11):Fp Tryz.prog 20 [.g (V7 a),.g (rcC r),.g (spnC s),.g (vwrC v)] (dI (B8d a r s v)):=by
 have c0:=c59 a r v
 have cs:=c62 a r v h hr
 unfold B8d
 by_cases h0:S4 a r v≠0
 ·rw [if_pos h0]
  refine fXw Tryz.func20 Tryz.ntmps20 fun c hM=>?_
  (repeat' (first|refine cDw en59 c0 ?_|refine Wz ?_|apply Wd <;>intro hh))
  all_goals (try exact oMw)
  exact rXw hM
 rw [if_neg h0]
 obtain⟨S,hS⟩:∃ S,A8h a r v=S:=⟨_,rfl⟩
 rw [hS] at cs ⊢
 obtain⟨k,hk⟩:∃ b,A5 s=b:=⟨_,rfl⟩;have ck:=c60 s;rw [hk] at ck;obtain⟨d,hd⟩:∃ b,covS S s=b:=⟨_,rfl⟩;have cd:=c61 S s;rw [hd] at cd
 rw [hk,hd]
 by_cases hl:r.len<s.til
 ·rw [if_pos (.inr hl)]
  cases k
  all_goals (
   refine fXw Tryz.func20 Tryz.ntmps20 fun c hM=>?_
   (repeat' (first|refine cDw en59 c0 ?_|refine cDw en62 cs ?_|refine cDw en60 ck ?_|refine cDw en61 cd ?_|refine Wz ?_|refine Wd (fun hh=>?_) fun hh=>?_|(refine Wc (fun hg=>?_) (fun hg=>?_) <;>(first|subst hg|(simp at hg;subst hg)|skip))))
   all_goals (try exact oMw)
   exact rXw hM)
 cases k with
 | false=>
  rw [if_pos (.inl rfl)]
  refine fXw Tryz.func20 Tryz.ntmps20 fun c hM=>?_
  (repeat' (first|refine cDw en59 c0 ?_|refine cDw en60 ck ?_|refine Wz ?_|apply Wd <;>intro hh))
  all_goals (try exact oMw)
  exact rXw hM
 | true=>
  rw [if_neg (by rintro(e|e);cases e;exact hl e)]
  cases d
  all_goals (
   refine fXw Tryz.func20 Tryz.ntmps20 fun c hM=>?_
   (repeat' (first|refine cDw en59 c0 ?_|refine cDw en62 cs ?_|refine cDw en60 ck ?_|refine cDw en61 cd ?_|refine Wz ?_|apply Wd <;>intro hh))
   all_goals (try exact oMw)
   exact rXw hM)
theorem c19 (a:Rgts)(r:Rc)(s:Spn)(v:Vwr)(ha:RgS a):Fp Tryz.prog 19 [.g (V7 a),.g (rcC r),.g (spnC s),.g (vwrC v)] (dI (mayA a r s v)):=by
 have c0:=c55 a r v ha
 have cs:=c58 a r v ha
 have hsl:=A2u ha r v
 unfold mayA
 by_cases h0:S4 a r v≠0
 ·rw [if_pos h0]
  refine fXw Tryz.func19 Tryz.ntmps19 fun c hM=>?_
  (repeat' (first|refine cDw en55 c0 ?_|refine Wz ?_|apply Wd <;>intro hh))
  all_goals (try exact oMw)
  exact rXw hM
 rw [if_neg h0]
 obtain⟨S,hS⟩:∃ S,D4 a r v=S:=⟨_,rfl⟩
 rw [hS] at cs hsl ⊢
 obtain⟨k,hk⟩:∃ b,A5 s=b:=⟨_,rfl⟩;have ck:=c56 s;rw [hk] at ck;obtain⟨d,hd⟩:∃ b,covP S s=b:=⟨_,rfl⟩;have cd:=c57 S s hsl;rw [hd] at cd
 rw [hk,hd]
 by_cases hl:r.len<s.til
 ·rw [if_pos (.inr hl)]
  cases k
  all_goals (
   refine fXw Tryz.func19 Tryz.ntmps19 fun c hM=>?_
   (repeat' (first|refine cDw en55 c0 ?_|refine cDw en58 cs ?_|refine cDw en56 ck ?_|refine cDw en57 cd ?_|refine Wz ?_|refine Wd (fun hh=>?_) fun hh=>?_|(refine Wc (fun hg=>?_) (fun hg=>?_) <;>(first|subst hg|(simp at hg;subst hg)|skip))))
   all_goals (try exact oMw)
   exact rXw hM)
 cases k with
 | false=>
  rw [if_pos (.inl rfl)]
  refine fXw Tryz.func19 Tryz.ntmps19 fun c hM=>?_
  (repeat' (first|refine cDw en55 c0 ?_|refine cDw en56 ck ?_|refine Wz ?_|apply Wd <;>intro hh))
  all_goals (try exact oMw)
  exact rXw hM
 | true=>
  rw [if_neg (by rintro(e|e);cases e;exact hl e)]
  cases d
  all_goals (
   refine fXw Tryz.func19 Tryz.ntmps19 fun c hM=>?_
   (repeat' (first|refine cDw en55 c0 ?_|refine cDw en58 cs ?_|refine cDw en56 ck ?_|refine cDw en57 cd ?_|refine Wz ?_|apply Wd <;>intro hh))
   all_goals (try exact oMw)
   exact rXw hM)
end
section
open Go.RowKit Go.En Go.Dl Go.Tp
theorem B5o (s:List Int)(x:Int):hasI s x=true↔x∈s:=by
 unfold hasI
 rw [List.any_eq_true]
 constructor
 ·rintro⟨y,hy,h⟩
  have:=of_decide_eq_true h
  rwa [this]
 ·exact fun h=>⟨x,h,decide_eq_true rfl⟩
theorem A9u (s:List Int)(x:Int):(delI s x).Sublist s:=List.filter_sublist
theorem A4n {α:Type}{f:List Int→α→List Int}(hf:∀ s x,(f s x).Sublist s):∀(l:List α) (s:List Int),(l.foldl f s).Sublist s
 | [],s=>List.Sublist.refl _
 | x::r,s=>(A4n hf r (f s x)).trans (hf s x)
theorem B2c (lex:List Entr)(s:List Int):(A2m lex s).Sublist s:=A4n (fun s e=>by split;exact A9u _ _;exact List.Sublist.refl _) lex s
theorem A8i (lex:List Entr):∀(k:Nat) (s:List Int),(settle lex k s).Sublist s
 | 0,s=>List.Sublist.refl _
 | k+1,s=>by
  rw [settle]
  split
  ·exact B2c lex s
  ·exact(A8i lex k _).trans (B2c lex s)
theorem D6h (p:Prj)(v:Vwr)(s:List Int):(rndF p v s).Sublist s:=A4n (fun s e=>by split;exact List.Sublist.refl _;exact A9u _ _) _ s
theorem B7h (p:Prj)(v:Vwr):∀(k:Nat) (st:List Int),st.length<k→rndF p v (A6a p v k st)=A6a p v k st
 | 0,_,h=>absurd h (Nat.not_lt_zero _)
 | k + 1, st, h => by
  rw [A6a]
  have h1:=A8i p.lang.lex (st.length+1) st
  obtain⟨s1,hs1⟩:∃ s1,settle p.lang.lex (st.length+1) st=s1:=⟨_,rfl⟩
  rw [hs1] at h1 ⊢
  have h2:=D6h p v s1
  split
  ·rename_i he
   have h3:s1=st:=h1.eq_of_length (by have:=h2.length_le;have:=h1.length_le;omega)
   subst h3
   have h4:rndF p v s1=s1:=h2.eq_of_length he
   rw [h4,h4]
  ·rename_i he
   exact B7h p v k _ (by have:=h2.length_le;have:=h1.length_le;omega)
theorem C2v {p:Prj}{v:Vwr}{g:Lng}{e:Entr}(hf:A0k p v g e=false):∀(l:List Entr) (s:List Int),e∈l→e.id∉l.foldl (fun s e=>if A0k p v g e then s else delI s e.id) s
 | [],_,h=>by cases h
 | x :: r, s, h => by
  rw [List.foldl_cons]
  rcases List.mem_cons.1 h with rfl|h
  ·rw [hf]
   intro hm
   have:=(A4n (f:=fun s e=>if A0k p v g e then s else delI s e.id) (fun s e=>by split;exact List.Sublist.refl _;exact A9u _ _) r _).subset hm
   have:=(List.mem_filter.1 this).2
   simp at this
  ·exact C2v hf r _ h
theorem D7g {g:Lng}{s:List Int}{e:Entr}(h:e∈(K8 g s).lex):e.id∈s:=by
 obtain⟨x,hx,rfl⟩:=List.mem_map.1 h
 exact(B5o s x.id).1 (List.mem_filter.1 hx).2
theorem C8k {p:Prj}{v:Vwr}{e:Entr}(h:e∈(K8 p.lang (L8 p v)).lex):A0k p v (K8 p.lang (L8 p v)) e=true:=by
 have hfix:rndF p v (L8 p v)=L8 p v:=B7h p v _ _ (by rw [List.length_map];omega)
 cases ha:A0k p v (K8 p.lang (L8 p v)) e with
 | true=>rfl
 | false=>
  have:=C2v ha _ (L8 p v) h
  exact absurd (D7g h) (by
   intro hm
   refine this ?_
   show e.id∈rndF p v (L8 p v)
   rw [hfix];exact hm)
def reR (R:Entr→List Rf)(e:Entr):Entr:={ e with refs:=R e }
def lgR (R:Entr→List Rf)(g:Lng):Lng:={ g with lex:=g.lex.map (reR R) }
theorem D7m (R:Entr→List Rf)(l:List Entr)(id:Int):getE (l.map (reR R)) id=(getE l id).map (reR R):=by
 unfold getE
 rw [List.find?_map]
 rfl
theorem C2q (R:Entr→List Rf)(l:List Entr):∀(n:Nat) (id:Int),senG (l.map (reR R)) n id=senG l n id
 | 0,_=>rfl
 | n + 1, id => by
  rw [senG,senG,D7m]
  cases getE l id with
  | none=>rfl
  | some e=>
   show(if e.senses.length≠0 then e.senses else if e.main=0 then [] else senG (l.map (reR R)) n e.main)=_
   rw [C2q R l n e.main]
theorem D6c (R:Entr→List Rf)(l:List Entr)(id:Int):senF (l.map (reR R)) id=senF l id:=by
 unfold senF
 rw [List.length_map,C2q]
theorem B7j {α β:Type}(f:β→α)(F:Nat→α→Tr→Bool × Tr):∀(l:List β) (i:Nat) (tr:Tr),Q8 F i (l.map f) tr=Q8 (fun i x=>F i (f x)) i l tr
 | [],_,_=>rfl
 | x::r,i,tr=>by rw [List.map_cons,Q8,Q8,B7j f F r]
theorem C2d (R:Entr→List Rf)(g:Lng)(w:List Int)(id:Int):∀ k,P0 (lgR R g) w id k=P0 g w id k
 | 0=>rfl
 | k + 1 => by
  funext parts st base tr
  rw [P0,P0]
  have hh:A4l (lgR R g) w id parts st base tr=A4l g w id parts st base tr:=rfl
  rw [hh,C2d R g w id k]
  split
  ·rfl
  ·show Q8 _ 0 (g.lex.map (reR R)) _=_
   rw [B7j]
   congr 1
   funext i e t
   show(if aftP g.net.steps st e.cls≠0 then A0n (lgR R g) w (P0 g w id k) (reR R e) parts (aftP g.net.steps st e.cls) base t else (false,t))=_
   have hs:senF (lgR R g).lex (reR R e).id=senF g.lex e.id:=D6c R g.lex e.id
   unfold A0n
   rw [hs]
   rfl
theorem D5r (R:Entr→List Rf)(g:Lng)(w:List Int)(id:Int):A3m (lgR R g) w id=A3m g w id:=by
 unfold A3m
 rw [C2d]
end
section
open Go.RowKit Go.En Go.Dl Go.Tp
theorem Y0 (d : Doc)(x : Int) : ∀ (k : Nat) (ms : List Int) (id : Int), x ∈ ms → x ∈ K3 d k ms id
 | 0,_,_,h=>h
 | k + 1, ms, id, h => by
  rw [K3]
  cases getN d.notes id with
  | none=>exact h
  | some n=>
   dsimp only
   split
   ·exact h
   ·have h1:=Y0 d x k (ms++[id]) n.parent (List.mem_append_left _ h)
    split
    ·have key:∀(l ms:List Int),x∈ms→x∈l.foldl (K3 d k) ms:=fun l=>by
      induction l with
      | nil=>exact fun ms h=>h
      | cons y r ih=>exact fun ms h=>by rw [List.foldl_cons];exact ih _ (Y0 d x k ms y h)
     exact key _ _ h1
    ·exact h1
theorem D7c {d : Doc}{n : Note}(hg : GD d)(hn : n ∈ d.notes)(k : Nat)(ms : List Int) : n.id ∈ K3 d (k + 1) ms n.id := by
 rw [K3,show getN d.notes n.id=some n from T1 (g:=fun y:Note=>y.id) hg.ids hn]
 dsimp only
 split
 ·rename_i h;exact(B5o _ _).1 h
 ·have h1:=Y0 d n.id k (ms++[n.id]) n.parent (List.mem_append_right _ (List.mem_singleton_self _))
  split
  ·have key:∀(l ms:List Int),n.id∈ms→n.id∈l.foldl (K3 d k) ms:=fun l=>by
    induction l with
    | nil=>exact fun ms h=>h
    | cons y r ih=>exact fun ms h=>by rw [List.foldl_cons];exact ih _ (Y0 d n.id k ms y h)
   exact key _ _ h1
  ·exact h1
theorem D7h {d:Doc}{sp:List Spn}{n:Note}(hg:GD d)(hn:n∈d.notes)(hs:Q7 d sp n.id=true):n.id∈A6m d sp:=by
 unfold A6m
 have hl:∃ k,d.notes.length=k+1:=by
  cases hx:d.notes with
  | nil=>rw [hx] at hn;cases hn
  | cons a r=>exact⟨r.length,by simp⟩
 obtain⟨k,hk⟩:=hl
 rw [hk]
 have mono:∀(l:List Note) (ms:List Int),n.id∈ms→n.id∈l.foldl (fun ms n=>if Q7 d sp n.id then K3 d (k+1) ms n.id else ms) ms:=fun l=>by
  induction l with
  | nil=>exact fun ms h=>h
  | cons y r ih=>
   intro ms h
   rw [List.foldl_cons]
   refine ih _ ?_
   split
   ·exact Y0 d n.id _ _ _ h
   ·exact h
 have key:∀(l:List Note) (ms:List Int),n∈l→n.id∈l.foldl (fun ms n=>if Q7 d sp n.id then K3 d (k+1) ms n.id else ms) ms:=fun l=>by
  induction l with
  | nil=>exact fun ms h=>by cases h
  | cons y r ih=>
   intro ms h
   rw [List.foldl_cons]
   rcases List.mem_cons.1 h with rfl|h
   ·rw [if_pos hs];exact mono _ _ (D7c hg hn k ms)
   ·exact ih _ h
 exact key _ _ hn
theorem G3e {d:Doc}{sp:List Spn}{n:Note}(hg:GD d)(hn:n∈d.notes)(hs:Q7 d sp n.id=true):n∈(redF d sp).notes:=by
 refine List.mem_map.2 ⟨n,List.mem_filter.2 ⟨hn,(B5o _ _).2 (D7h hg hn hs)⟩,?_⟩
 unfold redN
 rw [if_pos hs]
theorem C8s {d:Doc}{sp:List Spn}{n:Note}(h:n∈(redF d sp).notes)(ht:n.text≠[]):Q7 d sp n.id=true:=by
 obtain⟨m,hm,rfl⟩:=List.mem_map.1 h
 unfold redN at ht ⊢
 cases hs:Q7 d sp m.id with
 | true=>rw [if_pos rfl];exact hs
 | false=>rw [hs] at ht;exact absurd rfl ht
structure RolF (l:List Tier):Prop where
 lt:0≤H9 l 3→H9 l 2<H9 l 3
theorem B7b {d:Doc}(hg:GD d)(t:Int):∀(k:Nat) (m:Note),m∈d.notes→t≤m.tier→∀ j∈undG d k m.id,∃ n∈d.notes,n.id=j∧t<n.tier
 | 0,_,_,_,j,h=>by rw [undG] at h;cases h
 | k+1,m,hm,ht,j,h=>by
  rw [undG] at h
  obtain⟨n,hn,hj⟩:=List.mem_flatMap.1 h
  obtain⟨h1,h2⟩:=List.mem_filter.1 hn
  have h3:=of_decide_eq_true h2
  have h4:=hg.up n h1 m hm h3
  rcases List.mem_cons.1 hj with rfl|hj
  ·exact⟨n,h1,rfl,by omega⟩
  ·exact B7b hg t k n h1 (by omega) j hj
theorem C1p {x y:Doc}{w:Int}(hg:GD x)(hr:RolF x.tiers)(h:O8 x w=some y){n:Note}(hn:n∈x.notes)(ht:n.tier=H9 x.tiers 2):n∈y.notes:=by
 unfold O8 at h
 split at h
 ·cases h
 rename_i hrd
 rw [Bool.not_eq_false] at hrd
 unfold A2x at hrd
 simp only [Bool.and_eq_true,decide_eq_true_eq] at hrd
 have hlt:=hr.lt hrd.2.1
 split at h
 ·cases h
 split at h
 ·cases h
 cases h
 refine List.mem_filter.2 ⟨hn,?_⟩
 rw [Bool.not_eq_true',Bool.eq_false_iff]
 intro hi
 have uniq:∀ m∈x.notes,n.id=m.id→n=m:=fun m hm e=>by
  have h1:=T1 (g:=fun y:Note=>y.id) hg.ids hn
  have h2:=T1 (g:=fun y:Note=>y.id) hg.ids hm
  rw [e] at h1
  exact Option.some.inj (h1.symm.trans h2)
 obtain⟨id,hid,hj⟩:=List.mem_flatMap.1 ((B5o _ _).1 hi)
 obtain⟨m,hm,rfl,hmt⟩:∃ m∈x.notes,m.id=id∧m.tier=H9 x.tiers 3:=by
  unfold K5 at hid
  obtain⟨m,hm,rfl⟩:=List.mem_map.1 hid
  have hm2:=List.mem_filter.1 ((A4j _ _ _).1 hm)
  have h5:=hm2.2
  rw [Bool.and_eq_true] at h5
  exact⟨m,hm2.1,rfl,of_decide_eq_true h5.1⟩
 rcases List.mem_cons.1 hj with e|hj
 ·have:=uniq m hm e
  subst this
  omega
 ·unfold K9 at hj
  split at hj
  ·cases hj
  ·rw [A3p] at hj
   obtain⟨n',hn',e',ht'⟩:=B7b hg (H9 x.tiers 3) _ m hm (by omega) _ hj
   have:=uniq n' hn' e'.symm
   subst this
   omega
structure ClrI (D x:Doc):Prop where
 g:GD x
 rc:x.rc=D.rc
 tiers:x.tiers=D.tiers
 sub:∀ n∈x.notes,n∈D.notes
 word:∀ n∈D.notes,n.tier=H9 D.tiers 2→n∈x.notes
theorem C7f {x y:Doc}{w:Int}(h:O8 x w=some y):∀ n∈y.notes,n∈x.notes:=fun n hn=>by
 unfold O8 at h
 split at h
 ·cases h
 split at h
 ·cases h
 split at h
 ·cases h
 cases h
 exact(List.mem_filter.1 hn).1
theorem H0s {p : Prj}{st : List Int}{D : Doc}(hg : GD D)(hr : RolF D.tiers) : ClrI D (clrF p st D) := by
 rw [B5y]
 have key:∀(l:List Int) (x:Doc),ClrI D x→ClrI D (l.foldl (clrU p st D.rc.id) x):=fun l=>by
  induction l with
  | nil=>exact fun x h=>h
  | cons k r ih=>
   intro x h
   rw [List.foldl_cons]
   refine ih _ ?_
   unfold clrU
   split
   ·exact h
   split
   ·exact h
   cases hy:O8 x k with
   | none=>exact h
   | some y=>
    obtain⟨g1,g2,g3⟩:=B9z h.g hy
    show ClrI D y
    exact⟨g1,g2.trans h.rc,g3.trans h.tiers,fun n hn=>h.sub n (C7f hy n hn),fun n hn ht=>C1p h.g (by rw [h.tiers];exact hr) hy (h.word n hn ht) (by rw [h.tiers];exact ht)⟩
 exact key _ _ ⟨hg,rfl,rfl,fun _ h=>h,fun _ h _=>h⟩
end
end Go.Proofs.YtojadfppncgphaaGreatDoor