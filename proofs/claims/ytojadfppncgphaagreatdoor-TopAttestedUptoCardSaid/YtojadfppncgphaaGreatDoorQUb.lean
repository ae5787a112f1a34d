/- Own text. -/
import Derived.Test.YtojadfppncgphaaGreatDoorQYq
set_option linter.all false
set_option maxHeartbeats 16000000
set_option maxRecDepth 8000
namespace Go.Proofs.YtojadfppncgphaaGreatDoor
section
open Go.RowKit Go.En Go.Dl Go.Tp
attribute [local irreducible] X XL XW XG XK Val LS Fp Fo Calls bodyPost Code.wp
abbrev tirD (l:List Tier):Dt:=.s 4 (l.map A0g)
theorem q25S {p:Prop}(h:p:=by first|(simp [one1, *,dB,dI,dS,List.anyB,List.allB,J6];done)|(simp_all [one1,dB,dI,dS,List.anyB,List.allB,J6];done)|(simp_all [one1,dB,dI,dS,List.anyB,List.allB,J6];omega)):p:=h
theorem c229 (k:Int):Fp Tryz.prog 229 [dI k] (dB (J6 k)):=by
 refine fXw Tryz.func229 Tryz.ntmps229 fun c hM=>?_
 (repeat' (first|refine Wz ?_|apply Wd <;>intro hh))
 all_goals (refine rEw hM ?_;exact q25S)
theorem c133 (k:Int):Fp Tryz.prog 133 [dI k] (dB (J6 k)):=by
 refine fXw Tryz.func133 Tryz.ntmps133 fun c hM=>?_
 (repeat' (first|refine Wz ?_|apply Wd <;>intro hh))
 all_goals (refine rEw hM ?_;exact q25S)
theorem c230 (k:Int):Fp Tryz.prog 230 [dI k] (dI (B2y k)):=by
 refine fXw Tryz.func230 Tryz.ntmps230 fun c hM=>?_
 (repeat' (first|refine Wz ?_|apply Wd <;>intro hh))
 all_goals (refine rEw hM ?_;(first|(simp [one1, *,dB,dI,dS,List.anyB,List.allB,B2y];done)|(simp_all [one1,dB,dI,dS,List.anyB,List.allB,B2y];done)|(simp_all [one1,dB,dI,dS,List.anyB,List.allB,B2y];omega)))
theorem c231 (k:Int):Fp Tryz.prog 231 [dI k] (dI (B2d k)):=by
 refine fXw Tryz.func231 Tryz.ntmps231 fun c hM=>?_
 (repeat' (first|refine Wz ?_|apply Wd <;>intro hh))
 all_goals (refine rEw hM ?_;(first|(simp [one1, *,dB,dI,dS,List.anyB,List.allB,B2d];done)|(simp_all [one1,dB,dI,dS,List.anyB,List.allB,B2d];done)|(simp_all [one1,dB,dI,dS,List.anyB,List.allB,B2d];omega)))
theorem B4r {l:List Tier}{i:Int}{q:Tier}(h:l[i.toNat]?=some q):tAt l i=q:=by unfold tAt;rw [h];rfl
theorem q26S {p:Prop}(h:p:=by first|(simp [one1, *,dB,dI,dS,List.anyB,List.allB];done)|(simp_all [one1,dB,dI,dS,List.anyB,List.allB];done)|(simp_all [one1,dB,dI,dS,List.anyB,List.allB];omega)):p:=h
theorem c165 (l : List Tier)(i : Nat)(t : Tier)(hll : l.length ≤ 140737488355328)(ht : l[i]? = some t)(hn : t.name.length ≤ 1048576) : Fp Tryz.prog 165 [tirD l, dI i] (dI (A2i l i t)) := by
 unfold A2i
 have hlt:=(List.getElem?_eq_some_iff.1 ht).1
 obtain⟨b,hb⟩:∃ b,A2n t.name=b:=⟨_,rfl⟩;have cb:=n150 t.name hn;rw [hb] at cb
 refine fXw Tryz.func165 Tryz.ntmps165 fun c hM=>?_
 (repeat' (first|refine iDw (gm ht) ?_|refine cDw C4u cb ?_|refine Wz ?_|(refine Wc (fun hg=>?_) (fun hg=>?_) <;>(first|subst hg|(simp at hg;subst hg)|skip))))
 all_goals (try exact oMw)
 all_goals (try (all_goals (refine rEw hM ?_;exact q26S);done))
 refine X_lp (ι:=Nat) 1073610832 [] (fun k=>[(6,.d (dI k))]) (fun _=>[]) (fun k=>k≤i∧((l).take i).anyB (fun m=>decide (m.name=t.name))=(((l).take i).drop k).anyB (fun m=>decide (m.name=t.name))) (fun k=>i-k) (0) ?_ ?_
 ·exact⟨zLw,rfl⟩
 rintro k ⟨hk,hqk⟩
 by_cases hltk:k<i
 ·obtain⟨m,hm⟩:=gex (l:=l) (i:=k) oEw
  have hmt:((l).take i)[k]?=some m:=by rw [List.getElem?_take_of_lt hltk];exact hm
  rw [drp hmt] at hqk
  (repeat' (first|refine iDw (gm hm) ?_|refine Wz ?_|apply Wd <;>intro hh))
  all_goals (try exact oMw)
  all_goals first
   | exact A0 (k+1) ⟨oEw,by rw [hqk];exact q26S⟩ oEw
   | (refine rEw hM ?_;(try rw [hq]);exact q26S)
 have hzk:i=k:=oEw
 subst hzk
 rw [List.drop_eq_nil_of_le (by rw [List.length_take];omega)] at hqk
 simp only [List.anyB] at hqk
 (repeat' (first|refine Wz ?_|apply Wd <;>intro hh))
 all_goals (try exact oMw)
 all_goals (try (all_goals (refine rEw hM ?_;exact q26S);done))
 all_goals (
  refine X_lp (ι:=Nat) 18446673704965374096 [] (fun k=>[(7,.d (dI k))]) (fun _=>[]) (fun k=>k≤i∧((l).take i).anyB (fun m=>decide (t.role≠0)&&decide (m.role=t.role))=(((l).take i).drop k).anyB (fun m=>decide (t.role≠0)&&decide (m.role=t.role))) (fun k=>i-k) (0) ?_ ?_
  ·exact⟨zLw,rfl⟩
  rintro k ⟨hk,hqk⟩
  by_cases hltk:k<i
  ·obtain⟨m,hm⟩:=gex (l:=l) (i:=k) oEw
   have hmt:((l).take i)[k]?=some m:=by rw [List.getElem?_take_of_lt hltk];exact hm
   rw [drp hmt] at hqk
   (repeat' (first|refine iDw (gm hm) ?_|refine Wz ?_|apply Wd <;>intro hh))
   all_goals (try exact oMw)
   all_goals first
    | exact A0 (k+1) ⟨oEw,by rw [hqk];exact q26S⟩ oEw
    | (refine rEw hM ?_;(try rw [hq]);exact q26S)
  have hzk:i=k:=oEw
  subst hzk
  rw [List.drop_eq_nil_of_le (by rw [List.length_take];omega)] at hqk
  simp only [List.anyB] at hqk
  obtain⟨d,hd⟩:∃ b,J6 t.kind=b:=⟨_,rfl⟩;have cd:=c229 t.kind;rw [hd] at cd
  by_cases hin:0≤t.parent∧t.parent<(i:Int)
  ·obtain⟨q,hq⟩:=gex (l:=l) (i:=t.parent.toNat) oEw
   have htq:=B4r hq
   rw [htq]
   obtain⟨u,hu⟩:∃ b,J6 q.kind=b:=⟨_,rfl⟩;have cu:=c229 q.kind;rw [hu] at cu
   (repeat' (first|refine iDw (gm hq) ?_|refine G_x (A3 Z Z Z D2h (cd) (.eq rfl)) Z Z ?_|refine G_x (A3 Z Z Z D2h (cu) (.eq rfl)) Z Z ?_|refine cDw G0v (c230 t.role) ?_|refine cDw G0u (c231 t.role) ?_|refine Wz ?_|refine Wd (fun hh=>?_) fun hh=>?_|(refine Wg (fun hg=>?_) (fun hg=>?_) <;>(first|subst hg|(simp at hg;subst hg)))|(refine Wc (fun hg=>?_) (fun hg=>?_) <;>(first|subst hg|(simp at hg;subst hg)|skip))))
   all_goals (try exact oMw)
   all_goals (refine rEw hM ?_;exact q26S)
  ·(repeat' (first|refine G_x (A3 Z Z Z D2h (cd) (.eq rfl)) Z Z ?_|refine cDw G0v (c230 t.role) ?_|refine cDw G0u (c231 t.role) ?_|refine Wz ?_|apply Wd <;>intro hh|(refine Wg (fun hg=>?_) (fun hg=>?_) <;>(first|subst hg|(simp at hg;subst hg)))))
   all_goals (try exact oMw)
   all_goals (refine rEw hM ?_;exact q26S))
theorem q27S {p:Prop}(h:p:=by first|(simp [one1, *,dB,dI,dS,List.anyB,List.allB,fstE];done)|(simp_all [one1,dB,dI,dS,List.anyB,List.allB,fstE];done)|(simp_all [one1,dB,dI,dS,List.anyB,List.allB,fstE];omega)):p:=h
theorem c76 (l:List Tier)(hn':∀ t∈l,t.name.length≤1048576):Fp Tryz.prog 76 [tirD l] (dI (A8e l)):=by
 unfold A8e
 refine fXw Tryz.func76 Tryz.ntmps76 fun c hM=>?_
 (repeat' (first|refine Wz ?_|refine Wb fun hb=>?_|apply Wd <;>intro hh))
 all_goals (try exact oMw)
 all_goals (try (all_goals (refine rEw hM ?_;exact q26S);done))
 refine X_lp (ι:=Nat) 1048348 [] (fun i=>[(3,.d (dI i))]) (fun _=>[]) (fun i=>i≤(l).length∧(fun i q=>fstE (A2i l) i q) 0 (l)=(fun i q=>fstE (A2i l) i q) i ((l).drop i)) (fun i=>(l).length-i) (0) ?_ ?_
 ·exact⟨zLw,rfl⟩
 rintro i ⟨hi,hq⟩
 by_cases hlt:i<(l).length
 rotate_left
 ·have hz:i=(l).length:=oEw
  subst hz
  rw [List.drop_eq_nil_of_le (Nat.le_refl _)] at hq
  try dsimp only at hq
  ((repeat' (first|refine Wz ?_|refine Wb fun hb=>?_|apply Wd <;>intro hh)) <;> first|(exfalso;omega)|(all_goals (refine rEw hM ?_;(try rw [hq]);exact q27S)))
 obtain⟨n,hn⟩:=gex hlt
 obtain⟨pv,hp⟩:=gex (l:=l) (i:=i-1) oEw
 have hpr:=B6 hp
 have hmem:=List.mem_of_getElem? hn
 rw [drp hn] at hq
 try dsimp only at hq
 all_goals (repeat' (first|refine cDw G9z (c165 l i n hb hn (hn' n hmem)) ?_|refine Wz ?_|refine Wb fun hb=>?_|apply Wd <;>intro hh))
 all_goals (try exact oMw)
 all_goals first
  | exact A0 (i+1) ⟨oEw,by(try dsimp only);rw [hq];exact q27S⟩ oEw
  | (refine rEw hM ?_;(try rw [hq]);exact q27S)
abbrev notD (l:List Note):Dt:=.s 7 (l.map C4)
theorem C6y {α:Type}{p:α→Bool}{l:List α}{i:Nat}{x:α}(h:l[i]?=some x):(l.take (i+1)).filter p=(l.take i).filter p++(if p x then [x] else []):=by
 rw [List.take_succ,h,Option.toList_some,List.filter_append]
 cases hp:p x <;> simp [hp]
theorem C7j {α:Type}{p:α→Bool}{l:List α}{i:Nat}{x:α}(h:l[i]?=some x):(l.take (i+1)).anyB p=((l.take i).anyB p||p x):=by
 rw [R5,R5,List.take_succ,h,Option.toList_some,List.any_append]
 simp
theorem c168 (d:Doc)(t p:Int)(hdn:d.notes.length≤1048576):Fp Tryz.prog 168 [.g (docC d),dI t,dI p] (notD (sibs d t p)):=by
 unfold sibs
 refine fXw Tryz.func168 Tryz.ntmps168 fun c hM=>?_
 (repeat' ((fail_if_success (refine H7 (x:=(Code.region 2 _ _)) ?_));first|refine G_nd Z Z (L1 _ Z Z Z Z Z) Z ?_|refine Wz ?_|fail))
 (repeat' (first|refine Wz ?_|fail))
 refine X_lp (ι:=Nat × Nat) 8796093021568 [9] (fun q=>[(7,.o 9 q.2),(8,.d (dI q.1))]) (fun q=>[(9,.ls 142 7 q.2 (((d.notes.take q.1).filter fun n=>decide (n.tier=t)&&decide (n.parent=p)).map C4))]) (fun q=>q.1≤d.notes.length) (fun q=>d.notes.length-q.1) ((0,0)) ?_ ?_
 ·exact zLw
 rintro⟨i,ver⟩ hi
 try dsimp only at hi
 have hfl:=List.length_filter_le (fun n:Note=>decide (n.tier=t)&&decide (n.parent=p)) (d.notes.take i)
 rw [List.length_take] at hfl
 by_cases hlt:i<d.notes.length
 ·obtain⟨n,hn⟩:=gex hlt
  have ht:=C6y (p:=fun n:Note=>decide (n.tier=t)&&decide (n.parent=p)) hn
  obtain⟨o,ho⟩:∃ o,o=(d.notes.take i).filter fun n=>decide (n.tier=t)&&decide (n.parent=p):=⟨_,rfl⟩
  rw [← ho] at ht hfl ⊢
  try dsimp only at ht
  by_cases hP:n.tier=t∧n.parent=p
  ·rw [if_pos (by simp [hP])] at ht
   (repeat' (first|refine iDw (gm hn) ?_|refine Wz ?_|refine Wb fun hb=>?_|apply Wd <;>intro hh))
   all_goals (try exact oMw)
   exact A0 (i+1,ver+1) (oDw) (oDw) (hh:=by dsimp only;rw [ht];exact A1 (by show some _=some _;simp [C4];done) (A4 _))
  ·rw [if_neg (by simpa using hP),List.append_nil] at ht
   (repeat' (first|refine iDw (gm hn) ?_|refine Wz ?_|refine Wb fun hb=>?_|apply Wd <;>intro hh))
   all_goals (try exact oMw)
   all_goals exact A0 (i+1,ver) (oDw) (oDw) (hh:=by dsimp only;rw [ht];exact A1 Z (A4 _))
 ·have hz:i=d.notes.length:=oEw
  subst hz
  rw [List.take_length] at hfl ⊢
  (repeat' (first|refine Wz ?_|refine Wb fun hb=>?_|apply Wd <;>intro hh))
  all_goals (try exact oMw)
  refine B9 6 Z Z lOw ?_
  exact rXw hM
theorem c170 (l:List Note)(hdn:l.length≤1048576):Fp Tryz.prog 170 [notD l] (spnD (l.map spOf)):=by
 refine fXw Tryz.func170 Tryz.ntmps170 fun c hM=>?_
 (repeat' ((fail_if_success (refine H7 (x:=(Code.region 2 _ _)) ?_));first|refine G_nd Z Z (L1 _ Z Z Z Z Z) Z ?_|refine Wz ?_|fail))
 (repeat' (first|refine Wz ?_|fail))
 refine X_lp (ι:=Nat × Nat) 1048536 [5] (fun q=>[(3,.o 5 q.2),(4,.d (dI q.1))]) (fun q=>[(5,.ls 82 2 q.2 (((l.take q.1).map spOf).map spnC))]) (fun q=>q.1≤l.length) (fun q=>l.length-q.1) ((0,0)) ?_ ?_
 ·exact zLw
 rintro⟨i,ver⟩ hi
 try dsimp only at hi
 by_cases hlt:i<l.length
 ·obtain⟨n,hn⟩:=gex hlt
  (repeat' (first|refine iDw (gm hn) ?_|refine Wz ?_|refine Wb fun hb=>?_|apply Wd <;>intro hh))
  all_goals (try exact oMw)
  exact A0 (i+1,ver+1) (by(try dsimp only);omega) (by(try dsimp only);omega) (hh:=by(try dsimp only);exact A1 (by show some _=some _;rw [List.take_succ,hn];simp [spnC,spOf,dI];done) (A4 _))
 ·have hz:i=l.length:=oEw
  subst hz
  rw [List.take_length]
  (repeat' (first|refine Wz ?_|refine Wb fun hb=>?_|apply Wd <;>intro hh))
  all_goals (try exact oMw)
  refine B9 2 Z Z lOw ?_
  exact rXw hM
theorem q28S {p:Prop}(h:p:=by first|(simp [one1, *,dB,dI,dS,List.anyB,List.allB,allI];done)|(simp_all [one1,dB,dI,dS,List.anyB,List.allB,allI];done)|(simp_all [one1,dB,dI,dS,List.anyB,List.allB,allI];omega)):p:=h
theorem c169 (l : List Note) : Fp Tryz.prog 169 [notD l] (dB (!ovB l)) := by
 unfold ovB
 refine fXw Tryz.func169 Tryz.ntmps169 fun c hM=>?_
 (repeat' (first|refine Wz ?_|fail))
 refine X_lp (ι:=Nat) 17592186044412 [] (fun i=>[(3,.d (dI i))]) (fun _=>[]) (fun i=>i≤(l).length∧(fun i q=>allI (fun i n=>!((l.take i).anyB fun k=>decide (n.frm<k.til)&&decide (k.frm<n.til))) i q) 0 (l)=(fun i q=>allI (fun i n=>!((l.take i).anyB fun k=>decide (n.frm<k.til)&&decide (k.frm<n.til))) i q) i ((l).drop i)) (fun i=>(l).length-i) (0) ?_ ?_
 ·exact⟨zLw,rfl⟩
 rintro i ⟨hi,hq⟩
 by_cases hlt:i<(l).length
 rotate_left
 ·have hz:i=(l).length:=oEw
  subst hz
  rw [List.drop_eq_nil_of_le (Nat.le_refl _)] at hq
  try dsimp only at hq
  ((repeat' (first|refine Wz ?_|refine Wb fun hb=>?_|apply Wd <;>intro hh)) <;> first|(exfalso;omega)|(all_goals (refine rEw hM ?_;(try rw [hq]);exact q28S)))
 obtain⟨n,hn⟩:=gex hlt
 obtain⟨pv,hp⟩:=gex (l:=l) (i:=i-1) oEw
 have hpr:=B6 hp
 have hmem:=List.mem_of_getElem? hn
 rw [drp hn] at hq
 try dsimp only at hq
 (repeat' (first|refine Wz ?_|refine Wb fun hb=>?_|apply Wd <;>intro hh))
 all_goals (try exact oMw)
 all_goals (
  refine X_lp (ι:=Nat) 17592186042388 [] (fun k=>[(4,.d (dI k))]) (fun _=>[]) (fun k=>k≤i∧((l).take i).anyB (fun m=>decide (n.frm<m.til)&&decide (m.frm<n.til))=(((l).take i).drop k).anyB (fun m=>decide (n.frm<m.til)&&decide (m.frm<n.til))) (fun k=>i-k) (0) ?_ ?_
  ·exact⟨zLw,rfl⟩
  rintro k ⟨hk,hqk⟩
  by_cases hltk:k<i
  ·obtain⟨m,hm⟩:=gex (l:=l) (i:=k) oEw
   have hmt:((l).take i)[k]?=some m:=by rw [List.getElem?_take_of_lt hltk];exact hm
   rw [drp hmt] at hqk
   (repeat' (first|refine iDw (gm hm) ?_|refine iDw (gm hn) ?_|refine Wz ?_|apply Wd <;>intro hh))
   all_goals (try exact oMw)
   all_goals first
    | exact A0 (k+1) ⟨oEw,by rw [hqk];exact q28S⟩ oEw
    | (refine rEw hM ?_;(try rw [hq]);exact q28S)
  have hzk:i=k:=oEw
  subst hzk
  rw [List.drop_eq_nil_of_le (by rw [List.length_take];omega)] at hqk
  simp only [List.anyB] at hqk
  (repeat' (first|refine Wz ?_|apply Wd <;>intro hh))
  all_goals (try exact oMw)
  all_goals first
   | exact A0 (i+1) ⟨oEw,by(try dsimp only);rw [hq];exact q28S⟩ oEw
   | (refine rEw hM ?_;(try rw [hq]);exact q28S))
theorem D6g {m i n:Nat}(h:(List.range m)[i]?=some n):n=i:=by
 rw [List.getElem?_range (by have:=(List.getElem?_eq_some_iff.1 h).1;simpa using this)] at h
 exact(Option.some.inj h).symm
theorem c171 (l:List Note):Fp Tryz.prog 171 [notD l] (dB (C3b l)):=by
 unfold C3b
 have hrl:(List.range l.length).length=l.length:=List.length_range
 refine fXw Tryz.func171 Tryz.ntmps171 fun c hM=>?_
 (repeat' (first|refine Wz ?_|fail))
 refine X_lp (ι:=Nat) 1073741820 [] (fun i=>[(3,.d (dI i))]) (fun _=>[]) (fun i=>i≤(List.range l.length).length∧(fun _ q=>q.allB fun n=>l.anyB fun x=>decide (x.rank=(n:Int))) 0 (List.range l.length)=(fun _ q=>q.allB fun n=>l.anyB fun x=>decide (x.rank=(n:Int))) i ((List.range l.length).drop i)) (fun i=>(List.range l.length).length-i) (0) ?_ ?_
 ·exact⟨zLw,rfl⟩
 rintro i ⟨hi,hq⟩
 by_cases hlt:i<(List.range l.length).length
 rotate_left
 ·have hz:i=(List.range l.length).length:=oEw
  subst hz
  rw [List.drop_eq_nil_of_le (Nat.le_refl _)] at hq
  try dsimp only at hq
  ((repeat' (first|refine Wz ?_|refine Wb fun hb=>?_|apply Wd <;>intro hh)) <;> first|(exfalso;omega)|(all_goals (refine rEw hM ?_;(try rw [hq]);(first|(simp [one1, *,dB,dI,dS,List.anyB,List.allB];done)|(simp_all [one1,dB,dI,dS,List.anyB,List.allB];done)|(simp_all [one1,dB,dI,dS,List.anyB,List.allB];omega)))))
 obtain⟨n,hn⟩:=gex hlt
 obtain⟨pv,hp⟩:=gex (l:=List.range l.length) (i:=i-1) oEw
 have hpr:=B6 hp
 have hmem:=List.mem_of_getElem? hn
 rw [drp hn] at hq
 try dsimp only at hq
 have hni:=D6g hn
 subst hni
 (repeat' (first|refine Wz ?_|refine Wb fun hb=>?_|apply Wd <;>intro hh))
 all_goals (try exact oMw)
 all_goals (
  refine X_lp (ι:=Nat) 268431408 [] (fun k=>[(4,.d (dB ((l.take k).anyB fun x=>decide (x.rank=(n:Int))))),(5,.d (dI k))]) (fun _=>[]) (fun k=>k≤l.length) (fun k=>l.length-k) (0) ?_ ?_
  ·exact zLw
  rintro k hk
  by_cases hlk:k<l.length
  ·obtain⟨m,hm⟩:=gex hlk
   have ht:=C7j (p:=fun x:Note=>decide (x.rank=(n:Int))) hm
   try dsimp only at ht
   obtain⟨fb,hfb⟩:∃ fb,(l.take k).anyB (fun x=>decide (x.rank=(n:Int)))=fb:=⟨_,rfl⟩
   rw [hfb] at ht ⊢
   (repeat' (first|refine iDw (gm hm) ?_|refine Wz ?_|refine Wb fun hb=>?_|refine Wd (fun hh=>?_) fun hh=>?_|(refine Wg (fun hg=>?_) (fun hg=>?_) <;>(first|subst hg|(simp at hg;subst hg)))|(refine Wc (fun hg=>?_) (fun hg=>?_) <;>(first|subst hg|(simp at hg;subst hg)|skip))))
   all_goals (try exact oMw)
   all_goals exact A0 (k+1) oEw oEw (by rw [ht];exact A6 (by first|rfl|(show some (Lf.d (dB _))=some (Lf.d (dB _));simp [*];done)) (A6 Z (B8 _)))
  ·have hz:k=l.length:=oEw
   subst hz
   rw [List.take_length]
   obtain⟨fb,hfb⟩:∃ fb,l.anyB (fun x=>decide (x.rank=(n:Int)))=fb:=⟨_,rfl⟩
   rw [hfb]
   (repeat' (first|refine Wz ?_|refine Wb fun hb=>?_|refine Wd (fun hh=>?_) fun hh=>?_|(refine Wg (fun hg=>?_) (fun hg=>?_) <;>(first|subst hg|(simp at hg;subst hg)))|(refine Wc (fun hg=>?_) (fun hg=>?_) <;>(first|subst hg|(simp at hg;subst hg)|skip))))
   all_goals (try exact oMw)
   all_goals first
    | exact A0 (n+1) ⟨oEw,by(try dsimp only);rw [hq];simp [List.allB,hfb]⟩ oEw
    | (refine rEw hM ?_;rw [hq];simp [one1,dB,List.allB,hfb]))
theorem D5v {d:Doc}{n:Note}(h1:0≤n.tier)(h2:n.tier<(d.tiers.length:Int)):∃ t,d.tiers[n.tier.toNat]?=some t∧tAt d.tiers n.tier=t:=by
 obtain⟨t,ht⟩:=gex (l:=d.tiers) (i:=n.tier.toNat) oEw
 exact⟨t,ht,B4r ht⟩
theorem n132 (d:Doc)(id:Int):Fp Tryz.prog 132 [.g (docC d),dI id] (fRes C4 L9 (getN d.notes id)):=c132 d id
theorem c167 (d:Doc)(n:Note)(h1:0≤n.tier)(h2:n.tier<(d.tiers.length:Int)):Fp Tryz.prog 167 [.g (docC d),.g (C4 n)] (dI (Z3 d n)):=by
 unfold Z3 Go.Proofs.YtojadfppncgphaaGreatDoor.getD
 obtain⟨t,ht,htt⟩:=D5v h1 h2
 rw [htt]
 obtain⟨z,hz⟩:∃ z,(decide (n.frm=0)&&decide (n.til=0))=z:=⟨_,rfl⟩
 rw [hz]
 have hz2:(!(decide (n.frm=0)&&decide (n.til=0)))=!z:=by rw [hz]
 clear hz
 obtain⟨u,hu⟩:∃ b,J6 t.kind=b:=⟨_,rfl⟩;have cu:=c133 t.kind;rw [hu] at cu;obtain⟨v,hv⟩:∃ b,A5 (spOf n)=b:=⟨_,rfl⟩;have cv:=c60 (spOf n);rw [hv] at cv
 rw [hu,hv]
 clear hu hv
 obtain⟨p,hp⟩:∃ p,getN d.notes n.parent=p:=⟨_,rfl⟩
 have cp:=n132 d n.parent
 rw [hp] at cp ⊢
 obtain⟨ps,hps⟩:∃ ps,p.isSome=ps:=⟨_,rfl⟩
 obtain⟨pt,hpt⟩:∃ pt,p.getD L9=pt:=⟨_,rfl⟩
 have cq:Fp Tryz.prog 132 [.g (docC d),dI n.parent] (.t [.g (C4 pt),dB ps]):=by
  rw [← hps,← hpt]
  cases p <;> exact cp
 rw [hps,hpt]
 clear cp hp hps hpt
 refine fXw Tryz.func167 Tryz.ntmps167 fun c hM=>?_
 (repeat' ((fail_if_success (refine H7 (x:=(Code.region 3 _ _)) ?_));first|refine iDw (gm ht) ?_|refine cDw C4w cq ?_|refine Wz ?_|fail))
 refine X_jb 35184369991680 [] 44 (((decide (t.kind=0)&&decide (n.parent≠0))||(decide (t.kind≠0)&&(!ps||decide (pt.tier≠t.parent))))=true) ?_ ?_
 ·(repeat' (first|refine Wz ?_|apply Wd <;>intro hh|(refine Wg (fun hg=>?_) (fun hg=>?_) <;>(first|subst hg|(simp at hg;subst hg)))))
  all_goals (try exact oMw)
  all_goals refine B0l _ ?_ (hf:=rfl) (hF:=by(repeat (refine H5 Z ?_));first|exact H4 _|exact O7) (hH:=by(repeat (first|refine G8 Z ?_|refine G7 Z ?_));first|exact G6 _|exact O6)
  all_goals (first|(simp [*];done)|(simp_all;done)|(simp_all;omega)|(constructor <;> intros <;> simp_all <;> omega))
 intro b hb
 cases b
 rotate_left
 ·rw [if_pos (hb.1 rfl)]
  (repeat' (first|refine Wz ?_|fail))
  all_goals exact rXw hM
 rw [if_neg (fun h=>Bool.noConfusion (hb.2 h))]
 clear hb
 (repeat' ((fail_if_success (refine H7 (x:=(Code.region 5 _ _)) ?_));first|refine Wz ?_|fail))
 refine X_jb 73786941110466117632 [] 65 (((!u&&!z)||(u&&!v))=true) ?_ ?_
 ·(repeat' (first|refine cDw B9d cu ?_|refine cDw en60 cv ?_|refine G_x (C3r B1k Z Z Z hz2) Z Z ?_|refine Wz ?_|(refine Wg (fun hg=>?_) (fun hg=>?_) <;>(first|subst hg|(simp at hg;subst hg)))))
  all_goals (try exact oMw)
  all_goals refine B0l _ ?_ (hf:=rfl) (hF:=by(repeat (refine H5 Z ?_));first|exact H4 _|exact O7) (hH:=by(repeat (first|refine G8 Z ?_|refine G7 Z ?_));first|exact G6 _|exact O6)
  all_goals (first|(simp [*];done)|(simp_all;done)|(simp_all;omega)|(constructor <;> intros <;> simp_all <;> omega))
 intro b hb
 cases b
 rotate_left
 ·rw [if_pos (hb.1 rfl)]
  (repeat' (first|refine Wz ?_|fail))
  all_goals exact rXw hM
 rw [if_neg (fun h=>Bool.noConfusion (hb.2 h))]
 clear hb
 (repeat' ((fail_if_success (refine H7 (x:=(Code.region 7 _ _)) ?_));first|refine Wz ?_|fail))
 refine X_jb 302157667927362455470080 [] 77 (t.kind=0∧d.rc.len<n.til) ?_ ?_
 ·(repeat' (first|refine Wz ?_|apply Wd <;>intro hh))
  all_goals (try exact oMw)
  all_goals refine B0l _ ?_ (hf:=rfl) (hF:=by(repeat (refine H5 Z ?_));first|exact H4 _|exact O7) (hH:=by(repeat (first|refine G8 Z ?_|refine G7 Z ?_));first|exact G6 _|exact O6)
  all_goals (first|(simp [*];done)|(simp_all;done)|(simp_all;omega)|(constructor <;> intros <;> simp_all <;> omega))
 intro b hb
 cases b
 rotate_left
 ·rw [if_pos (hb.1 rfl)]
  (repeat' (first|refine Wz ?_|fail))
  all_goals exact rXw hM
 rw [if_neg (fun h=>Bool.noConfusion (hb.2 h))]
 clear hb
 (repeat' ((fail_if_success (refine H7 (x:=(Code.region 9 _ _)) ?_));first|refine Wz ?_|fail))
 refine X_jb 20282409301420215520289957609472 [] 103 (u=true∧t.kind≠0∧(n.frm<pt.frm∨pt.til<n.til)) ?_ ?_
 ·(repeat' (first|refine cDw B9d cu ?_|refine Wz ?_|apply Wd <;>intro hh|(refine Wg (fun hg=>?_) (fun hg=>?_) <;>(first|subst hg|(simp at hg;subst hg)))))
  all_goals (try exact oMw)
  all_goals refine B0l _ ?_ (hf:=rfl) (hF:=by(repeat (refine H5 Z ?_));first|exact H4 _|exact O7) (hH:=by(repeat (first|refine G8 Z ?_|refine G7 Z ?_));first|exact G6 _|exact O6)
  all_goals (first|(simp [*];done)|(simp_all;done)|(simp_all;omega)|(constructor <;> intros <;> simp_all <;> omega))
 intro b hb
 cases b
 rotate_left
 ·rw [if_pos (hb.1 rfl)]
  (repeat' (first|refine Wz ?_|fail))
  all_goals exact rXw hM
 rw [if_neg (fun h=>Bool.noConfusion (hb.2 h))]
 clear hb
 (repeat' ((fail_if_success (refine H7 (x:=(Code.region 11 _ _)) ?_));first|refine Wz ?_|fail))
 refine X_jb 166133217063510832442551935283757056 [] 116 (n.rank<0∨(n.rank≠0∧t.kind≠3)) ?_ ?_
 ·(repeat' (first|refine Wz ?_|apply Wd <;>intro hh))
  all_goals (try exact oMw)
  all_goals refine B0l _ ?_ (hf:=rfl) (hF:=by(repeat (refine H5 Z ?_));first|exact H4 _|exact O7) (hH:=by(repeat (first|refine G8 Z ?_|refine G7 Z ?_));first|exact G6 _|exact O6)
  all_goals (first|(simp [*];done)|(simp_all;done)|(simp_all;omega)|(constructor <;> intros <;> simp_all <;> omega))
 intro b hb
 cases b
 rotate_left
 ·rw [if_pos (hb.1 rfl)]
  (repeat' (first|refine Wz ?_|fail))
  all_goals exact rXw hM
 rw [if_neg (fun h=>Bool.noConfusion (hb.2 h))]
 clear hb
 (repeat' (first|refine Wz ?_|fail))
 exact rXw hM
theorem c77 (d:Doc)(i:Nat)(n:Note)(hn:d.notes[i]?=some n)(ht:n.text.length≤1048576)(hdn:d.notes.length≤1048576):Fp Tryz.prog 77 [.g (docC d),dI i] (dI (A8v d i n)):=by
 unfold A8v orE
 have hlt:=(List.getElem?_eq_some_iff.1 hn).1
 obtain⟨pv,hp⟩:=gex (l:=d.notes) (i:=i-1) oEw
 have hpr:=B6 hp
 refine fXw Tryz.func77 Tryz.ntmps77 fun c hM=>?_
 (repeat' (first|refine iDw (gm hn) ?_|refine iDw (gm hp) ?_|refine cDw D2o (c166 n.text ht) ?_|refine cDw G9y (c167 d n oEw oEw) ?_|refine Wz ?_|refine Wb fun hb=>?_|apply Wd <;>intro hh))
 all_goals (try exact oMw)
 all_goals (refine rEw hM ?_;(first|(simp [one1, *,dB,dI,dS,List.anyB,List.allB];done)|(simp_all [one1,dB,dI,dS,List.anyB,List.allB];done)|(simp_all [one1,dB,dI,dS,List.anyB,List.allB];omega)))
theorem c78 (d : Doc)(t : Nat)(ht : t < d.tiers.length)(hdn : d.notes.length ≤ 1048576) : Fp Tryz.prog 78 [.g (docC d), dI t] (dI (W6 d t 0 d.notes)) := by
 obtain⟨q,hq⟩:=gex ht
 have htq:tAt d.tiers (t:Int)=q:=B4r (by simpa using hq)
 obtain⟨u,hu⟩:∃ b,J6 q.kind=b:=⟨_,rfl⟩;have cu:=c133 q.kind;rw [hu] at cu
 refine fXw Tryz.func78 Tryz.ntmps78 fun c hM=>?_
 (repeat' (first|refine iDw (gm hq) ?_|refine Wz ?_|fail))
 refine X_lp (ι:=Int × Nat) 75557863725914323161040 [] (fun x=>[(6,.d (dI x.1)),(7,.d (dI x.2))]) (fun _=>[]) (fun x=>x.2≤d.notes.length∧W6 d t 0 d.notes=W6 d t x.1 (d.notes.drop x.2)) (fun x=>d.notes.length-x.2) ((0,0)) ?_ ?_
 ·exact⟨zLw,rfl⟩
 rintro⟨out,i⟩ ⟨hi,hg⟩
 dsimp only at hi hg
 by_cases hlt:i<d.notes.length
 ·obtain⟨n,hn⟩:=gex hlt
  rw [drp hn,W6,htq,hu] at hg
  have hsl:(sibs d t n.parent).length≤d.notes.length:=List.length_filter_le ..
  obtain⟨s,hs⟩:∃ s,sibs d t n.parent=s:=⟨_,rfl⟩
  have c1:=c168 d t n.parent hdn
  rw [hs] at c1 hg hsl
  have c4:=c170 s oEw
  obtain⟨v,hv⟩:∃ b,ovB s=b:=⟨_,rfl⟩;have cv:=c169 s;rw [hv] at cv;obtain⟨r,hr⟩:∃ b,C3b s=b:=⟨_,rfl⟩;have cr:=c171 s;rw [hr] at cr;obtain⟨e,he⟩:∃ b,covS (s.map spOf) (spOf (Go.Proofs.YtojadfppncgphaaGreatDoor.getD d n.parent))=b:=⟨_,rfl⟩;have ce:=c61 (s.map spOf) (spOf (Go.Proofs.YtojadfppncgphaaGreatDoor.getD d n.parent));rw [he] at ce
  rw [hv,hr,he] at hg
  unfold Go.Proofs.YtojadfppncgphaaGreatDoor.getD at ce
  have c2:=n132 d n.parent
  obtain⟨p,hp⟩:∃ p,getN d.notes n.parent=p:=⟨_,rfl⟩
  rw [hp] at c2 ce
  obtain⟨pt,hpt⟩:∃ pt,p.getD L9=pt:=⟨_,rfl⟩
  obtain⟨ps,hps⟩:∃ ps,p.isSome=ps:=⟨_,rfl⟩
  have cq:Fp Tryz.prog 132 [.g (docC d),dI n.parent] (.t [.g (C4 pt),dB ps]):=by
   rw [← hps,← hpt]
   cases p <;> exact c2
  rw [hpt] at ce
  by_cases hk:n.tier=t
  ·rw [if_neg (by simpa using hk)] at hg
   (repeat' ((fail_if_success (refine H7 (x:=(Code.region 9 _ _)) ?_));first|refine iDw (gm hn) ?_|refine cDw G9x c1 ?_|refine Wz ?_|refine Wb fun hb=>?_|refine Wd (fun hh=>?_) fun hh=>?_))
   all_goals (try exact oMw)
   refine X_jb 34634616274944 [] 44 (u=true∧v=false) ?_ ?_
   ·(repeat' (first|refine cDw B9d cu ?_|refine cDw G9w cv ?_|refine Wz ?_|(refine Wg (fun hg=>?_) (fun hg=>?_) <;>(first|subst hg|(simp at hg;subst hg)))))
    all_goals refine B0l _ ?_ (hf:=rfl) (hF:=by(repeat (refine H5 Z ?_));first|exact H4 _|exact O7) (hH:=by(repeat (first|refine G8 Z ?_|refine G7 Z ?_));first|exact G6 _|exact O6)
    all_goals (first|(simp [*];done)|(simp_all;done))
   intro b1 hb1
   cases b1
   rotate_left
   ·rw [if_pos (hb1.1 rfl)] at hg
    (repeat' (first|refine Wz ?_|fail))
    refine rEw hM ?_
    rw [hg]
    rfl
   rw [if_neg (fun h=>Bool.noConfusion (hb1.2 h))] at hg
   (repeat' ((fail_if_success (refine H7 (x:=(Code.seq (Code.region 12 _ _) _)) ?_));first|refine cDw C4w cq ?_|refine Wz ?_|fail))
   obtain⟨v1,hv1⟩:∃ v1:Int,(if q.kind=1∧e=false then 16 else out)=v1:=⟨_,rfl⟩
   rw [hv1] at hg
   refine X_jn 4607182418800017472 [] [(6,.d (dI v1))] [] ?_ ?_
   ·(repeat' (first|refine cDw G9v c4 ?_|refine cDw en61 ce ?_|refine Wz ?_|refine Wd (fun hh=>?_) fun hh=>?_|(refine Wc (fun hg=>?_) (fun hg=>?_) <;>(first|subst hg|(simp at hg;subst hg)|skip))))
    all_goals exact A6w (hf:=A6 (congrArg (fun z:Int=>some (Lf.d (dI z))) (by rw [← hv1];simp [*])) (B8 _)) (hF:=by(repeat (refine H5 Z ?_));first|exact H4 _|exact O7) (hH:=by(repeat (first|refine G8 Z ?_|refine G7 Z ?_));first|exact G6 _|exact O6)
   skip
   obtain⟨v2,hv2⟩:∃ v2:Int,(if q.kind=3∧r=false then 10 else v1)=v2:=⟨_,rfl⟩
   rw [hv2] at hg
   refine X_jn 585684124340278263872 [] [(6,.d (dI v2))] [] ?_ ?_
   ·(repeat' (first|refine cDw G9u cr ?_|refine Wz ?_|refine Wd (fun hh=>?_) fun hh=>?_|(refine Wc (fun hg=>?_) (fun hg=>?_) <;>(first|subst hg|(simp at hg;subst hg)|skip))))
    all_goals exact A6w (hf:=A6 (congrArg (fun z:Int=>some (Lf.d (dI z))) (by rw [← hv2];simp [*])) (B8 _)) (hF:=by(repeat (refine H5 Z ?_));first|exact H4 _|exact O7) (hH:=by(repeat (first|refine G8 Z ?_|refine G7 Z ?_));first|exact G6 _|exact O6)
   (repeat' (first|refine Wz ?_|refine Wb fun hb=>?_|apply Wd <;>intro hh))
   ·rw [if_pos ⟨by assumption,oEw⟩] at hg
    exact A0 (8,i+1) ⟨oDw,hg⟩ (oDw) (hf:=A6 Z (A6 Z (B8 _)))
   ·rw [if_neg (fun h=>by omega)] at hg
    exact A0 (v2,i+1) ⟨oDw,hg⟩ (oDw) (hf:=A6 Z (A6 Z (B8 _)))
   ·rw [if_neg (fun h=>by omega)] at hg
    exact A0 (v2,i+1) ⟨oDw,hg⟩ (oDw) (hf:=A6 Z (A6 Z (B8 _)))
  ·rw [if_pos (by simpa using hk)] at hg
   (repeat' (first|refine iDw (gm hn) ?_|refine Wz ?_|refine Wb fun hb=>?_|apply Wd <;>intro hh))
   all_goals (try exact oMw)
   all_goals exact A0 (out,i+1) ⟨oDw,hg⟩ (oDw)
 ·(repeat' (first|refine Wz ?_|refine Wb fun hb=>?_|apply Wd <;>intro hh))
  all_goals (try exact oMw)
  rw [hg,List.drop_eq_nil_of_le oEw,W6]
  exact rXw hM
theorem q29S {p:Prop}(h:p:=by first|(simp [one1, *,dB,dI,dS,List.anyB,List.allB];done)|(simp_all [one1,dB,dI,dS,List.anyB,List.allB];done)|(simp_all [one1,dB,dI,dS,List.anyB,List.allB];omega)):p:=h
theorem q30S {p:Prop}(h:p:=by first|(simp [one1, *,dB,dI,dS,List.anyB,List.allB,fstE];done)|(simp_all [one1,dB,dI,dS,List.anyB,List.allB,fstE];done)|(simp_all [one1,dB,dI,dS,List.anyB,List.allB,fstE];omega)):p:=h
theorem c28 (d : Doc)(h1 : ∀ t ∈ d.tiers, t.name.length ≤ 1048576)(h2 : ∀ n ∈ d.notes, n.text.length ≤ 1048576) : Fp Tryz.prog 28 [.g (docC d)] (dI (docE d)) := by
 unfold docE orE
 refine fXw Tryz.func28 Tryz.ntmps28 fun c hM=>?_
 (repeat' (first|refine cDw en76 (c76 d.tiers h1) ?_|refine Wz ?_|refine Wb fun hb=>?_|apply Wd <;>intro hh))
 all_goals (try exact oMw)
 all_goals (try (all_goals (refine rEw hM ?_;exact q29S);done))
 all_goals (
  refine X_lp (ι:=Nat) 2198754820148 [] (fun i=>[(4,.d (dI i))]) (fun _=>[]) (fun i=>i≤(d.notes).length∧(fun i q=>fstE (A8v d) i q) 0 (d.notes)=(fun i q=>fstE (A8v d) i q) i ((d.notes).drop i)) (fun i=>(d.notes).length-i) (0) ?_ ?_
  ·exact⟨zLw,rfl⟩
  rintro i ⟨hi,hq⟩
  by_cases hlt:i<(d.notes).length
  rotate_left
  ·have hz:i=(d.notes).length:=oEw
   subst hz
   rw [List.drop_eq_nil_of_le (Nat.le_refl _)] at hq
   try dsimp only at hq
   have h3:=hq
   clear hq
   rw [fstE] at h3
   (repeat' (first|refine Wz ?_|refine Wb fun hb=>?_|apply Wd <;>intro hh))
   all_goals (try exact oMw)
   refine X_lp (ι:=Nat) 18012199486226628 [] (fun i=>[(6,.d (dI i))]) (fun _=>[]) (fun i=>i≤(d.tiers).length∧(fun i q=>fstE (fun t _=>W6 d (t:Int) 0 d.notes) i q) 0 (d.tiers)=(fun i q=>fstE (fun t _=>W6 d (t:Int) 0 d.notes) i q) i ((d.tiers).drop i)) (fun i=>(d.tiers).length-i) (0) ?_ ?_
   ·exact⟨zLw,rfl⟩
   rintro i ⟨hi,hq⟩
   by_cases hlt:i<(d.tiers).length
   rotate_left
   ·have hz:i=(d.tiers).length:=oEw
    subst hz
    rw [List.drop_eq_nil_of_le (Nat.le_refl _)] at hq
    try dsimp only at hq
    ((repeat' (first|refine Wz ?_|refine Wb fun hb=>?_|apply Wd <;>intro hh)) <;> first|(exfalso;omega)|(all_goals (refine rEw hM ?_;(try rw [hq]);exact q30S)))
   obtain⟨n,hn⟩:=gex hlt
   obtain⟨pv,hp⟩:=gex (l:=d.tiers) (i:=i-1) oEw
   have hpr:=B6 hp
   have hmem:=List.mem_of_getElem? hn
   rw [drp hn] at hq
   try dsimp only at hq
   all_goals (repeat' (first|refine cDw en78 (c78 d i hlt oEw) ?_|refine Wz ?_|refine Wb fun hb=>?_|apply Wd <;>intro hh))
   all_goals (try exact oMw)
   all_goals first
    | exact A0 (i+1) ⟨oEw,by(try dsimp only);rw [hq];exact q30S⟩ oEw
    | (refine rEw hM ?_;(try rw [hq]);exact q30S)
  obtain⟨n,hn⟩:=gex hlt
  obtain⟨pv,hp⟩:=gex (l:=d.notes) (i:=i-1) oEw
  have hpr:=B6 hp
  have hmem:=List.mem_of_getElem? hn
  rw [drp hn] at hq
  try dsimp only at hq
  all_goals (repeat' (first|refine cDw en77 (c77 d i n hn (h2 n hmem) oEw) ?_|refine Wz ?_|refine Wb fun hb=>?_|apply Wd <;>intro hh))
  all_goals (try exact oMw)
  all_goals first
   | exact A0 (i+1) ⟨oEw,by(try dsimp only);rw [hq];exact q30S⟩ oEw
   | (refine rEw hM ?_;(try rw [hq]);exact q30S))
theorem c24 (d:Doc)(h1:∀ t∈d.tiers,t.name.length≤1048576)(h2:∀ n∈d.notes,n.text.length≤1048576):Fp Tryz.prog 24 [.g (docC d)] (dB (docL d)):=by
 unfold docL
 refine fXw Tryz.func24 Tryz.ntmps24 fun c hM=>?_
 (repeat' (first|refine cDw en28 (c28 d h1 h2) ?_|refine Wz ?_|refine Wb fun hb=>?_|apply Wd <;>intro hh))
 all_goals (try exact oMw)
 all_goals (refine rEw hM ?_;exact q29S)
end
end Go.Proofs.YtojadfppncgphaaGreatDoor