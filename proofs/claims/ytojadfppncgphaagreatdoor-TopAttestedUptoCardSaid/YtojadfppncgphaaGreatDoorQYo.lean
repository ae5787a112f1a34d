/- Own text. -/
import Derived.Test.YtojadfppncgphaaGreatDoorQYn
set_option linter.all false
set_option maxHeartbeats 16000000
set_option maxRecDepth 8000
namespace Go.Proofs.YtojadfppncgphaaGreatDoor
section
open Go.RowKit Go.En Go.Dl Go.Tp
attribute [local irreducible] X XL XW XG XK Val LS Fp Fo Calls bodyPost Code.wp
abbrev grps (l:List Grp):Dt:=.s 4 (l.map grpC)
theorem gix (l:List Grp)(id:Int):(ixF (fun x=>decide (x.id=id)) l 0 = -1∧grpF l id=none)∨∃(i:Nat) (g:Grp),ixF (fun x=>decide (x.id=id)) l 0=(i:Int)∧l[i]?=some g∧grpF l id=some g:=by
 rcases Q5 (fun x:Grp=>decide (x.id=id)) l 0 with h|⟨i,x,h1,h2,h3⟩
 ·exact .inl h
 ·exact .inr ⟨i,x,by simpa using h1,h2,h3⟩
theorem q11S {p:Prop}(h:p:=by first|(simp [one1, *,dB,dI,dS,List.anyB,List.allB];done)|(simp_all [one1,dB,dI,dS,List.anyB,List.allB];done)|(simp_all [one1,dB,dI,dS,List.anyB,List.allB];omega)):p:=h
theorem c236 (l:List Grp)(a:Int):Fp Tryz.prog 236 [grps l,dI a] ((fun _ l=>dB (l.anyB fun x=>decide (x.id=a))) 0 l):=by
 refine fXw Tryz.func236 Tryz.ntmps236 fun c hM=>?_
 (repeat' (first|refine Wz ?_|fail))
 refine X_lp (ι:=Nat) 524272 [] (fun i=>[(5,.d (dI i))]) (fun _=>[]) (fun i=>i≤l.length∧(fun _ l=>dB (l.anyB fun x=>decide (x.id=a))) 0 l=(fun _ l=>dB (l.anyB fun x=>decide (x.id=a))) i (l.drop i)) (fun i=>l.length-i) (0) ?_ ?_
 ·exact⟨zLw,rfl⟩
 rintro i ⟨hi,hq⟩
 by_cases hlt:i<l.length
 ·obtain⟨n,hn⟩:=gex hlt
  (repeat' (first|refine iDw (gm hn) ?_|refine Wz ?_|refine Wb fun hb=>?_|apply Wd <;>intro hh))
  all_goals (try exact oMw)
  all_goals first
   | (rw [hq,drp hn];refine rEw hM ?_;exact q11S)
   | exact A0 (i+1) ⟨oEw,by rw [hq,drp hn];exact q11S⟩ oEw
 ·(repeat' (first|refine Wz ?_|refine Wb fun hb=>?_|apply Wd <;>intro hh))
  all_goals (try exact oMw)
  all_goals rw [hq,List.drop_eq_nil_of_le oEw]
  all_goals (refine rEw hM ?_;exact q11S)
def P3 (l:List Grp):List Int:=l.flatMap (·.subs)
structure Fine (S out:List Int):Prop where
 srt:out.Pairwise (·<·)
 sub:∀ x∈out,x∈S
theorem Fine.len {S out:List Int}(h:Fine S out):out.length≤S.length:=C2o _ _ (G3d h.srt) h.sub
theorem A4p {S l:List Int}(h:∀ x∈l,x∈S):Fine S (srtR l):=⟨A9l l .nil,fun x hx=>by
 unfold srtR at hx
 rw [Y5] at hx
 rcases hx with hx|hx
 ·exact h x hx
 ·cases hx⟩
theorem B8v {S a b:List Int}(ha:∀ x∈a,x∈S)(hb:∀ x∈b,x∈S):Fine S (uniR a b):=⟨A9l b (A4p ha).srt,fun x hx=>by
 unfold uniR at hx
 rw [Y5] at hx
 rcases hx with hx|hx
 ·exact hb x hx
 ·exact(A4p ha).sub x hx⟩
theorem A8g {l:List Grp}{id:Int}{g:Grp}(h:grpF l id=some g):∀ x∈g.subs,x∈P3 l:=fun x hx=>by
 unfold P3
 exact List.mem_flatMap.2 ⟨g,List.mem_of_find?_eq_some h,hx⟩
theorem A5o {l:List Grp}(o:List Int):∀(b:List Int),Fine (P3 l) b→Fine (P3 l) (o.foldl (fun more k=>match grpF l k with|some g=>uniR more g.subs|none=>more) b):=by
 induction o with
 | nil=>intro b h;exact h
 | cons x r ih=>
  intro b h
  rw [List.foldl_cons]
  refine ih _ ?_
  cases hg:grpF l x with
  | none=>exact h
  | some g=>exact B8v h.sub (A8g hg)
theorem C6w {l:List Grp}{out:List Int}(h:Fine (P3 l) out):Fine (P3 l) (S3 l out):=A5o out out h
theorem A4i {α:Type}(f:α→α):∀(n:Nat) (a:α),itr f (n+1) a=f (itr f n a)
 | 0,_=>rfl
 | n+1,a=>by rw [itr,A4i f n,itr]
theorem A4q {l:List Grp}:∀(n:Nat) {b:List Int},Fine (P3 l) b→Fine (P3 l) (itr (S3 l) n b)
 | 0,_,h=>h
 | n+1,_,h=>A4q n (C6w h)
theorem c180 (l : List Grp)(id : Int)(hS : (P3 l).length ≤ 1073741824) : Fp Tryz.prog 180 [grps l, dI id] (ints (belR l id)) := by
 unfold belR
 have c1:=c178 l id
 have hsl:∀ k g,grpF l k=some g→g.subs.length≤1073741824:=fun k g h=>by
  have h2:g.subs.length≤(P3 l).length:=by
   have hm:=List.mem_of_find?_eq_some h
   unfold P3
   clear h hS c1
   induction l with
   | nil=>cases hm
   | cons x r ih=>
    rw [List.flatMap_cons,List.length_append]
    rcases List.mem_cons.1 hm with rfl|hm
    ·omega
    ·have:=ih hm;omega
  omega
 refine fXw Tryz.func180 Tryz.ntmps180 fun c hM=>?_
 rcases gix l id with⟨h1,h2⟩|⟨i,g,h1,h2,h3⟩
 all_goals rw [h1] at c1
 ·rw [h2]
  dsimp only
  obtain⟨b0,hb0⟩:∃ b0:List Int,b0=[]:=⟨_,rfl⟩
  rw [← hb0]
  have hf0:Fine (P3 l) b0:=by rw [hb0];exact⟨.nil,fun x h=>by cases h⟩
  (repeat' ((fail_if_success (refine H7 (x:=(Code.region 2 _ _)) ?_));first|refine Wz ?_|fail))
  refine D3q 5 1 rfl ?_
  (repeat' (first|refine cDw A1d c1 ?_|refine Wz ?_|refine Wb fun hb=>?_|apply Wd <;>intro hh))
  all_goals (try exact oMw)
  refine X_lp (ι:=Nat) 562949945033632 [] (fun j=>[(5,.d (ints (itr (S3 l) j b0))),(23,.d (dI j))]) (fun _=>[]) (fun j=>j≤l.length) (fun j=>l.length-j) (0) ?_ ?_ (hf:=A6 (by rw [hb0];rfl) (A6 Z (B8 _)))
  ·exact zLw
  rintro j hj
  by_cases hlt:j<l.length
  ·have hfj:=A4q j hf0
   obtain⟨o,ho⟩:∃ o,o=itr (S3 l) j b0:=⟨_,rfl⟩
   rw [← ho] at hfj ⊢
   have hol:=hfj.len
   (repeat' (first|refine Wz ?_|refine Wb fun hb=>?_|apply Wd <;>intro hh))
   all_goals (try exact oMw)
   refine X_lp (ι:=Nat) 140737219920768 [] (fun k=>[(7,.d (ints ((o.take k).foldl (fun more k=>match grpF l k with|some g=>uniR more g.subs|none=>more) o))),(28,.d (dI k))]) (fun _=>[]) (fun k=>k≤o.length) (fun k=>o.length-k) (0) ?_ ?_
   ·exact zLw
   rintro k hk
   by_cases hlk:k<o.length
   ·obtain⟨n,hn⟩:=gex hlk
    have ht:=J0 (f:=fun more k=>match grpF l k with|some g=>uniR more g.subs|none=>more) (b:=o) hn
    have hfm:=A5o (o.take k) o hfj
    obtain⟨mo,hmo⟩:∃ mo,mo=(o.take k).foldl (fun more k=>match grpF l k with|some g=>uniR more g.subs|none=>more) o:=⟨_,rfl⟩
    rw [← hmo] at hfm ht ⊢
    have hml:=hfm.len
    have c2:=c178 l n
    rcases gix l n with⟨k1,k2⟩|⟨p,q,k1,k2,k3⟩
    ·rw [k1] at c2
     rw [k2] at ht
     (repeat' (first|refine iDw (gm hn) ?_|refine cDw A1d c2 ?_|refine Wz ?_|apply Wd <;>intro hh))
     all_goals (try exact oMw)
     exact A0 (k+1) oEw oEw (by rw [ht];exact A6 Z (A6 Z (B8 _)))
    ·rw [k1] at c2
     rw [k3] at ht
     (repeat' (first|refine iDw (gm hn) ?_|refine cDw A1d c2 ?_|refine iDw (gm k2) ?_|refine cDw D2g (c235 mo q.subs (by have:=hsl _ _ k3;omega)) ?_|refine Wz ?_|apply Wd <;>intro hh))
     all_goals (try exact oMw)
     exact A0 (k+1) oEw oEw (by rw [ht];exact A6 Z (A6 Z (B8 _)))
   ·(repeat' (first|refine Wz ?_|apply Wd <;>intro hh))
    all_goals (try exact oMw)
    rw [List.take_of_length_le oEw]
    exact A0 (j+1) oEw oEw (by rw [A4i,← ho];exact A6 Z (A6 Z (B8 _)))
  ·(repeat' (first|refine Wz ?_|refine Wb fun hb=>?_|apply Wd <;>intro hh))
   all_goals (try exact oMw)
   have hz:j=l.length:=oEw
   subst hz
   exact rXw hM
 ·rw [h3]
  dsimp only
  obtain⟨b0,hb0⟩:∃ b0:List Int,b0=srtR g.subs:=⟨_,rfl⟩
  rw [← hb0]
  have hf0:Fine (P3 l) b0:=by rw [hb0];exact A4p (A8g h3)
  (repeat' (first|refine cDw A1d c1 ?_|refine iDw (gm h2) ?_|refine cDw D2i (c225 g.subs (by have:=hsl _ _ h3;omega)) ?_|refine Wz ?_|refine Wb fun hb=>?_|apply Wd <;>intro hh))
  all_goals (try exact oMw)
  refine X_lp (ι:=Nat) 562949945033632 [] (fun j=>[(5,.d (ints (itr (S3 l) j b0))),(23,.d (dI j))]) (fun _=>[]) (fun j=>j≤l.length) (fun j=>l.length-j) (0) ?_ ?_ (hf:=A6 (by rw [hb0];rfl) (A6 Z (B8 _)))
  ·exact zLw
  rintro j hj
  by_cases hlt:j<l.length
  ·have hfj:=A4q j hf0
   obtain⟨o,ho⟩:∃ o,o=itr (S3 l) j b0:=⟨_,rfl⟩
   rw [← ho] at hfj ⊢
   have hol:=hfj.len
   (repeat' (first|refine Wz ?_|refine Wb fun hb=>?_|apply Wd <;>intro hh))
   all_goals (try exact oMw)
   refine X_lp (ι:=Nat) 140737219920768 [] (fun k=>[(7,.d (ints ((o.take k).foldl (fun more k=>match grpF l k with|some g=>uniR more g.subs|none=>more) o))),(28,.d (dI k))]) (fun _=>[]) (fun k=>k≤o.length) (fun k=>o.length-k) (0) ?_ ?_
   ·exact zLw
   rintro k hk
   by_cases hlk:k<o.length
   ·obtain⟨n,hn⟩:=gex hlk
    have ht:=J0 (f:=fun more k=>match grpF l k with|some g=>uniR more g.subs|none=>more) (b:=o) hn
    have hfm:=A5o (o.take k) o hfj
    obtain⟨mo,hmo⟩:∃ mo,mo=(o.take k).foldl (fun more k=>match grpF l k with|some g=>uniR more g.subs|none=>more) o:=⟨_,rfl⟩
    rw [← hmo] at hfm ht ⊢
    have hml:=hfm.len
    have c2:=c178 l n
    rcases gix l n with⟨k1,k2⟩|⟨p,q,k1,k2,k3⟩
    ·rw [k1] at c2
     rw [k2] at ht
     (repeat' (first|refine iDw (gm hn) ?_|refine cDw A1d c2 ?_|refine Wz ?_|apply Wd <;>intro hh))
     all_goals (try exact oMw)
     exact A0 (k+1) oEw oEw (by rw [ht];exact A6 Z (A6 Z (B8 _)))
    ·rw [k1] at c2
     rw [k3] at ht
     (repeat' (first|refine iDw (gm hn) ?_|refine cDw A1d c2 ?_|refine iDw (gm k2) ?_|refine cDw D2g (c235 mo q.subs (by have:=hsl _ _ k3;omega)) ?_|refine Wz ?_|apply Wd <;>intro hh))
     all_goals (try exact oMw)
     exact A0 (k+1) oEw oEw (by rw [ht];exact A6 Z (A6 Z (B8 _)))
   ·(repeat' (first|refine Wz ?_|apply Wd <;>intro hh))
    all_goals (try exact oMw)
    rw [List.take_of_length_le oEw]
    exact A0 (j+1) oEw oEw (by rw [A4i,← ho];exact A6 Z (A6 Z (B8 _)))
  ·(repeat' (first|refine Wz ?_|refine Wb fun hb=>?_|apply Wd <;>intro hh))
   all_goals (try exact oMw)
   have hz:j=l.length:=oEw
   subst hz
   exact rXw hM
theorem c177 (people:List Pers)(l:List Grp)(i:Nat)(g:Grp)(hll:l.length≤140737488355328)(hg:l[i]?=some g)(ht:g.name.length≤1048576):Fp Tryz.prog 177 [.s 3 (people.map M5),grps l,dI i] (dI (grpE people l i g)):=by
 unfold grpE
 have hlt:=(List.getElem?_eq_some_iff.1 hg).1
 obtain⟨pv,hp⟩:=gex (l:=l) (i:=i-1) oEw
 have hpr:=B6 hp
 obtain⟨b,hb⟩:∃ b,idB g.id=b:=⟨_,rfl⟩;have cb:=c79 g.id;rw [hb] at cb;obtain⟨d,hd⟩:∃ b,A2n g.name=b:=⟨_,rfl⟩;have cd:=n150 g.name ht;rw [hd] at cd;obtain⟨u,hu⟩:∃ b,upB g.people=b:=⟨_,rfl⟩;have cu:=c173 g.people;rw [hu] at cu;obtain⟨v,hv⟩:∃ b,upB g.subs=b:=⟨_,rfl⟩;have cv:=c173 g.subs;rw [hv] at cv
 refine fXw Tryz.func177 Tryz.ntmps177 fun c hM=>?_
 (repeat' (first|refine iDw (gm hg) ?_|refine iDw (gm hp) ?_|refine cDw en79 cb ?_|refine cDw C4u cd ?_|refine cDw D2n cu ?_|refine Wz ?_|refine Wb fun hb=>?_|refine Wd (fun hh=>?_) fun hh=>?_|(refine Wc (fun hg=>?_) (fun hg=>?_) <;>(first|subst hg|(simp at hg;subst hg)|skip))))
 all_goals (try exact oMw)
 all_goals (try (all_goals (refine rEw hM ?_;exact q11S);done))
 all_goals (
  refine X_lp (ι:=Nat) 576451956210403136 [] (fun i=>[(43,.d (dI i))]) (fun _=>[]) (fun i=>i≤(g.people).length∧(fun _ q=>q.allB fun x=>(perF people x).isSome) 0 (g.people)=(fun _ q=>q.allB fun x=>(perF people x).isSome) i ((g.people).drop i)) (fun i=>(g.people).length-i) (0) ?_ ?_
  ·exact⟨zLw,rfl⟩
  rintro i ⟨hi,hq⟩
  by_cases hlt:i<(g.people).length
  rotate_left
  ·have hz:i=(g.people).length:=oEw
   subst hz
   rw [List.drop_eq_nil_of_le (Nat.le_refl _)] at hq
   try dsimp only at hq
   (((repeat' (first|refine G_x (A3 Z Z Z D2n (cv)) Z Z ?_|refine Wz ?_|refine Wd (fun hh=>?_) fun hh=>?_|(refine Wc (fun hg=>?_) (fun hg=>?_) <;>(first|subst hg|(simp at hg;subst hg)|skip))))) <;> first|(exfalso;omega)|(all_goals (refine rEw hM ?_;(try rw [hq]);exact q11S)))
  obtain⟨n,hn⟩:=gex hlt
  obtain⟨pv,hp⟩:=gex (l:=g.people) (i:=i-1) oEw
  have hpr:=B6 hp
  have hmem:=List.mem_of_getElem? hn
  rw [drp hn] at hq
  try dsimp only at hq
  obtain⟨e,he⟩:∃ b,perF people n=b:=⟨_,rfl⟩;have ce:=p142 people n;rw [he] at ce;cases e
  all_goals (repeat' (first|refine iDw (gm hn) ?_|refine cDw A6p ce ?_|refine Wz ?_|apply Wd <;>intro hh))
  all_goals (try exact oMw)
  all_goals first
   | exact A0 (i+1) ⟨oEw,by(try dsimp only);rw [hq];exact q11S⟩ oEw
   | (refine rEw hM ?_;(try rw [hq]);exact q11S))
theorem q12S {p:Prop}(h:p:=by first|(simp [one1, *,dB,dI,dS,List.anyB,List.allB,fstE];done)|(simp_all [one1,dB,dI,dS,List.anyB,List.allB,fstE];done)|(simp_all [one1,dB,dI,dS,List.anyB,List.allB,fstE];omega)):p:=h
theorem c84 (people:List Pers)(l:List Grp)(ht:∀ g∈l,g.name.length≤1048576)(hS:(P3 l).length≤1073741824):Fp Tryz.prog 84 [.s 3 (people.map M5),grps l] (dI (C4h people l)):=by
 unfold C4h orE
 refine fXw Tryz.func84 Tryz.ntmps84 fun c hM=>?_
 (repeat' (first|refine Wz ?_|refine Wb fun hb=>?_|apply Wd <;>intro hh))
 all_goals (try exact oMw)
 all_goals (try (all_goals (refine rEw hM ?_;exact q11S);done))
 refine X_lp (ι:=Nat) 67076208 [] (fun i=>[(15,.d (dI i))]) (fun _=>[]) (fun i=>i≤(l).length∧(fun i q=>fstE (grpE people l) i q) 0 (l)=(fun i q=>fstE (grpE people l) i q) i ((l).drop i)) (fun i=>(l).length-i) (0) ?_ ?_
 ·exact⟨zLw,rfl⟩
 rintro i ⟨hi,hq⟩
 by_cases hlt:i<(l).length
 rotate_left
 ·have hz:i=(l).length:=oEw
  subst hz
  rw [List.drop_eq_nil_of_le (Nat.le_refl _)] at hq
  try dsimp only at hq
  have h1:=hq
  clear hq
  rw [fstE] at h1
  (repeat' (first|refine Wz ?_|refine Wb fun hb=>?_|apply Wd <;>intro hh))
  all_goals (try exact oMw)
  refine X_lp (ι:=Nat) 9007198986305936 [] (fun i=>[(28,.d (dI i))]) (fun _=>[]) (fun i=>i≤(l).length∧(fun _ q=>q.allB fun g=>g.subs.allB fun s=>(grpF l s).isSome) 0 (l)=(fun _ q=>q.allB fun g=>g.subs.allB fun s=>(grpF l s).isSome) i ((l).drop i)) (fun i=>(l).length-i) (0) ?_ ?_
  ·exact⟨zLw,rfl⟩
  rintro i ⟨hi,hq⟩
  by_cases hlt:i<(l).length
  rotate_left
  ·have hz:i=(l).length:=oEw
   subst hz
   rw [List.drop_eq_nil_of_le (Nat.le_refl _)] at hq
   try dsimp only at hq
   have h2:=hq
   clear hq
   rw [List.allB] at h2
   (repeat' (first|refine Wz ?_|refine Wb fun hb=>?_|apply Wd <;>intro hh))
   all_goals (try exact oMw)
   refine X_lp (ι:=Nat) 4722330454072626250256 [] (fun i=>[(55,.d (dI i))]) (fun _=>[]) (fun i=>i≤(l).length∧(fun _ q=>q.anyB fun g=>hasR (belR l g.id) g.id) 0 (l)=(fun _ q=>q.anyB fun g=>hasR (belR l g.id) g.id) i ((l).drop i)) (fun i=>(l).length-i) (0) ?_ ?_
   ·exact⟨zLw,rfl⟩
   rintro i ⟨hi,hq⟩
   by_cases hlt:i<(l).length
   rotate_left
   ·have hz:i=(l).length:=oEw
    subst hz
    rw [List.drop_eq_nil_of_le (Nat.le_refl _)] at hq
    try dsimp only at hq
    ((repeat' (first|refine Wz ?_|apply Wd <;>intro hh)) <;> first|(exfalso;omega)|(all_goals (refine rEw hM ?_;(try rw [hq]);exact q11S)))
   obtain⟨n,hn⟩:=gex hlt
   obtain⟨pv,hp⟩:=gex (l:=l) (i:=i-1) oEw
   have hpr:=B6 hp
   have hmem:=List.mem_of_getElem? hn
   rw [drp hn] at hq
   try dsimp only at hq
   obtain⟨b,hb⟩:∃ b,hasR (belR l n.id) n.id=b:=⟨_,rfl⟩;have cb:=n179 (belR l n.id) n.id;rw [hb] at cb
   all_goals (repeat' (first|refine iDw (gm hn) ?_|refine cDw G1g (c180 l n.id hS) ?_|refine cDw G1h cb ?_|refine Wz ?_|refine Wd (fun hh=>?_) fun hh=>?_|(refine Wc (fun hg=>?_) (fun hg=>?_) <;>(first|subst hg|(simp at hg;subst hg)|skip))))
   all_goals (try exact oMw)
   all_goals first
    | exact A0 (i+1) ⟨oEw,by(try dsimp only);rw [hq];exact q11S⟩ oEw
    | (refine rEw hM ?_;(try rw [hq]);exact q11S)
  obtain⟨n,hn⟩:=gex hlt
  obtain⟨pv,hp⟩:=gex (l:=l) (i:=i-1) oEw
  have hpr:=B6 hp
  have hmem:=List.mem_of_getElem? hn
  rw [drp hn] at hq
  try dsimp only at hq
  (repeat' (first|refine iDw (gm hn) ?_|refine Wz ?_|refine Wb fun hb=>?_|apply Wd <;>intro hh))
  all_goals (try exact oMw)
  refine X_lp (ι:=Nat) 4503462188417296 [] (fun i=>[(37,.d (dI i))]) (fun _=>[]) (fun i=>i≤(n.subs).length∧(fun _ q=>q.allB fun s=>(grpF l s).isSome) 0 (n.subs)=(fun _ q=>q.allB fun s=>(grpF l s).isSome) i ((n.subs).drop i)) (fun i=>(n.subs).length-i) (0) ?_ ?_
  ·exact⟨zLw,rfl⟩
  rintro i2 ⟨hi2,hq2⟩
  by_cases hlt2:i2<(n.subs).length
  rotate_left
  ·have hz2:i2=(n.subs).length:=oEw
   subst hz2
   rw [List.drop_eq_nil_of_le (Nat.le_refl _)] at hq2
   try dsimp only at hq2
   (repeat' (first|refine Wz ?_|apply Wd <;>intro hh))
   all_goals (try exact oMw)
   all_goals (try exact oMw)
   all_goals first
    | exact A0 (i+1) ⟨oEw,by(try dsimp only);rw [hq];exact q11S⟩ oEw
    | (refine rEw hM ?_;(try rw [hq]);exact q11S)
  obtain⟨n2,hn2⟩:=gex hlt2
  obtain⟨pv2,hp2⟩:=gex (l:=n.subs) (i:=i2-1) oEw
  have hpr2:=B6 hp2
  have hmem2:=List.mem_of_getElem? hn2
  rw [drp hn2] at hq2
  try dsimp only at hq2
  have c1:=c178 l n2;rcases gix l n2 with⟨h1',h2'⟩|⟨p,g,h1',h2',h3'⟩ <;> rw [h1'] at c1
  all_goals (repeat' (first|refine iDw (gm hn2) ?_|refine iDw (gm hn) ?_|refine cDw A1d c1 ?_|refine Wz ?_|apply Wd <;>intro hh))
  all_goals (try exact oMw)
  all_goals first
   | exact A0 (i2+1) ⟨oEw,by(try dsimp only);rw [hq2];exact q11S⟩ oEw
   | (refine rEw hM ?_;(try rw [hq2]);exact q11S)
 obtain⟨n,hn⟩:=gex hlt
 obtain⟨pv,hp⟩:=gex (l:=l) (i:=i-1) oEw
 have hpr:=B6 hp
 have hmem:=List.mem_of_getElem? hn
 rw [drp hn] at hq
 try dsimp only at hq
 all_goals (repeat' (first|refine cDw G9r (c177 people l i n hb hn (ht n hmem)) ?_|refine Wz ?_|refine Wb fun hb=>?_|apply Wd <;>intro hh))
 all_goals (try exact oMw)
 all_goals first
  | exact A0 (i+1) ⟨oEw,by(try dsimp only);rw [hq];exact q12S⟩ oEw
  | (refine rEw hM ?_;(try rw [hq]);exact q12S)
theorem B1k:TwoInts Tryz.prog 82 3:=⟨by kernel_rfl,by kernel_rfl,by kernel_rfl,by kernel_rfl,Tryz.underlying3⟩
theorem C3r {P:Program}{o:Oper}{F:Fr}{H:Hp}{t e u:TypeId}{x y:Operand}{a b c d:Int}{r:Bool}(h:TwoInts P t e)(ho:o.op=.binOp .neq t x y u)(hx:ev (pk F o) x=some (.agg #[int a,int b]))(hy:ev (pk F o) y=some (.agg #[int c,int d]))(hr:(!(decide (a=c)&&decide (b=d)))=r):LS P o F H [] (some (.d (.v (.bool r)))) []:=by
 have:=G3q (H:=H) h ho hx hy
 rwa [hr] at this
abbrev conD (l:List Cons):Dt:=.s 4 (l.map Y7)
theorem q22S {p:Prop}(h:p:=by first|(simp [one1, *,dB,dI,dS,List.anyB,List.allB];done)|(simp_all [one1,dB,dI,dS,List.anyB,List.allB];done)|(simp_all [one1,dB,dI,dS,List.anyB,List.allB];omega)):p:=h
theorem c181 (people:List Pers)(l:List Cons)(i:Nat)(x:Cons)(hll:l.length≤140737488355328)(hx:l[i]?=some x):Fp Tryz.prog 181 [.s 3 (people.map M5),conD l,dI i] (dI (conE people l i x)):=by
 unfold conE
 have hlt:=(List.getElem?_eq_some_iff.1 hx).1
 obtain⟨pv,hp⟩:=gex (l:=l) (i:=i-1) oEw
 have hpr:=B6 hp
 refine fXw Tryz.func181 Tryz.ntmps181 fun c hM=>?_
 obtain⟨e,he⟩:∃ b,perF people x.person=b:=⟨_,rfl⟩;have ce:=p142 people x.person;rw [he] at ce;cases e
 all_goals (repeat' (first|refine iDw (gm hx) ?_|refine iDw (gm hp) ?_|refine cDw A6p ce ?_|refine Wz ?_|apply Wd <;>intro hh))
 all_goals (refine rEw hM ?_;exact q22S)
theorem q23S {p:Prop}(h:p:=by first|(simp [one1, *,dB,dI,dS,List.anyB,List.allB,fstE];done)|(simp_all [one1,dB,dI,dS,List.anyB,List.allB,fstE];done)|(simp_all [one1,dB,dI,dS,List.anyB,List.allB,fstE];omega)):p:=h
theorem c85 (people:List Pers)(l:List Cons):Fp Tryz.prog 85 [.s 3 (people.map M5),conD l] (dI (D2w people l)):=by
 unfold D2w
 refine fXw Tryz.func85 Tryz.ntmps85 fun c hM=>?_
 (repeat' (first|refine Wz ?_|refine Wb fun hb=>?_|apply Wd <;>intro hh))
 all_goals (try exact oMw)
 all_goals (try (all_goals (refine rEw hM ?_;exact q22S);done))
 refine X_lp (ι:=Nat) 8387696 [] (fun i=>[(5,.d (dI i))]) (fun _=>[]) (fun i=>i≤(l).length∧(fun i q=>fstE (conE people l) i q) 0 (l)=(fun i q=>fstE (conE people l) i q) i ((l).drop i)) (fun i=>(l).length-i) (0) ?_ ?_
 ·exact⟨zLw,rfl⟩
 rintro i ⟨hi,hq⟩
 by_cases hlt:i<(l).length
 rotate_left
 ·have hz:i=(l).length:=oEw
  subst hz
  rw [List.drop_eq_nil_of_le (Nat.le_refl _)] at hq
  try dsimp only at hq
  ((repeat' (first|refine Wz ?_|refine Wb fun hb=>?_|apply Wd <;>intro hh)) <;> first|(exfalso;omega)|(all_goals (refine rEw hM ?_;(try rw [hq]);exact q23S)))
 obtain⟨n,hn⟩:=gex hlt
 obtain⟨pv,hp⟩:=gex (l:=l) (i:=i-1) oEw
 have hpr:=B6 hp
 have hmem:=List.mem_of_getElem? hn
 rw [drp hn] at hq
 try dsimp only at hq
 all_goals (repeat' (first|refine cDw G9q (c181 people l i n hb hn) ?_|refine Wz ?_|refine Wb fun hb=>?_|apply Wd <;>intro hh))
 all_goals (try exact oMw)
 all_goals first
  | exact A0 (i+1) ⟨oEw,by(try dsimp only);rw [hq];exact q23S⟩ oEw
  | (refine rEw hM ?_;(try rw [hq]);exact q23S)
theorem D9r (l:List Cons)(d:Int):∀ k,gvN l d k≤k
 | 0=>Nat.le_refl _
 | k + 1 => by
  rw [gvN]
  split
  ·split
   ·exact Nat.le_succ_of_le (D9r l d k)
   ·exact Nat.le_refl _
  ·exact Nat.le_refl _
theorem c7 (l:List Cons)(x:Cons)(hl:l.length≤1099511627776):Fp Tryz.prog 7 [conD l,.g (Y7 x)] (conD (D9s l x)):=by
 unfold D9s
 refine fXw Tryz.func7 Tryz.ntmps7 fun c hM=>?_
 (repeat' (first|refine Wz ?_|refine Wb fun hb=>?_))
 refine X_lp (ι:=Nat) 16776736 [] (fun i=>[(5,.d (dI i))]) (fun _=>[]) (fun i=>i≤l.length∧gvN l x.day l.length=gvN l x.day i) (fun i=>i) (l.length) ?_ ?_
 ·exact⟨Nat.le_refl _,rfl⟩
 rintro i ⟨hi,hq⟩
 have hg:=D9r l x.day i
 cases i with
 | zero=>
  rw [gvN] at hq
  rw [hq]
  (repeat' (first|refine G_x (M2 (b:=0) Z Z Z Z (by simp)) Z Z ?_|refine G_x (R3 (a:=0) Z Z Z Z (by simp)) Z Z ?_|refine Wz ?_|apply Wd <;>intro hh))
  all_goals (try exact oMw)
  refine B9 4 Z Z lOw ?_
  refine rEw hM ?_
  simp [one1]
  rfl
 | succ k=>
  obtain⟨n,hn⟩:=gex (l:=l) (i:=k) oEw
  rw [gvN,hn] at hq
  dsimp only at hq
  by_cases hd:x.day<n.day
  ·rw [if_pos hd] at hq
   (repeat' (first|refine iDw (gm hn) ?_|refine Wz ?_|apply Wd <;>intro hh))
   all_goals (try exact oMw)
   exact A0 k ⟨oEw,hq⟩ oEw (hf:=A6 (congrArg (fun z:Int=>some (Lf.d (dI z))) oEw) (B8 _))
  ·rw [if_neg hd] at hq
   rw [hq]
   (repeat' (first|refine iDw (gm hn) ?_|refine G_x (M2 (b:=k+1) Z Z Z Z (by simp;omega)) Z Z ?_|refine G_x (R3 (a:=k+1) Z Z Z Z (by simp;omega)) Z Z ?_|refine Wz ?_|apply Wd <;>intro hh))
   all_goals (try exact oMw)
   refine B9 4 Z Z lOw ?_
   refine rEw hM ?_
   simp [one1]
   rfl
theorem c60 (s:Spn):Fp Tryz.prog 60 [.g (spnC s)] (dB (A5 s)):=by
 refine fXw Tryz.func60 Tryz.ntmps60 fun c hM=>?_
 (repeat' (first|refine Wz ?_|apply Wd <;>intro hh))
 all_goals (refine rEw hM ?_;(first|(simp [one1, *,dB,dI,dS,List.anyB,List.allB,A5];done)|(simp_all [one1,dB,dI,dS,List.anyB,List.allB,A5];done)|(simp_all [one1,dB,dI,dS,List.anyB,List.allB,A5];omega)))
theorem n236 (l:List Grp)(a:Int):Fp Tryz.prog 236 [grps l,dI a] (dB (l.anyB fun x=>decide (x.id=a))):=c236 l a
theorem c182 (l:List Grp)(p:Prot):Fp Tryz.prog 182 [grps l,.g (B7p p)] (dI (C3d l p)):=by
 unfold C3d orE
 refine fXw Tryz.func182 Tryz.ntmps182 fun c hM=>?_
 by_cases hz:p.groups.length=0
 all_goals (
  (repeat' (first|refine Wz ?_|refine Wb fun hb=>?_|apply Wd <;>intro hh))
  all_goals (try exact oMw)
  all_goals (try (all_goals (refine rEw hM ?_;exact q22S);done)))
 all_goals (
  refine X_lp (ι:=Nat) 9223372032559808560 [] (fun i=>[(5,.d (dI i))]) (fun _=>[]) (fun i=>i≤(p.groups).length∧(fun i q=>fstE (fun i g=>if prvB (fun h=>decide (g≤h)) p.groups i then 10 else if (l.anyB fun x=>decide (x.id=g))=false then 9 else 0) i q) 0 (p.groups)=(fun i q=>fstE (fun i g=>if prvB (fun h=>decide (g≤h)) p.groups i then 10 else if (l.anyB fun x=>decide (x.id=g))=false then 9 else 0) i q) i ((p.groups).drop i)) (fun i=>(p.groups).length-i) (0) ?_ ?_
  ·exact⟨zLw,rfl⟩
  rintro i ⟨hi,hq⟩
  by_cases hlt:i<(p.groups).length
  rotate_left
  ·have hz:i=(p.groups).length:=oEw
   subst hz
   rw [List.drop_eq_nil_of_le (Nat.le_refl _)] at hq
   try dsimp only at hq
   ((repeat' (first|refine Wz ?_|refine Wb fun hb=>?_|apply Wd <;>intro hh)) <;> first|(exfalso;omega)|(all_goals (refine rEw hM ?_;(try rw [hq]);exact q23S)))
  obtain⟨n,hn⟩:=gex hlt
  obtain⟨pv,hp⟩:=gex (l:=p.groups) (i:=i-1) oEw
  have hpr:=B6 hp
  have hmem:=List.mem_of_getElem? hn
  rw [drp hn] at hq
  try dsimp only at hq
  obtain⟨b,hb⟩:∃ b,(l.anyB fun x=>decide (x.id=n))=b:=⟨_,rfl⟩;have cb:=n236 l n;rw [hb] at cb
  all_goals (repeat' (first|refine iDw (gm hn) ?_|refine iDw (gm hp) ?_|refine cDw G8q cb ?_|refine Wz ?_|refine Wb fun hb=>?_|refine Wd (fun hh=>?_) fun hh=>?_|(refine Wc (fun hg=>?_) (fun hg=>?_) <;>(first|subst hg|(simp at hg;subst hg)|skip))))
  all_goals (try exact oMw)
  all_goals first
   | exact A0 (i+1) ⟨oEw,by(try dsimp only);rw [hq];exact q23S⟩ oEw
   | (refine rEw hM ?_;(try rw [hq]);exact q23S))
theorem c86 (recs:List Rc)(a:Rgts)(x:Rul):Fp Tryz.prog 86 [.s 5 (recs.map rcC),.g (V7 a),.g (rulC x)] (dI (rulE recs a.groups x)):=by
 unfold rulE
 obtain⟨b,hb⟩:∃ b,idB x.rcd=b:=⟨_,rfl⟩;have cb:=c79 x.rcd;rw [hb] at cb;obtain⟨d,hd⟩:∃ b,A5 x.span=b:=⟨_,rfl⟩;have cd:=c60 x.span;rw [hd] at cd
 obtain⟨z,hz⟩:∃ z,(!(decide (x.span.frm=0)&&decide (x.span.til=0)))=z:=⟨_,rfl⟩
 refine fXw Tryz.func86 Tryz.ntmps86 fun c hM=>?_
 (repeat' (first|refine cDw en79 cb ?_|refine cDw en60 cd ?_|refine G_x (C3r B1k Z Z Z hz) Z Z ?_|refine Wz ?_|refine Wb fun hb=>?_|(refine Wg (fun hg=>?_) (fun hg=>?_) <;>(first|subst hg|(simp at hg;subst hg)))|(refine Wc (fun hg=>?_) (fun hg=>?_) <;>(first|subst hg|(simp at hg;subst hg)|skip))))
 all_goals (try exact oMw)
 all_goals (try (all_goals (refine rEw hM ?_;exact q22S);done))
 all_goals (
  refine X_lp (ι:=Nat) 140737471578304 [] (fun i=>[(24,.d (dI i))]) (fun _=>[]) (fun i=>i≤(recs).length∧(fun _ q=>q.anyB fun r=>decide (r.id=x.rcd)&&decide (r.len<x.span.til)) 0 (recs)=(fun _ q=>q.anyB fun r=>decide (r.id=x.rcd)&&decide (r.len<x.span.til)) i ((recs).drop i)) (fun i=>(recs).length-i) (0) ?_ ?_
  ·exact⟨zLw,rfl⟩
  rintro i ⟨hi,hq⟩
  by_cases hlt:i<(recs).length
  rotate_left
  ·have hz:i=(recs).length:=oEw
   subst hz
   rw [List.drop_eq_nil_of_le (Nat.le_refl _)] at hq
   try dsimp only at hq
   ((repeat' (first|refine G_x (A3 Z Z Z G9p (c182 a.groups x.prot)) Z Z ?_|refine Wz ?_|apply Wd <;>intro hh)) <;> first|(exfalso;omega)|(all_goals (refine rEw hM ?_;(try rw [hq]);exact q22S)))
  obtain⟨n,hn⟩:=gex hlt
  obtain⟨pv,hp⟩:=gex (l:=recs) (i:=i-1) oEw
  have hpr:=B6 hp
  have hmem:=List.mem_of_getElem? hn
  rw [drp hn] at hq
  try dsimp only at hq
  all_goals (repeat' (first|refine iDw (gm hn) ?_|refine Wz ?_|apply Wd <;>intro hh))
  all_goals (try exact oMw)
  all_goals first
   | exact A0 (i+1) ⟨oEw,by(try dsimp only);rw [hq];exact q22S⟩ oEw
   | (refine rEw hM ?_;(try rw [hq]);exact q22S))
theorem c31 (recs:List Rc)(a:Rgts)(h1:∀ p∈a.people,p.name.length≤1048576)(h2:∀ r∈recs,r.name.length≤1048576)(h3:∀ g∈a.groups,g.name.length≤1048576)(hS:(P3 a.groups).length≤1073741824):Fp Tryz.prog 31 [.s 5 (recs.map rcC),.g (V7 a)] (dI (B1u recs a)):=by
 unfold B1u orE
 refine fXw Tryz.func31 Tryz.ntmps31 fun c hM=>?_
 (repeat' (first|refine cDw en82 (c82 a.people h1) ?_|refine cDw en83 (c83 a.people recs h2) ?_|refine cDw en84 (c84 a.people a.groups h3 hS) ?_|refine cDw en85 (c85 a.people a.consents) ?_|refine Wz ?_|refine Wb fun hb=>?_|apply Wd <;>intro hh))
 all_goals (try exact oMw)
 all_goals (try (all_goals (refine rEw hM ?_;exact q22S);done))
 all_goals (
  refine X_lp (ι:=Nat) 288221580058689648 [] (fun i=>[(43,.d (dI i))]) (fun _=>[]) (fun i=>i≤(a.rules).length∧(fun i q=>fstE (fun _ x=>rulE recs a.groups x) i q) 0 (a.rules)=(fun i q=>fstE (fun _ x=>rulE recs a.groups x) i q) i ((a.rules).drop i)) (fun i=>(a.rules).length-i) (0) ?_ ?_
  ·exact⟨zLw,rfl⟩
  rintro i ⟨hi,hq⟩
  by_cases hlt:i<(a.rules).length
  rotate_left
  ·have hz:i=(a.rules).length:=oEw
   subst hz
   rw [List.drop_eq_nil_of_le (Nat.le_refl _)] at hq
   try dsimp only at hq
   ((repeat' (first|refine Wz ?_|apply Wd <;>intro hh)) <;> first|(exfalso;omega)|(all_goals (refine rEw hM ?_;(try rw [hq]);exact q23S)))
  obtain⟨n,hn⟩:=gex hlt
  obtain⟨pv,hp⟩:=gex (l:=a.rules) (i:=i-1) oEw
  have hpr:=B6 hp
  have hmem:=List.mem_of_getElem? hn
  rw [drp hn] at hq
  try dsimp only at hq
  all_goals (repeat' (first|refine iDw (gm hn) ?_|refine cDw en86 (c86 recs a n) ?_|refine Wz ?_|apply Wd <;>intro hh))
  all_goals (try exact oMw)
  all_goals first
   | exact A0 (i+1) ⟨oEw,by(try dsimp only);rw [hq];exact q23S⟩ oEw
   | (refine rEw hM ?_;(try rw [hq]);exact q23S))
theorem c22 (recs:List Rc)(a:Rgts)(h1:∀ p∈a.people,p.name.length≤1048576)(h2:∀ r∈recs,r.name.length≤1048576)(h3:∀ g∈a.groups,g.name.length≤1048576)(hS:(P3 a.groups).length≤1073741824):Fp Tryz.prog 22 [.g (V7 a),.s 5 (recs.map rcC)] (dB (A0o a recs)):=by
 unfold A0o
 refine fXw Tryz.func22 Tryz.ntmps22 fun c hM=>?_
 (repeat' (first|refine cDw en31 (c31 recs a h1 h2 h3 hS) ?_|refine Wz ?_|refine Wb fun hb=>?_|apply Wd <;>intro hh))
 all_goals (try exact oMw)
 all_goals (try (all_goals (refine rEw hM ?_;exact q22S);done))
theorem q36S {p:Prop}(h:p:=by first|(simp [one1, *,dB,dI,dS,List.anyB,List.allB];done)|(simp_all [one1,dB,dI,dS,List.anyB,List.allB];done)|(simp_all [one1,dB,dI,dS,List.anyB,List.allB];omega)):p:=h
theorem c56 (s:Spn):Fp Tryz.prog 56 [.g (spnC s)] (dB (A5 s)):=by
 unfold A5
 refine fXw Tryz.func56 Tryz.ntmps56 fun c hM=>?_
 (repeat' (first|refine Wz ?_|apply Wd <;>intro hh))
 all_goals (try exact oMw)
 all_goals (refine rEw hM ?_;exact q36S)
abbrev glsD (d:Doc):Dt:=.g [dI (H9 d.tiers 2),dI (H9 d.tiers 3),dI (H9 d.tiers 4)]
theorem n113 (l:List Tier)(r:Int):Fp Tryz.prog 113 [.s 4 (l.map A0g),dI r] (dI (H9 l r)):=c113 l r
theorem c188 (d:Doc):Fp Tryz.prog 188 [.g (docC d)] (glsD d):=by
 refine fXw Tryz.func188 Tryz.ntmps188 fun c hM=>?_
 (repeat' (first|refine G_x (A3 Z Z Z A4s (n113 d.tiers 2) (.eq rfl)) Z Z ?_|refine G_x (A3 Z Z Z A4s (n113 d.tiers 3) (.eq rfl)) Z Z ?_|refine G_x (A3 Z Z Z A4s (n113 d.tiers 4) (.eq rfl)) Z Z ?_|refine Wz ?_|fail))
 all_goals (try exact oMw)
 exact rXw hM
theorem c186 (d:Doc):Fp Tryz.prog 186 [.g (docC d)] (dB (A2x d)):=by
 unfold A2x
 refine fXw Tryz.func186 Tryz.ntmps186 fun c hM=>?_
 (repeat' (first|refine cDw C4s (c188 d) ?_|refine Wz ?_|apply Wd <;>intro hh))
 all_goals (try exact oMw)
 all_goals (refine rEw hM ?_;exact q36S)
end
section
open Go.RowKit Go.En Go.Dl Go.Tp
theorem C2u {G:Nat→Prop}{w:World}{b:Nat}:∀(l:List Int) (off:Nat),At w b off (l.map int)→DR.rowsR G w b 1 off (l.map iC)
 | [],_,_=>by rw [List.map_nil,DR.rowsR];trivial
 | x :: r, off, h => by
  rw [List.map_cons,DR.rowsR]
  refine⟨⟨rfl,?_⟩,C2u r (off+1) fun j v hv=>?_⟩
  ·show DR.cellsR G w b off [dI x]
   rw [DR.cellsR]
   exact⟨⟨int x,h 0 _ rfl,rfl,by show DR G w (.v (int x)) (int x);rw [DR]⟩,by rw [DR.cellsR];trivial⟩
  ·have:=h (j+1) v hv
   rwa [show off+(j+1)=off+1+j by omega] at this
theorem B6g {G:Nat→Prop}{w:World}{b:Nat}:∀(l:List Int) (off:Nat),DR.rowsR G w b 1 off (l.map iC)→At w b off (l.map int)
 | [],_,_=>fun j v hv=>by simp at hv
 | x :: r, off, h => by
  rw [List.map_cons,DR.rowsR] at h
  obtain⟨⟨_,h1⟩,h2⟩:=h
  replace h1:DR.cellsR G w b off [dI x]:=h1
  rw [DR.cellsR] at h1
  obtain⟨⟨u,h3,_,h4⟩,_⟩:=h1
  replace h4:DR G w (.v (int x)) u:=h4
  rw [DR] at h4
  subst h4
  have ih:=B6g r (off+1) h2
  intro j v hv
  cases j with
  | zero=>cases hv;exact h3
  | succ j=>
   have:=ih j v hv
   rwa [show off+1+j=off+(j+1) by omega] at this
theorem H1c {G:Nat→Prop}{w:World}{u:Value}{l:List Int}(h:DR G w (ints l) u):Sl w u l:=by
 rw [ints,DR] at h
 obtain⟨a,cap,h1,h2,h3,h4⟩:=h
 rw [List.length_map] at h1 h2 h3 h4
 refine⟨a,cap,h1,h2,h3,fun h0=>?_⟩
 obtain⟨b,off,h5,_,h7⟩:=h4 h0
 exact⟨b,off,h5,trivial,_,Y3 _ _,by rw [R4];exact B6g l off h7⟩
theorem D4y {G G':Nat→Prop}{w:World}{u:Value}{l:List Int}(h:SlG G w u l)(hg:∀ b,G b→b<w.heap.size→G' b):DR G' w (ints l) u:=by
 obtain⟨a,cap,h1,h2,h3,h4⟩:=h
 rw [ints,DR]
 rw [List.length_map]
 refine⟨a,cap,h1,h2,h3,fun h0=>?_⟩
 obtain⟨b,off,h5,h6,css,h7,h8⟩:=h4 h0
 rw [B0e h7,R4] at h8
 exact⟨b,off,h5,hg b h6 (h8.lt (by rw [List.length_map];exact h0)),C2u l off h8⟩
theorem c241 (l:List Int)(hl:l.length≤1000000):Fp Tryz.prog 241 [ints l] (ints (srtR l)):=by
 intro w G us hG h
 rw [DR.valsR] at h
 obtain⟨u,us',rfl,_,hu,h2⟩:=h
 rw [DR.valsR] at h2
 subst h2
 refine Calls.mono (A6b l u w (H1c hu) hl) ?_
 rintro e w' ⟨v,rfl,hx,hs⟩
 exact⟨v,rfl,hx,D4y hs fun b hb hlt=>.inr ⟨hb,hlt⟩⟩
end
end Go.Proofs.YtojadfppncgphaaGreatDoor