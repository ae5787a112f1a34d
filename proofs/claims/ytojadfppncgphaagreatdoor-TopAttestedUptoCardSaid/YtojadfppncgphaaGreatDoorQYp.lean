/- Own text. -/
import Derived.Test.YtojadfppncgphaaGreatDoorQYn
set_option linter.all false
set_option maxHeartbeats 16000000
set_option maxRecDepth 8000
namespace Go.Proofs.YtojadfppncgphaaGreatDoor
open Go.RowKit Go.En Go.Dl Go.Tp
section
variable {α : Type}
def swp (pre:List α)(x:α)(rest:List α)(j:Nat):List α:=pre.take j++x::(pre.drop j++rest)
theorem C2n {pre:List α}{x:α}{rest:List α}{j:Nat}:(swp pre x rest j).length=pre.length+rest.length+1:=by
 unfold swp;simp;omega
theorem D8z {pre:List α}{x:α}{rest:List α}{j:Nat}(h:j≤pre.length):(swp pre x rest j)[j]?=some x:=by
 unfold swp
 rw [List.getElem?_append_right (by rw [List.length_take];omega),List.length_take,Nat.min_eq_left h,Nat.sub_self];rfl
theorem D8y {pre:List α}{x y:α}{rest:List α}{j:Nat}(h:pre[j]?=some y):(swp pre x rest (j+1))[j]?=some y:=by
 unfold swp
 have hl:=(List.getElem?_eq_some_iff.1 h).1
 rw [List.getElem?_append_left (by rw [List.length_take];omega),List.getElem?_take_of_lt (by omega),h]
theorem B4y {A B:List α}{a b:α}:(A++a::B).set A.length b=A++b::B:=by
 induction A with
 | nil=>rfl
 | cons z A ih=>rw [List.cons_append,List.length_cons,List.set_cons_succ,ih];rfl
theorem B7e {pre:List α}{x y:α}{rest:List α}{j:Nat}(h:pre[j]?=some y):((swp pre x rest (j+1)).set (j+1) y).set j x=swp pre x rest j:=by
 have hl:=(List.getElem?_eq_some_iff.1 h).1
 have h1:pre.take (j+1)=pre.take j++[y]:=by rw [List.take_add_one,h];rfl
 have h2:pre.drop j=y::pre.drop (j+1):=drp h
 have hlt:(pre.take (j+1)).length=j+1:=by rw [List.length_take];omega
 have hlt':(pre.take j).length=j:=by rw [List.length_take];omega
 unfold swp
 have e1:(pre.take (j+1)++x::(pre.drop (j+1)++rest)).set (j+1) y=pre.take (j+1)++y::(pre.drop (j+1)++rest):=by
  have:=B4y (A:=pre.take (j+1)) (B:=pre.drop (j+1)++rest) (a:=x) (b:=y)
  rwa [hlt] at this
 rw [e1,h1,h2,List.append_assoc]
 have:=B4y (A:=pre.take j) (B:=y::(pre.drop (j+1)++rest)) (a:=y) (b:=x)
 rw [hlt'] at this
 exact this
theorem C4e (p:α→Bool)(l:List α):∀ k,insN p l k≤k
 | 0=>Nat.le_refl _
 | k + 1 => by
  rw [insN]
  split
  ·split
   ·exact Nat.le_succ_of_le (C4e p l k)
   ·exact Nat.le_refl _
  ·exact Nat.le_refl _
theorem B3f (lt:α→α→Bool)(l:List α)(x:α):isrt lt (l++[x])=insL lt (isrt lt l) x:=by unfold isrt;rw [List.foldl_append];rfl
theorem D0x (lt:α→α→Bool)(l:List α)(x:α):(insL lt l x).length=l.length+1:=by
 have:=C4e (lt x) l l.length
 unfold insL;simp;omega
theorem B3h (lt:α→α→Bool):∀(l acc:List α),(l.foldl (insL lt) acc).length=acc.length+l.length
 | [],acc=>rfl
 | x::r,acc=>by rw [List.foldl_cons,B3h lt r,D0x,List.length_cons];omega
theorem S0 (lt:α→α→Bool)(l:List α):(isrt lt l).length=l.length:=by unfold isrt;rw [B3h];simp
theorem B3d (lt:α→α→Bool){l:List α}{i:Nat}{x:α}(h:l[i]?=some x):isrt lt (l.take (i+1))=insL lt (isrt lt (l.take i)) x:=by
 rw [List.take_add_one,h];exact B3f lt _ x
theorem B1l {pre l:List α}{i:Nat}{x:α}(h:l[i]?=some x)(hp:pre.length=i):pre++l.drop i=swp pre x (l.drop (i+1)) i:=by
 unfold swp
 rw [drp h,show pre.take i=pre from List.take_of_length_le (by omega),show pre.drop i=[] from List.drop_eq_nil_of_le (by omega)];rfl
theorem A7c (lt:α→α→Bool){pre rest:List α}{x:α}{j:Nat}(hj:insN (lt x) pre pre.length=j):swp pre x rest j=insL lt pre x++rest:=by
 unfold swp insL
 rw [hj];simp
theorem A9f {p:α→Bool}{l:List α}{k:Nat}{y:α}(h:l[k]?=some y)(hp:p y=true):insN p l (k+1)=insN p l k:=by rw [insN,h];simp [hp]
theorem B5m {p:α→Bool}{l:List α}{k:Nat}{y:α}(h:l[k]?=some y)(hp:p y=false):insN p l (k+1)=k+1:=by rw [insN,h];simp [hp]
theorem B8p (lt:α→α→Bool)(l:List α):isrt lt (l.take 1)=l.take 1:=by
 cases l with
 | nil=>rfl
 | cons x r=>rw [List.take_succ_cons,List.take_zero];rfl
end
theorem A0y (l:List Int)(x y:Int):hasI (l++[x]) y=(hasI l y||decide (y=x)):=by
 unfold hasI
 simp [List.any_append]
end Go.Proofs.YtojadfppncgphaaGreatDoor
namespace Go.Dl
open Go.RowKit Go.En
theorem Rel.giveB {c:Cx}{n:Nat}{F:Fr}{H:Hp}{a:Act}{w:World}{k i j m:Nat}{t e:TypeId}{sz:Nat}{cs:List Lf}{rows:List (List Dt)}(h:Rel c n F H a w)(hk:lo H k=some (.box e cs))(hi:cs[i]?=some (.o j m))(hj:lo H j=some (.ls t sz m rows))(hl:rows.length≤140737488355328) :
  Rel c n F ((k,.box e (cs.set i (.d (.s sz rows))))::(j,.dead)::H) a w:=by
 obtain⟨h1,h2,γ,G,hw,hsl⟩:=h
 have hkj:k≠j:=fun e=>by subst e;rw [hk] at hj;cases hj
 obtain⟨g1,b,vs,g2,g3,g4⟩:=hw.obj k _ hk
 obtain⟨u,hu,_,hu2⟩:=A1i g4 hi
 have hOR:=hw.obj j _ hj
 obtain⟨h5,vs',h6,h7⟩:=own_sl hOR hu2
 have hblk:∀ b,blk u=some b→oblk γ j (.ls t sz m rows)=some b:=fun b hb=>by rw [h5] at hb;exact hb
 have hG:∀ b,G b→(G b∨blk u=some b)∧w.heap[b]?=w.heap[b]?:=fun b hb=>⟨.inl hb,rfl⟩
 have hobk:∀(ob:Ob),∀ b',oblk γ k (.box e (cs.set i (.d (.s sz rows))))=some b'→oblk γ k (.box e cs)=some b':=fun _ b' h=>h
 refine⟨h1,h2,γ,fun b=>G b∨blk u=some b,⟨hw.off,fun b hb=>.inl (hw.g0 b hb),fun b hb=>?_,fun q ob hq=>?_,fun q ob b' hq hb=>?_,fun q q' ob ob' b' hq hq' hb hb'=>?_,hw.lnk⟩,fun q x hq=>?_⟩
 ·rcases hb with hb|hb
  ·exact hw.glt b hb
  ·obtain⟨g1,_,g3⟩:=hw.own j _ b hj (hblk b hb)
   exact⟨g1,g3.elim (fun h=>.inr (.inr h)) fun h=>.inr (.inl h)⟩
 ·rw [D3] at hq
  split at hq
  ·rename_i e1;subst e1
   cases hq
   refine⟨g1,b,vs,g2,g3,C1t (A1j hG true _ _ (fun _ _=>.inl rfl) g4) hu ?_⟩
   rw [LR,DR]
   rcases O0 h6 with⟨q1,q2,_⟩|⟨b2,cap,q1,q2,_,_,q6⟩
   ·exact⟨none,0,by rw [q1,q2],by omega,hl,fun h=>absurd h (by omega)⟩
   ·exact⟨_,cap,q1,q2,hl,fun _=>⟨b2,0,rfl,.inr (by rw [q1];rfl),A2b hOR.2.1 q6 (G4 hG true _ _ h7)⟩⟩
  ·rw [D3] at hq
   split at hq
   ·cases hq;trivial
   ·exact OR.mv hG rfl (fun _ _=>.inl rfl) (fun _ _=>rfl) (hw.obj q ob hq)
 ·have key:∀(q:Nat) (ob0:Ob),lo H q=some ob0→oblk γ q ob0=some b'→q≠j→b'<w.heap.size∧¬(G b'∨blk u=some b')∧(c.M b'∨c.w0.heap.size≤b'):=fun q ob0 h3 h4 hne=>by
   obtain⟨q1,q2,q3⟩:=hw.own q ob0 b' h3 h4
   refine⟨q1,fun hg=>?_,q3⟩
   rcases hg with hg|hg
   ·exact q2 hg
   ·exact hne (hw.dis q j _ _ b' h3 hj h4 (hblk b' hg))
  rw [D3] at hq
  split at hq
  ·rename_i e1;subst e1
   cases hq
   exact key k _ hk hb hkj
  ·rw [D3] at hq
   split at hq
   ·cases hq;cases hb
   ·rename_i hne2
    exact key q ob hq hb (fun e=>hne2 e.symm)
 ·have key:∀(q:Nat) (ob:Ob),lo ((k,Ob.box e (cs.set i (.d (.s sz rows))))::(j,Ob.dead)::H) q=some ob→oblk γ q ob=some b'→∃ ob0,lo H q=some ob0∧oblk γ q ob0=some b':=fun q ob hq hb=>by
   rw [D3] at hq
   split at hq
   ·rename_i e1;subst e1
    cases hq
    exact⟨_,hk,hb⟩
   ·rw [D3] at hq
    split at hq
    ·cases hq;cases hb
    ·exact⟨ob,hq,hb⟩
  obtain⟨o1,p1,p2⟩:=key q ob hq hb
  obtain⟨o2,p3,p4⟩:=key q' ob' hq' hb'
  exact hw.dis q q' o1 o2 b' p1 p3 p2 p4
 ·obtain⟨v,q1,q2⟩:=hsl q x hq
  exact⟨v,q1,LR.mv hG x v (fun _ _=>.inl rfl) q2⟩
section
variable {P : Program}{c : Cx}{n : Nat}{Q : Post}{F : Fr}{H : Hp}
theorem A0b {x:Code}(k i:Nat){j m:Nat}{t e:TypeId}{sz:Nat}{cs:List Lf}{rows:List (List Dt)}(hk:lo H k=some (.box e cs))(hi:cs[i]?=some (.o j m))(hj:lo H j=some (.ls t sz m rows))(hl:rows.length≤140737488355328)
  (h:X P c n x Q F ((k,.box e (cs.set i (.d (.s sz rows))))::(j,.dead)::H)):X P c n x Q F H:=fun a w hr=>h a w (hr.giveB hk hi hj hl)
end
end Go.Dl
namespace Go.Proofs.YtojadfppncgphaaGreatDoor
open Go.RowKit Go.En Go.Dl Go.Tp
attribute [local irreducible] X XL XW XG XK Val LS Fp Fo Calls bodyPost Code.wp
abbrev phD (l:List Phn):Dt:=.g [.s 2 (l.map phC)]
theorem q6S {p:Prop}(h:p:=by first|(simp [one1, *,dB,dI,dS,List.anyB,List.allB,K0];done)|(simp_all [one1,dB,dI,dS,List.anyB,List.allB,K0];done)|(simp_all [one1,dB,dI,dS,List.anyB,List.allB,K0];omega)):p:=h
theorem c224 (l:List Phn)(s:Int):Fp Tryz.prog 224 [phD l,dI s] (dB (K0 l.length s)):=by
 refine fXw Tryz.func224 Tryz.ntmps224 fun c hM=>?_
 (repeat' (first|refine Wz ?_|refine Wb fun hb=>?_|apply Wd <;>intro hh))
 all_goals (refine rEw hM ?_;exact q6S)
theorem q7S {p:Prop}(h:p:=by first|(simp [one1, *,dB,dI,dS,List.anyB,List.allB];done)|(simp_all [one1,dB,dI,dS,List.anyB,List.allB];done)|(simp_all [one1,dB,dI,dS,List.anyB,List.allB];omega)):p:=h
theorem c267 (l:List Phn)(w:List Int):Fp Tryz.prog 267 [phD l,ints w] (dI (X2 l.length w)):=by
 unfold X2
 refine fXw Tryz.func267 Tryz.ntmps267 fun c hM=>?_
 by_cases hz:w.length=0
 ·(repeat' (first|refine Wz ?_|refine Wb fun hb=>?_|apply Wd <;>intro hh))
  all_goals (try exact oMw)
  rw [if_pos hz]
  exact rXw hM
 rw [if_neg hz]
 (repeat' (first|refine Wz ?_|refine Wb fun hb=>?_|apply Wd <;>intro hh))
 all_goals (try exact oMw)
 all_goals (try (all_goals (refine rEw hM ?_;exact q7S);done))
 refine X_lp (ι:=Nat) 33538096 [] (fun i=>[(14,.d (dI i))]) (fun _=>[]) (fun i=>i≤(w).length∧(fun _ q=>q.allB (K0 l.length)) 0 (w)=(fun _ q=>q.allB (K0 l.length)) i ((w).drop i)) (fun i=>(w).length-i) (0) ?_ ?_
 ·exact⟨zLw,rfl⟩
 rintro i ⟨hi,hq⟩
 by_cases hlt:i<(w).length
 rotate_left
 ·have hz:i=(w).length:=oEw
  subst hz
  rw [List.drop_eq_nil_of_le (Nat.le_refl _)] at hq
  try dsimp only at hq
  ((repeat' (first|refine Wz ?_|apply Wd <;>intro hh)) <;> first|(exfalso;omega)|(all_goals (refine rEw hM ?_;(try rw [hq]);exact q7S)))
 obtain⟨n,hn⟩:=gex hlt
 obtain⟨pv,hp⟩:=gex (l:=w) (i:=i-1) oEw
 have hpr:=B6 hp
 have hmem:=List.mem_of_getElem? hn
 rw [drp hn] at hq
 try dsimp only at hq
 obtain⟨b,hb⟩:∃ b,K0 l.length n=b:=⟨_,rfl⟩;have cb:=c224 l n;rw [hb] at cb
 all_goals (repeat' (first|refine iDw (gm hn) ?_|refine cDw D2j cb ?_|refine Wz ?_|refine Wd (fun hh=>?_) fun hh=>?_|(refine Wc (fun hg=>?_) (fun hg=>?_) <;>(first|subst hg|(simp at hg;subst hg)|skip))))
 all_goals (try exact oMw)
 all_goals first
  | exact A0 (i+1) ⟨oEw,by(try dsimp only);rw [hq];exact q7S⟩ oEw
  | (refine rEw hM ?_;(try rw [hq]);exact q7S)
theorem c268 (a b : List Int) : Fp Tryz.prog 268 [ints a, ints b] (dB (decide (a = b))) := by
 refine fXw Tryz.func268 Tryz.ntmps268 fun c hM=>?_
 by_cases hab:a.length=b.length
 ·(repeat' (first|refine Wz ?_|refine Wb fun hb=>?_|apply Wd <;>intro hh))
  all_goals (try exact oMw)
  refine X_lp (ι:=Nat) 67100720 [] (fun i=>[(13,.d (dI i))]) (fun _=>[]) (fun i=>i≤a.length∧decide (a=b)=decide (a.drop i=b.drop i)) (fun i=>a.length-i) (0) ?_ ?_
  ·exact⟨zLw,rfl⟩
  rintro i ⟨hi,hq⟩
  by_cases hlt:i<a.length
  ·obtain⟨n,hn⟩:=gex hlt
   obtain⟨m,hm⟩:=gex (l:=b) (i:=i) oEw
   rw [drp hn,drp hm] at hq
   by_cases hnm:n=m
   ·subst hnm
    (repeat' (first|(refine M0 ?_;first|(refine D2 (fun _=>zL Z Z Z) Z Z (fun hh=>?_) (fun hh=>?_) <;>(try (exfalso;omega)))|(refine D2 (fun _=>zQ Z Z Z) Z Z (fun hh=>?_) (fun hh=>?_) <;>(try (exfalso;omega))))|refine G_x (A2 (m:=i) Z Z Z Z (gm hn)) Z Z ?_|refine G_x (A2 (m:=i) Z Z Z Z (gm hm)) Z Z ?_|refine Wz ?_|fail))
    all_goals first|(exfalso;omega)|(exfalso;simp at hh;done)|skip
    exact A0 (i+1) ⟨oEw,by rw [hq];simp⟩ oEw
   ·(repeat' (first|(refine M0 ?_;first|(refine D2 (fun _=>zL Z Z Z) Z Z (fun hh=>?_) (fun hh=>?_) <;>(try (exfalso;omega)))|(refine D2 (fun _=>zQ Z Z Z) Z Z (fun hh=>?_) (fun hh=>?_) <;>(try (exfalso;omega))))|refine G_x (A2 (m:=i) Z Z Z Z (gm hn)) Z Z ?_|refine G_x (A2 (m:=i) Z Z Z Z (gm hm)) Z Z ?_|refine Wz ?_|fail))
    all_goals first|(exfalso;omega)|skip
    rw [hq]
    all_goals (refine rEw hM ?_;exact q7S)
  ·(repeat' (first|refine Wz ?_|apply Wd <;>intro hh))
   all_goals (try exact oMw)
   rw [hq,List.drop_eq_nil_of_le oEw,List.drop_eq_nil_of_le oEw]
   all_goals (refine rEw hM ?_;exact q7S)
 ·have hne:a≠b:=fun h=>hab (by rw [h])
  (repeat' (first|refine Wz ?_|refine Wb fun hb=>?_|apply Wd <;>intro hh))
  all_goals (try exact oMw)
  all_goals (refine rEw hM ?_;exact q7S)
theorem q8S {p:Prop}(h:p:=by first|(simp [one1, *,dB,dI,dS,List.anyB,List.allB,fstE];done)|(simp_all [one1,dB,dI,dS,List.anyB,List.allB,fstE];done)|(simp_all [one1,dB,dI,dS,List.anyB,List.allB,fstE];omega)):p:=h
theorem c69 (l : List Phn)(ht : ∀ p ∈ l, p.name.length ≤ 1048576) : Fp Tryz.prog 69 [phD l] (dI (C3g l)) := by
 unfold C3g
 refine fXw Tryz.func69 Tryz.ntmps69 fun c hM=>?_
 (repeat' (first|refine Wz ?_|refine Wb fun hb=>?_|apply Wd <;>intro hh))
 all_goals (try exact oMw)
 all_goals (try (all_goals (refine rEw hM ?_;exact q7S);done))
 refine X_lp (ι:=Nat) 288230376151707676 [] (fun i=>[(12,.d (dI i))]) (fun _=>[]) (fun i=>i≤(l).length∧(fun i q=>fstE (fun i p=>if H2 p.name=false then 7 else if ((l.take i).anyB fun x=>decide (x.name=p.name)) then 8 else if p.feat<0∨65536≤p.feat then 2 else 0) i q) 0 (l)=(fun i q=>fstE (fun i p=>if H2 p.name=false then 7 else if ((l.take i).anyB fun x=>decide (x.name=p.name)) then 8 else if p.feat<0∨65536≤p.feat then 2 else 0) i q) i ((l).drop i)) (fun i=>(l).length-i) (0) ?_ ?_
 ·exact⟨zLw,rfl⟩
 rintro i ⟨hi,hq⟩
 by_cases hlt:i<(l).length
 rotate_left
 ·have hz:i=(l).length:=oEw
  subst hz
  rw [List.drop_eq_nil_of_le (Nat.le_refl _)] at hq
  try dsimp only at hq
  ((repeat' (first|refine Wz ?_|apply Wd <;>intro hh)) <;> first|(exfalso;omega)|(all_goals (refine rEw hM ?_;(try rw [hq]);exact q8S)))
 obtain⟨n,hn⟩:=gex hlt
 obtain⟨pv,hp⟩:=gex (l:=l) (i:=i-1) oEw
 have hpr:=B6 hp
 have hmem:=List.mem_of_getElem? hn
 rw [drp hn] at hq
 try dsimp only at hq
 obtain⟨b,hb⟩:∃ b,H2 n.name=b:=⟨_,rfl⟩;have cb:=c149 n.name (ht n hmem);rw [hb] at cb
 (repeat' (first|refine iDw (gm hn) ?_|refine cDw A9s cb ?_|refine Wz ?_|refine Wd (fun hh=>?_) fun hh=>?_|(refine Wc (fun hg=>?_) (fun hg=>?_) <;>(first|subst hg|(simp at hg;subst hg)|skip))))
 all_goals (try exact oMw)
 all_goals (try (all_goals (refine rEw hM ?_;(try rw [hq]);exact q8S);done))
 all_goals (
  refine X_lp (ι:=Nat) 2199014866964 [] (fun k=>[(4,.d (dI k))]) (fun _=>[]) (fun k=>k≤i∧((l).take i).anyB (fun m=>decide (m.name=n.name))=(((l).take i).drop k).anyB (fun m=>decide (m.name=n.name))) (fun k=>i-k) (0) ?_ ?_
  ·exact⟨zLw,rfl⟩
  rintro k ⟨hk,hqk⟩
  by_cases hltk:k<i
  ·obtain⟨m,hm⟩:=gex (l:=l) (i:=k) oEw
   have hmt:((l).take i)[k]?=some m:=by rw [List.getElem?_take_of_lt hltk];exact hm
   rw [drp hmt] at hqk
   (repeat' (first|refine iDw (gm hm) ?_|refine iDw (gm hn) ?_|refine Wz ?_|apply Wd <;>intro hh))
   all_goals (try exact oMw)
   all_goals first
    | exact A0 (k+1) ⟨oEw,by rw [hqk];exact q8S⟩ oEw
    | (refine rEw hM ?_;(try rw [hq]);exact q8S)
  have hzk:i=k:=oEw
  subst hzk
  rw [List.drop_eq_nil_of_le (by rw [List.length_take];omega)] at hqk
  simp only [List.anyB] at hqk
  (repeat' (first|refine iDw (gm hn) ?_|refine Wz ?_|apply Wd <;>intro hh))
  all_goals (try exact oMw)
  all_goals first
   | exact A0 (i+1) ⟨oEw,by(try dsimp only);rw [hq];exact q8S⟩ oEw
   | (refine rEw hM ?_;(try rw [hq]);exact q8S))
theorem c154 (l:List Phn)(r:Rew)(hf:r.frm.length≤1099511627776):Fp Tryz.prog 154 [phD l,.g (rewC r)] (dI (rewE l.length r)):=by
 unfold rewE orE
 refine fXw Tryz.func154 Tryz.ntmps154 fun c hM=>?_
 by_cases hz:r.frm.length=0∨r.til.length≠r.frm.length
 ·rw [if_pos hz]
  (repeat' (first|(refine M0 ?_;first|(refine D2 (fun _=>zM Z Z Z) Z Z (fun hh=>?_) (fun hh=>?_) <;>(try (exfalso;omega)))|(refine D2 (fun _=>zQ Z Z Z) Z Z (fun hh=>?_) (fun hh=>?_) <;>(try (exfalso;omega))))|refine Wz ?_|refine Wb fun hb=>?_))
  all_goals (try exact oMw)
  all_goals exact rXw hM
 rw [if_neg hz]
 have hl2:r.til.length=r.frm.length:=oEw
 (repeat' (first|(refine M0 ?_;first|(refine D2 (fun _=>zM Z Z Z) Z Z (fun hh=>?_) (fun hh=>?_) <;>(try (exfalso;omega)))|(refine D2 (fun _=>zQ Z Z Z) Z Z (fun hh=>?_) (fun hh=>?_) <;>(try (exfalso;omega))))|refine Wz ?_|refine Wb fun hb=>?_))
 all_goals (try exact oMw)
 refine X_lp (ι:=Nat) 4503599623176240 [] (fun i=>[(22,.d (dI i))]) (fun _=>[]) (fun i=>i≤(r.frm).length∧(fun i q=>fstE (fun i s=>if K0 l.length s=false∨(r.til.getD i 0≠0∧K0 l.length (r.til.getD i 0)=false) then 19 else 0) i q) 0 (r.frm)=(fun i q=>fstE (fun i s=>if K0 l.length s=false∨(r.til.getD i 0≠0∧K0 l.length (r.til.getD i 0)=false) then 19 else 0) i q) i ((r.frm).drop i)) (fun i=>(r.frm).length-i) (0) ?_ ?_
 ·exact⟨zLw,rfl⟩
 rintro i ⟨hi,hq⟩
 by_cases hlt:i<(r.frm).length
 rotate_left
 ·have hz:i=(r.frm).length:=oEw
  subst hz
  rw [List.drop_eq_nil_of_le (Nat.le_refl _)] at hq
  try dsimp only at hq
  ((repeat' (first|refine G_x (A3 Z Z Z D2i (c225 r.frm oEw)) Z Z ?_|refine Wz ?_|refine Wb fun hb=>?_|apply Wd <;>intro hh)) <;> first|(exfalso;omega)|(all_goals (refine rEw hM ?_;(try rw [hq]);exact q8S)))
 obtain⟨n,hn⟩:=gex hlt
 obtain⟨pv,hp⟩:=gex (l:=r.frm) (i:=i-1) oEw
 have hpr:=B6 hp
 have hmem:=List.mem_of_getElem? hn
 rw [drp hn] at hq
 try dsimp only at hq
 obtain⟨tl,htl⟩:=gex (l:=r.til) (i:=i) oEw;have htd:r.til.getD i 0=tl:=(by simp [List.getD_eq_getElem?_getD,htl]);rw [fstE,htd] at hq;obtain⟨b,hb⟩:∃ b,K0 l.length n=b:=⟨_,rfl⟩;have cb:=c224 l n;rw [hb] at cb;obtain⟨e,he⟩:∃ b,K0 l.length tl=b:=⟨_,rfl⟩;have ce:=c224 l tl;rw [he] at ce
 all_goals (repeat' (first|refine iDw (gm hn) ?_|refine iDw (gm htl) ?_|refine G_x (A3 Z Z Z D2j (cb) (.eq rfl)) Z Z ?_|refine G_x (A3 Z Z Z D2j (ce) (.eq rfl)) Z Z ?_|refine Wz ?_|refine Wd (fun hh=>?_) fun hh=>?_|(refine Wg (fun hg=>?_) (fun hg=>?_) <;>(first|subst hg|(simp at hg;subst hg)))|(refine Wc (fun hg=>?_) (fun hg=>?_) <;>(first|subst hg|(simp at hg;subst hg)|skip))))
 all_goals (try exact oMw)
 all_goals first
  | exact A0 (i+1) ⟨oEw,by(try dsimp only);rw [hq];exact q8S⟩ oEw
  | (refine rEw hM ?_;(try rw [hq]);exact q8S)
theorem c71 (g:Lng)(hr:∀ r∈g.rules,r.frm.length≤1099511627776):Fp Tryz.prog 71 [.g (lngC g)] (dI (B5b g)):=by
 unfold B5b
 refine fXw Tryz.func71 Tryz.ntmps71 fun c hM=>?_
 (repeat' (first|refine Wz ?_|refine Wb fun hb=>?_|apply Wd <;>intro hh))
 all_goals (try exact oMw)
 all_goals (try (all_goals (refine rEw hM ?_;exact q7S);done))
 refine X_lp (ι:=Nat) 134217244 [] (fun i=>[(3,.d (dI i))]) (fun _=>[]) (fun i=>i≤(g.rules).length∧(fun i q=>fstE (fun _ r=>rewE g.segs.length r) i q) 0 (g.rules)=(fun i q=>fstE (fun _ r=>rewE g.segs.length r) i q) i ((g.rules).drop i)) (fun i=>(g.rules).length-i) (0) ?_ ?_
 ·exact⟨zLw,rfl⟩
 rintro i ⟨hi,hq⟩
 by_cases hlt:i<(g.rules).length
 rotate_left
 ·have hz:i=(g.rules).length:=oEw
  subst hz
  rw [List.drop_eq_nil_of_le (Nat.le_refl _)] at hq
  try dsimp only at hq
  ((repeat' (first|refine Wz ?_|refine Wb fun hb=>?_|apply Wd <;>intro hh)) <;> first|(exfalso;omega)|(all_goals (refine rEw hM ?_;(try rw [hq]);exact q8S)))
 obtain⟨n,hn⟩:=gex hlt
 obtain⟨pv,hp⟩:=gex (l:=g.rules) (i:=i-1) oEw
 have hpr:=B6 hp
 have hmem:=List.mem_of_getElem? hn
 rw [drp hn] at hq
 try dsimp only at hq
 all_goals (repeat' (first|refine iDw (gm hn) ?_|refine cDw H0d (c154 g.segs n (hr n hmem)) ?_|refine Wz ?_|refine Wb fun hb=>?_|apply Wd <;>intro hh))
 all_goals (try exact oMw)
 all_goals first
  | exact A0 (i+1) ⟨oEw,by(try dsimp only);rw [hq];exact q8S⟩ oEw
  | (refine rEw hM ?_;(try rw [hq]);exact q8S)
theorem c151 (l:List Phn)(o:Orth)(i:Nat)(u:Unt)(hu:o.units[i]?=some u)(hg:u.graph.length≤1048576)(hll:o.units.length≤140737488355328):Fp Tryz.prog 151 [phD l,.g (A0h o),dI i] (dI (A7z l.length o.units i u)):=by
 unfold A7z
 have hlt:=(List.getElem?_eq_some_iff.1 hu).1
 obtain⟨b,hb⟩:∃ b,A9e u.graph=b:=⟨_,rfl⟩;have cb:=n152 u.graph hg;rw [hb] at cb
 refine fXw Tryz.func151 Tryz.ntmps151 fun c hM=>?_
 (repeat' (first|refine iDw (gm hu) ?_|refine cDw G1o cb ?_|refine Wz ?_|(refine Wc (fun hg=>?_) (fun hg=>?_) <;>(first|subst hg|(simp at hg;subst hg)|skip))))
 all_goals (try exact oMw)
 all_goals (try (all_goals (refine rEw hM ?_;exact q7S);done))
 refine X_lp (ι:=Nat) 8589410624 [] (fun k=>[(8,.d (dI k))]) (fun _=>[]) (fun k=>k≤i∧((o.units).take i).anyB (fun m=>decide (m.graph=u.graph))=(((o.units).take i).drop k).anyB (fun m=>decide (m.graph=u.graph))) (fun k=>i-k) (0) ?_ ?_
 ·exact⟨zLw,rfl⟩
 rintro k ⟨hk,hqk⟩
 by_cases hltk:k<i
 ·obtain⟨m,hm⟩:=gex (l:=o.units) (i:=k) oEw
  have hmt:((o.units).take i)[k]?=some m:=by rw [List.getElem?_take_of_lt hltk];exact hm
  rw [drp hmt] at hqk
  (repeat' (first|refine iDw (gm hm) ?_|refine Wz ?_|refine Wb fun hb=>?_|apply Wd <;>intro hh))
  all_goals (try exact oMw)
  all_goals first
   | exact A0 (k+1) ⟨oEw,by rw [hqk];exact q7S⟩ oEw
   | (refine rEw hM ?_;(try rw [hq]);exact q7S)
 have hzk:i=k:=oEw
 subst hzk
 rw [List.drop_eq_nil_of_le (by rw [List.length_take];omega)] at hqk
 simp only [List.anyB] at hqk
 by_cases hs:u.segs.length<1∨3<u.segs.length
 ·(repeat' (first|refine Wz ?_|refine Wb fun hb=>?_|apply Wd <;>intro hh))
  all_goals (try exact oMw)
  all_goals (refine rEw hM ?_;exact q7S)
 ·(repeat' (first|refine Wz ?_|refine Wb fun hb=>?_|apply Wd <;>intro hh))
  all_goals (try exact oMw)
  refine X_lp (ι:=Nat) 147573943793583391296 [] (fun i=>[(9,.d (dI i))]) (fun _=>[]) (fun i=>i≤(u.segs).length∧(fun _ q=>q.allB (K0 l.length)) 0 (u.segs)=(fun _ q=>q.allB (K0 l.length)) i ((u.segs).drop i)) (fun i=>(u.segs).length-i) (0) ?_ ?_
  ·exact⟨zLw,rfl⟩
  rintro i ⟨hi,hq⟩
  by_cases hlt:i<(u.segs).length
  rotate_left
  ·have hz:i=(u.segs).length:=oEw
   subst hz
   rw [List.drop_eq_nil_of_le (Nat.le_refl _)] at hq
   try dsimp only at hq
   ((repeat' (first|refine Wz ?_|refine Wb fun hb=>?_|apply Wd <;>intro hh)) <;> first|(exfalso;omega)|(all_goals (refine rEw hM ?_;(try rw [hq]);exact q7S)))
  obtain⟨n,hn⟩:=gex hlt
  obtain⟨pv,hp⟩:=gex (l:=u.segs) (i:=i-1) oEw
  have hpr:=B6 hp
  have hmem:=List.mem_of_getElem? hn
  rw [drp hn] at hq
  try dsimp only at hq
  all_goals (repeat' (first|refine iDw (gm hn) ?_|refine Wz ?_|refine Wb fun hb=>?_|apply Wd <;>intro hh))
  all_goals (try exact oMw)
  all_goals first
   | exact A0 (i+1) ⟨oEw,by(try dsimp only);rw [hq];exact q6S⟩ oEw
   | (refine rEw hM ?_;(try rw [hq]);exact q6S)
end Go.Proofs.YtojadfppncgphaaGreatDoor
