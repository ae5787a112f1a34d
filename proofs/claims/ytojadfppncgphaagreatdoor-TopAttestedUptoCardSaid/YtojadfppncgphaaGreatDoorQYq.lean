/- Own text. -/
import Derived.Test.YtojadfppncgphaaGreatDoorQYp
import Derived.Test.YtojadfppncgphaaGreatDoorQYo
set_option linter.all false
set_option maxHeartbeats 16000000
set_option maxRecDepth 8000
namespace Go.Proofs.YtojadfppncgphaaGreatDoor
section
open Go.RowKit Go.En Go.Dl Go.Tp
theorem D5i {P:Program}{L:List (Nat × Value)}{w:World}{o:Oper}{t e u:TypeId}{x y:Operand}{a b c a' b' c':Int}{r:Bool}(h:Go.En.Ints P t e 3)(ho:o.op=.binOp .neq t x y u)(hx:ev L x=some (.agg #[int a,int b,int c]))(hy:ev L y=some (.agg #[int a',int b',int c']))(hr:(decide (a=a')&&(decide (b=b')&&decide (c=c')))=r):Val P L w o (.bool (!r)):=fun ρ ha=>by
 have h1:=ha.ev (by rw [ho];simp [Op.operands]) hx
 have h2:=ha.ev (by rw [ho];simp [Op.operands]) hy
 have h3:=run_eqGuard_agg (P:=P) w .neq t x y #[int a,int b,int c] #[int a',int b',int c'] h.hg
 have h4:=run_neq_struct (P:=P) w t #[int a,int b,int c] #[int a',int b',int c']
 have h5:=A6e (w:=w) (l1:=[a,b,c]) (l2:=[a',b',c']) h rfl
 have h6:decide ([a,b,c]=[a',b',c'])=r:=by rw [← hr,Bool.eq_iff_iff];simp
 rw [h6] at h5
 have h7:(Op.equalIn 10000 t (.agg #[int a,int b,int c]) (.agg #[int a',int b',int c'])).run P w=.ok r w:=h5
 simp [execOp,ho,h1,h2,h3,h4,h7,go_sem]
theorem G3p {P:Program}{o:Oper}{F:Fr}{H:Hp}{t e u:TypeId}{x y:Operand}{a b c a' b' c':Int}{r:Bool}(h:Go.En.Ints P t e 3)(ho:o.op=.binOp .neq t x y u)(hx:ev (pk F o) x=some (.agg #[int a,int b,int c]))(hy:ev (pk F o) y=some (.agg #[int a',int b',int c']))(hr:(decide (a=a')&&(decide (b=b')&&decide (c=c')))=r):LS P o F H [] (some (.d (.v (.bool (!r))))) []:=A7 fun _=>D5i h ho hx hy hr
attribute [local irreducible] X XL XW XG XK Val LS Fp Fo Calls bodyPost Code.wp
theorem D7j:Go.En.Ints Tryz.prog 197 3 3:=⟨by kernel_rfl,by kernel_rfl,by kernel_rfl,by kernel_rfl,Tryz.underlying3⟩
theorem D7i:Go.En.Ints Tryz.prog 208 3 3:=⟨by kernel_rfl,by kernel_rfl,by kernel_rfl,by kernel_rfl,Tryz.underlying3⟩
theorem C8b:TwoInts Tryz.prog 77 3:=⟨by kernel_rfl,by kernel_rfl,by kernel_rfl,by kernel_rfl,Tryz.underlying3⟩
theorem G3r {P:Program}{o:Oper}{F:Fr}{H:Hp}{t e u:TypeId}{x y:Operand}{a b c a' b' c':Int}{r:Bool}(h:Go.En.Ints P t e 3)(ho:o.op=.binOp .eql t x y u)(hx:ev (pk F o) x=some (.agg #[int a,int b,int c]))(hy:ev (pk F o) y=some (.agg #[int a',int b',int c']))(hr:(decide (a=a')&&(decide (b=b')&&decide (c=c')))=r):LS P o F H [] (some (.d (.v (.bool r)))) []:=
 A7 fun _=>B6t [a,b,c] [a',b',c'] h rfl ho hx hy Z Z (by rw [← hr,Bool.eq_iff_iff];simp)
theorem Z7 {P:Program}{o:Oper}{F:Fr}{H:Hp}{t e u:TypeId}{x y:Operand}{a b c d:Int}{r:Bool}(h:TwoInts P t e)(ho:o.op=.binOp .eql t x y u)(hx:ev (pk F o) x=some (.agg #[int a,int b]))(hy:ev (pk F o) y=some (.agg #[int c,int d]))(hr:(decide (a=c)&&decide (b=d))=r):LS P o F H [] (some (.d (.v (.bool r)))) []:=by
 have:=D0g (H:=H) h ho hx hy
 rwa [hr] at this
theorem c155 (n:Netw)(q:Int):Fp Tryz.prog 155 [.g (netC n),dI q] (dB (stB n q)):=by
 refine fXw Tryz.func155 Tryz.ntmps155 fun c hM=>?_
 (repeat' (first|refine Wz ?_|apply Wd <;>intro hh))
 all_goals (refine rEw hM ?_;(first|(simp [one1, *,dB,dI,dS,List.anyB,List.allB,stB];done)|(simp_all [one1,dB,dI,dS,List.anyB,List.allB,stB];done)|(simp_all [one1,dB,dI,dS,List.anyB,List.allB,stB];omega)))
theorem q15S {p:Prop}(h:p:=by first|(simp [one1, *,dB,dI,dS,List.anyB,List.allB];done)|(simp_all [one1,dB,dI,dS,List.anyB,List.allB];done)|(simp_all [one1,dB,dI,dS,List.anyB,List.allB];omega)):p:=h
theorem q16S {p:Prop}(h:p:=by first|(simp [one1, *,dB,dI,dS,List.anyB,List.allB,fstE];done)|(simp_all [one1,dB,dI,dS,List.anyB,List.allB,fstE];done)|(simp_all [one1,dB,dI,dS,List.anyB,List.allB,fstE];omega)):p:=h
theorem c72 (n : Netw) : Fp Tryz.prog 72 [.g (netC n)] (dI (netE n)) := by
 unfold netE orE
 obtain⟨nt,hnt⟩:∃ nt,nt=n:=⟨_,rfl⟩
 rw [← hnt]
 clear hnt n
 refine fXw Tryz.func72 Tryz.ntmps72 fun c hM=>?_
 (repeat' (first|refine Wz ?_|refine Wb fun hb=>?_|apply Wd <;>intro hh))
 all_goals (try exact oMw)
 all_goals (try (all_goals (refine rEw hM ?_;exact q15S);done))
 refine X_lp (ι:=Nat) 18446744073708503100 [] (fun i=>[(3,.d (dI i))]) (fun _=>[]) (fun i=>i≤(nt.steps).length∧(fun i q=>fstE (fun i x=>if stB nt x.frm=false∨stB nt x.til=false then 2 else if x.cls<1∨20<x.cls then 21 else if ((nt.steps.take i).anyB fun y=>decide (y.frm=x.frm)&&(decide (y.cls=x.cls)&&decide (y.til=x.til))) then 8 else 0) i q) 0 (nt.steps)=(fun i q=>fstE (fun i x=>if stB nt x.frm=false∨stB nt x.til=false then 2 else if x.cls<1∨20<x.cls then 21 else if ((nt.steps.take i).anyB fun y=>decide (y.frm=x.frm)&&(decide (y.cls=x.cls)&&decide (y.til=x.til))) then 8 else 0) i q) i ((nt.steps).drop i)) (fun i=>(nt.steps).length-i) (0) ?_ ?_
 ·exact⟨zLw,rfl⟩
 rintro i ⟨hi,hq⟩
 by_cases hlt:i<(nt.steps).length
 rotate_left
 ·have hz:i=(nt.steps).length:=oEw
  subst hz
  rw [List.drop_eq_nil_of_le (Nat.le_refl _)] at hq
  try dsimp only at hq
  have h1:=hq
  clear hq
  rw [fstE] at h1
  rw [h1]
  (repeat' (first|refine Wz ?_|refine Wb fun hb=>?_|apply Wd <;>intro hh))
  all_goals (try exact oMw)
  refine X_lp (ι:=Nat) 9671388110172959688097860 [] (fun i=>[(6,.d (dI i))]) (fun _=>[]) (fun i=>1≤i∧upB nt.final=upB (nt.final.drop (i-1))) (fun i=>nt.final.length+1-i) (1) ?_ ?_
  ·exact⟨Nat.le_refl _,rfl⟩
  rintro i ⟨hi,hq⟩
  by_cases hlt:i<nt.final.length
  ·obtain⟨n,hn⟩:=gex hlt
   obtain⟨pv,hp⟩:=gex (l:=nt.final) (i:=i-1) oEw
   rw [drp hp,show i-1+1=i by omega,drp hn] at hq
   by_cases hlt2:pv<n
   ·(repeat' (first|(refine M0 ?_;first|(refine D2 (fun _=>zL Z Z Z) Z Z (fun hh=>?_) (fun hh=>?_) <;>(try (exfalso;omega)))|(refine D2 (fun _=>zN Z Z Z) Z Z (fun hh=>?_) (fun hh=>?_) <;>(try (exfalso;omega))))|refine G_x (A2 (m:=i) Z Z Z Z (gm hn)) Z Z ?_|refine G_x (A2 (m:=i-1) Z Z Z oEw (gm hp)) Z Z ?_|refine Wz ?_|refine Wb fun hb=>?_))
    all_goals (try exact oMw)
    exact A0 (i+1) ⟨oEw,by rw [hq,upB,Nat.add_sub_cancel,drp hn];simp [*]⟩ oEw
   ·(repeat' (first|(refine M0 ?_;first|(refine D2 (fun _=>zL Z Z Z) Z Z (fun hh=>?_) (fun hh=>?_) <;>(try (exfalso;omega)))|(refine D2 (fun _=>zN Z Z Z) Z Z (fun hh=>?_) (fun hh=>?_) <;>(try (exfalso;omega))))|refine G_x (A2 (m:=i) Z Z Z Z (gm hn)) Z Z ?_|refine G_x (A2 (m:=i-1) Z Z Z oEw (gm hp)) Z Z ?_|refine Wz ?_|refine Wb fun hb=>?_))
    all_goals (try exact oMw)
    rw [upB,show decide (pv<n)=false by simpa using hlt2,Bool.false_and] at hq
    all_goals (refine rEw hM ?_;(try rw [hq]);exact q15S)
  ·rw [B1i (l:=nt.final.drop (i-1)) (by rw [List.length_drop];omega)] at hq
   (repeat' (first|refine Wz ?_|refine Wb fun hb=>?_|apply Wd <;>intro hh))
   all_goals (try exact oMw)
   have h2:=hq
   clear hq
   refine X_lp (ι:=Nat) 316902978650500433340778152068 [] (fun i=>[(7,.d (dI i))]) (fun _=>[]) (fun i=>i≤(nt.final).length∧(fun _ q=>q.allB (stB nt)) 0 (nt.final)=(fun _ q=>q.allB (stB nt)) i ((nt.final).drop i)) (fun i=>(nt.final).length-i) (0) ?_ ?_
   ·exact⟨zLw,rfl⟩
   rintro i ⟨hi,hq⟩
   by_cases hlt:i<(nt.final).length
   rotate_left
   ·have hz:i=(nt.final).length:=oEw
    subst hz
    rw [List.drop_eq_nil_of_le (Nat.le_refl _)] at hq
    try dsimp only at hq
    ((repeat' (first|refine Wz ?_|refine Wb fun hb=>?_|apply Wd <;>intro hh)) <;> first|(exfalso;omega)|(refine rEw hM ?_;rw [hq,if_neg oEw,if_neg oEw,if_neg (by simp),h2];rfl))
   obtain⟨n,hn⟩:=gex hlt
   obtain⟨pv,hp⟩:=gex (l:=nt.final) (i:=i-1) oEw
   have hpr:=B6 hp
   have hmem:=List.mem_of_getElem? hn
   rw [drp hn] at hq
   try dsimp only at hq
   obtain⟨b,hb⟩:∃ b,stB nt n=b:=⟨_,rfl⟩;have cb:=c155 nt n;rw [hb] at cb
   all_goals (repeat' (first|refine iDw (gm hn) ?_|refine cDw D2q cb ?_|refine Wz ?_|refine Wb fun hb=>?_|refine Wd (fun hh=>?_) fun hh=>?_|(refine Wc (fun hg=>?_) (fun hg=>?_) <;>(first|subst hg|(simp at hg;subst hg)|skip))))
   all_goals (try exact oMw)
   all_goals first
    | exact A0 (i+1) ⟨oEw,by(try dsimp only);rw [hq];exact q15S⟩ oEw
    | (refine rEw hM ?_;(try rw [hq]);exact q15S)
 obtain⟨n,hn⟩:=gex hlt
 obtain⟨pv,hp⟩:=gex (l:=nt.steps) (i:=i-1) oEw
 have hpr:=B6 hp
 have hmem:=List.mem_of_getElem? hn
 rw [drp hn] at hq
 try dsimp only at hq
 obtain⟨b,hb⟩:∃ b,stB nt n.frm=b:=⟨_,rfl⟩;have cb:=c155 nt n.frm;rw [hb] at cb;obtain⟨e,he⟩:∃ b,stB nt n.til=b:=⟨_,rfl⟩;have ce:=c155 nt n.til;rw [he] at ce
 (repeat' (first|refine iDw (gm hn) ?_|refine G_x (A3 Z Z Z D2q (cb) (.eq rfl)) Z Z ?_|refine G_x (A3 Z Z Z D2q (ce) (.eq rfl)) Z Z ?_|refine Wz ?_|refine Wb fun hb=>?_|refine Wd (fun hh=>?_) fun hh=>?_|(refine Wg (fun hg=>?_) (fun hg=>?_) <;>(first|subst hg|(simp at hg;subst hg)))|(refine Wc (fun hg=>?_) (fun hg=>?_) <;>(first|subst hg|(simp at hg;subst hg)|skip))))
 all_goals (try exact oMw)
 all_goals (try (all_goals (refine rEw hM ?_;(try rw [hq]);exact q16S);done))
 all_goals (
  refine X_lp (ι:=Nat) 18442240474082181156 [] (fun k=>[(5,.d (dI k))]) (fun _=>[]) (fun k=>k≤i∧((nt.steps).take i).anyB (fun m=>decide (m.frm=n.frm)&&(decide (m.cls=n.cls)&&decide (m.til=n.til)))=(((nt.steps).take i).drop k).anyB (fun m=>decide (m.frm=n.frm)&&(decide (m.cls=n.cls)&&decide (m.til=n.til)))) (fun k=>i-k) (0) ?_ ?_
  ·exact⟨zLw,rfl⟩
  rintro k ⟨hk,hqk⟩
  by_cases hltk:k<i
  ·obtain⟨m,hm⟩:=gex (l:=nt.steps) (i:=k) oEw
   have hmt:((nt.steps).take i)[k]?=some m:=by rw [List.getElem?_take_of_lt hltk];exact hm
   rw [drp hmt] at hqk
   (repeat' (first|refine iDw (gm hm) ?_|refine G_x (G3r (r:=_) D7j Z Z Z Z) Z Z ?_|refine Wz ?_|refine Wd (fun hh=>?_) fun hh=>?_|(refine Wc (fun hg=>?_) (fun hg=>?_) <;>(first|subst hg|(simp at hg;subst hg)|skip))))
   all_goals (try exact oMw)
   all_goals first
    | exact A0 (k+1) ⟨oEw,by rw [hqk];exact q16S⟩ oEw
    | (refine rEw hM ?_;(try rw [hq]);exact q16S)
  have hzk:i=k:=oEw
  subst hzk
  rw [List.drop_eq_nil_of_le (by rw [List.length_take];omega)] at hqk
  simp only [List.anyB] at hqk
  (repeat' (first|refine iDw (gm hn) ?_|refine Wz ?_|apply Wd <;>intro hh))
  all_goals (try exact oMw)
  all_goals first
   | exact A0 (i+1) ⟨oEw,by(try dsimp only);rw [hq];exact q16S⟩ oEw
   | (refine rEw hM ?_;(try rw [hq]);exact q16S))
theorem c232 (a b:Prt):Fp Tryz.prog 232 [.g (prtC a),.g (prtC b)] (dB (befP a b)):=by
 refine fXw Tryz.func232 Tryz.ntmps232 fun c hM=>?_
 (repeat' (first|refine Wz ?_|apply Wd <;>intro hh))
 all_goals (refine rEw hM ?_;(first|(simp [one1, *,dB,dI,dS,List.anyB,List.allB,befP];done)|(simp_all [one1,dB,dI,dS,List.anyB,List.allB,befP];done)|(simp_all [one1,dB,dI,dS,List.anyB,List.allB,befP];omega)))
theorem c172 (a b : List Prt) : Fp Tryz.prog 172 [.g [.s 3 (a.map prtC)], .g [.s 3 (b.map prtC)]] (dB (A4g a b)) := by
 refine fXw Tryz.func172 Tryz.ntmps172 fun c hM=>?_
 (repeat' (first|refine Wz ?_|fail))
 refine X_lp (ι:=Nat) 4398046511088 [] (fun i=>[(5,.d (dI i))]) (fun _=>[]) (fun i=>i≤a.length∧i≤b.length∧A4g a b=A4g (a.drop i) (b.drop i)) (fun i=>a.length-i) (0) ?_ ?_
 ·exact⟨zLw,zLw,rfl⟩
 rintro i ⟨hi,hj,hq⟩
 by_cases h1:i<a.length
 ·obtain⟨n,hn⟩:=gex h1
  by_cases h2:i<b.length
  ·obtain⟨m,hm⟩:=gex h2
   obtain⟨z,hz⟩:∃ z,(decide (n.entry=m.entry)&&(decide (n.alt=m.alt)&&decide (n.sense=m.sense)))=z:=⟨_,rfl⟩
   rw [drp hn,drp hm,A4g,eqP,hz] at hq
   (repeat' (first|(refine M0 ?_;first|(refine D2 (fun _=>zL Z Z Z) Z Z (fun hh=>?_) (fun hh=>?_) <;>(try (exfalso;omega))))|refine G_x (A2 (m:=i) Z Z Z Z (gm hn)) Z Z ?_|refine G_x (A2 (m:=i) Z Z Z Z (gm hm)) Z Z ?_|refine G_x (G3p D7i Z Z Z hz) Z Z ?_|refine G_x (A3 Z Z Z G8t (c232 n m)) Z Z ?_|refine Wz ?_|refine Wb fun hb=>?_|(refine Wc (fun hg=>?_) (fun hg=>?_) <;>(first|subst hg|(simp at hg;subst hg)|skip))))
   all_goals (try exact oMw)
   all_goals first
    | exact A0 (i+1) ⟨oEw,oEw,by rw [hq];rfl⟩ oEw
    | (refine rEw hM ?_;rw [hq];rfl)
  ·have hz:i=b.length:=oEw
   rw [drp hn,List.drop_eq_nil_of_le (show b.length≤i by omega)] at hq
   (repeat' (first|refine Wz ?_|refine Wb fun hb=>?_|apply Wd <;>intro hh))
   all_goals (try exact oMw)
   all_goals (refine rEw hM ?_;rw [hq];simp [A4g,one1,dB, *];try omega)
 ·rw [List.drop_eq_nil_of_le (show a.length≤i by omega)] at hq
  have hl0:A4g [] (b.drop i)=decide (0<(b.drop i).length):=by cases b.drop i <;> simp [A4g]
  rw [hl0,List.length_drop] at hq
  (repeat' (first|refine Wz ?_|refine Wb fun hb=>?_|apply Wd <;>intro hh))
  all_goals (try exact oMw)
  all_goals first
   | (refine rEw hM ?_;rw [hq,decide_eq_true (show 0<b.length-i by omega)];rfl)
   | (refine rEw hM ?_;rw [hq,decide_eq_false (show ¬ 0<b.length-i by omega)];rfl)
theorem c80 (a b:Dcn):Fp Tryz.prog 80 [.g (dcnC a),.g (dcnC b)] (dB (B2u a b)):=by
 refine fXw Tryz.func80 Tryz.ntmps80 fun c hM=>?_
 (repeat' (first|refine cDw G9t (c172 a.pick b.pick) ?_|refine Wz ?_|apply Wd <;>intro hh))
 all_goals (refine rEw hM ?_;(first|(simp [one1, *,dB,dI,dS,List.anyB,List.allB,B2u];done)|(simp_all [one1,dB,dI,dS,List.anyB,List.allB,B2u];done)|(simp_all [one1,dB,dI,dS,List.anyB,List.allB,B2u];omega)))
theorem c29 (l : List Dcn) : Fp Tryz.prog 29 [dcns l] (dI (D2v l)) := by
 unfold D2v
 refine fXw Tryz.func29 Tryz.ntmps29 fun c hM=>?_
 (repeat' (first|refine Wz ?_|refine Wb fun hb=>?_))
 refine X_lp (ι:=Nat) 18889465931478580854588 [] (fun i=>[(8,.d (dI i))]) (fun _=>[]) (fun i=>i≤(l).length∧(fun i q=>fstE (dcnE l) i q) 0 (l)=(fun i q=>fstE (dcnE l) i q) i ((l).drop i)) (fun i=>(l).length-i) (0) ?_ ?_
 ·exact⟨zLw,rfl⟩
 rintro i ⟨hi,hq⟩
 by_cases hlt:i<(l).length
 rotate_left
 ·have hz:i=(l).length:=oEw
  subst hz
  rw [List.drop_eq_nil_of_le (Nat.le_refl _)] at hq
  try dsimp only at hq
  ((repeat' (first|refine Wz ?_|apply Wd <;>intro hh)) <;> first|(exfalso;omega)|(all_goals (refine rEw hM ?_;(try rw [hq]);exact q16S)))
 obtain⟨n,hn⟩:=gex hlt
 obtain⟨pv,hp⟩:=gex (l:=l) (i:=i-1) oEw
 have hpr:=B6 hp
 have hmem:=List.mem_of_getElem? hn
 rw [drp hn] at hq
 try dsimp only at hq
 obtain⟨b1,hb1⟩:∃ b,idB n.ref.rcd=b:=⟨_,rfl⟩;have cb1:=c79 n.ref.rcd;rw [hb1] at cb1;obtain⟨b2,hb2⟩:∃ b,idB n.ref.note=b:=⟨_,rfl⟩;have cb2:=c79 n.ref.note;rw [hb2] at cb2;obtain⟨b3,hb3⟩:∃ b,B2u pv n=b:=⟨_,rfl⟩;have cb3:=c80 pv n;rw [hb3] at cb3
 by_cases hpk:n.pick.length=0
 all_goals (
  (repeat' (first|(refine M0 ?_;first|(refine D2 (fun _=>zL Z Z Z) Z Z (fun hh=>?_) (fun hh=>?_) <;>(try (exfalso;omega)))|(refine D2 (fun _=>zM Z Z Z) Z Z (fun hh=>?_) (fun hh=>?_) <;>(try (exfalso;omega)))|(refine D2 (fun _=>zO Z Z Z) Z Z (fun hh=>?_) (fun hh=>?_) <;>(try (exfalso;omega))))|refine G_x (A2 (m:=i) Z Z Z Z (gm hn)) Z Z ?_|refine G_x (A2 (m:=i-1) Z Z Z oEw (gm hp)) Z Z ?_|refine G_x (A3 Z Z Z en79 (cb1) (.eq rfl)) Z Z ?_|refine G_x (A3 Z Z Z en79 (cb2) (.eq rfl)) Z Z ?_|refine G_x (A3 Z Z Z en80 (cb3)) Z Z ?_|refine Wz ?_|refine Wb fun hb=>?_|(refine Wg (fun hg=>?_) (fun hg=>?_) <;>(first|subst hg|(simp at hg;subst hg)))|(refine Wc (fun hg=>?_) (fun hg=>?_) <;>(first|subst hg|(simp at hg;subst hg)|skip))))
  all_goals (try exact oMw)
  all_goals (try (all_goals (refine rEw hM ?_;(try rw [hq]);(first|(simp [one1, *,dB,dI,dS,List.anyB,List.allB,fstE,dcnE];done)|(simp_all [one1,dB,dI,dS,List.anyB,List.allB,fstE,dcnE];done)|(simp_all [one1,dB,dI,dS,List.anyB,List.allB,fstE,dcnE];omega)));done))
  all_goals (
   obtain⟨⟨nr,nn⟩,ny,np⟩:=n
   dsimp only at*
   have hnil:¬ np=[]:=fun h=>hpk (by rw [h];rfl)
   have hn4:¬ 4<np.length:=oEw
   have hde:dcnE l i ⟨⟨nr,nn⟩,ny,np⟩=if ((l.take i).anyB fun x=>ny&&(x.yes&&(decide (x.ref.rcd=nr)&&decide (x.ref.note=nn))))=true then 8 else 0:=by
    unfold dcnE
    dsimp only
    rw [if_neg (by simp [*]),if_neg hpk,if_neg hn4,if_neg (by rw [hpr];first|(simp [*];done)|(simp [*];intro h0;exfalso;omega))]
   rw [fstE,hde] at hq
   refine X_lp (ι:=Nat) 9444732402789337006116 [] (fun k=>[(5,.d (dI k))]) (fun _=>[]) (fun k=>k≤i∧(l.take i).anyB (fun x=>ny&&(x.yes&&(decide (x.ref.rcd=nr)&&decide (x.ref.note=nn))))=((l.take i).drop k).anyB (fun x=>ny&&(x.yes&&(decide (x.ref.rcd=nr)&&decide (x.ref.note=nn))))) (fun k=>i-k) (0) ?_ ?_
   ·exact⟨zLw,rfl⟩
   rintro k ⟨hk,hqk⟩
   by_cases hltk:k<i
   ·obtain⟨m,hm⟩:=gex (l:=l) (i:=k) oEw
    have hmt:(l.take i)[k]?=some m:=by rw [List.getElem?_take_of_lt hltk];exact hm
    rw [drp hmt] at hqk
    obtain⟨⟨mr,mn⟩,my,mp⟩:=m
    obtain⟨z,hz⟩:∃ z,(decide (mr=nr)&&decide (mn=nn))=z:=⟨_,rfl⟩
    rw [List.anyB] at hqk
    dsimp only at hqk
    rw [hz] at hqk
    cases ny <;> cases my
    all_goals (
     (repeat' (first|refine iDw (gm hm) ?_|refine G_x (Z7 C8b Z Z Z hz) Z Z ?_|refine Wz ?_|refine Wd (fun hh=>?_) fun hh=>?_|(refine Wc (fun hg=>?_) (fun hg=>?_) <;>(first|subst hg|(simp at hg;subst hg)|skip))))
     all_goals (try exact oMw)
     all_goals first
      | refine A0 (k+1) ?_ oEw (hf:=A6 Z (B8 _))
      | (refine rEw hM ?_;rw [hq];(rw [hqk];simp [one1,dI]))
     all_goals exact⟨oEw,by rw [hqk];simp⟩)
   ·have hzk:i=k:=oEw
    subst hzk
    rw [List.drop_eq_nil_of_le (by rw [List.length_take];omega)] at hqk
    simp only [List.anyB] at hqk
    (repeat' (first|refine Wz ?_|apply Wd <;>intro hh|(refine Wg (fun hg=>?_) (fun hg=>?_) <;>(first|subst hg|(simp at hg;subst hg)))))
    all_goals (try exact oMw)
    all_goals (refine A0 (i+1) ⟨oEw,?_⟩ oEw;(try dsimp only);rw [hq,hqk];simp)))
end
section
open Go.RowKit Go.En Go.Dl Go.Tp
abbrev spnD (l:List Spn):Dt:=.s 2 (l.map spnC)
def M3 (q:List Spn × Spn × List Spn)(x:Spn):List Spn × Spn × List Spn:=if x.til<q.2.1.frm then (q.1++[x],q.2.1,q.2.2) else if q.2.1.til<x.frm then (q.1,q.2.1,q.2.2++[x]) else (q.1,⟨min q.2.1.frm x.frm,max q.2.1.til x.til⟩,q.2.2)
theorem C4d (l:List Spn)(s:Spn):insS l s=l.foldl M3 ([],s,[]):=rfl
theorem C4c (l:List Spn):∀ q,(l.foldl M3 q).1.length+(l.foldl M3 q).2.2.length≤q.1.length+q.2.2.length+l.length:=by
 induction l with
 | nil=>intro q;simp
 | cons x r ih=>
  intro q
  rw [List.foldl_cons]
  have h:=ih (M3 q x)
  have h2:(M3 q x).1.length+(M3 q x).2.2.length≤q.1.length+q.2.2.length+1:=by
   unfold M3
   split
   ·simp;omega
   ·split <;> simp <;> omega
  rw [List.length_cons];omega
theorem D0u (l:List Spn)(s:Spn):(insR l s).length≤l.length+1:=by
 unfold insR
 have:=C4c l ([],s,[])
 rw [← C4d] at this
 simp at this ⊢
 omega
theorem B6y (l:List Spn):∀ b:List Spn,(l.foldl (fun out s=>if A5 s then insR out s else out) b).length≤b.length+l.length:=by
 induction l with
 | nil=>intro b;simp
 | cons x r ih=>
  intro b
  rw [List.foldl_cons,List.length_cons]
  have h:=ih (if A5 x then insR b x else b)
  have h2:(if A5 x then insR b x else b).length≤b.length+1:=by
   split
   ·exact D0u b x
   ·omega
  omega
def tot (l:List Spn):Int:=(l.map fun x=>x.til-x.frm).foldr (·+·) 0
theorem C2m (a b:List Spn):tot (a++b)=tot a+tot b:=by
 unfold tot
 induction a with
 | nil=>simp
 | cons x r ih=>rw [List.cons_append,List.map_cons,List.foldr_cons,ih,List.map_cons,List.foldr_cons];omega
theorem A8d (x:Spn)(l:List Spn):tot (x::l)=(x.til-x.frm)+tot l:=rfl
theorem B1t:∀ {l:List Spn},(∀ x∈l,A5 x=true)→(l.length:Int)≤tot l
 | [],_=>by simp [tot]
 | x::r,h=>by
  have h1:=h x (List.mem_cons_self ..)
  have h2:=B1t fun y hy=>h y (List.mem_cons_of_mem _ hy)
  simp [A5] at h1
  rw [A8d,List.length_cons]
  omega
theorem C7o {l:List Spn}{s:Spn}:∀ x∈woS l s,A5 x=true:=fun x hx=>by
 unfold woS at hx
 obtain⟨y,_,hy⟩:=List.mem_flatMap.1 hx
 rcases List.mem_append.1 hy with hy|hy
 ·split at hy
  ·rename_i h;rw [List.mem_singleton.1 hy];exact h
  ·cases hy
 ·split at hy
  ·rename_i h;rw [List.mem_singleton.1 hy];exact h
  ·cases hy
theorem C7n {s : Spn}(hs : A5 s = true) : ∀ {l : List Spn}, (∀ x ∈ l, A5 x = true) → tot (woS l s) ≤ tot l
 | [],_=>by simp [woS,tot]
 | x :: r, h => by
  have h1:=h x (List.mem_cons_self ..)
  have h2:=C7n hs fun y hy=>h y (List.mem_cons_of_mem _ hy)
  have e:woS (x::r) s=((if A5 (cutL x s) then [cutL x s] else [])++(if A5 (cutR x s) then [cutR x s] else []))++woS r s:=by unfold woS;rw [List.flatMap_cons]
  rw [e,C2m,C2m,A8d]
  have k1:tot (if A5 (cutL x s) then [cutL x s] else [])=if A5 (cutL x s) then (min x.til s.frm-x.frm) else 0:=by
   split <;> simp [tot,cutL]
  have k2:tot (if A5 (cutR x s) then [cutR x s] else [])=if A5 (cutR x s) then (x.til-max x.frm s.til) else 0:=by
   split <;> simp [tot,cutR]
  rw [k1,k2]
  simp [A5] at h1 hs
  have:(if A5 (cutL x s) then (min x.til s.frm-x.frm) else 0)+(if A5 (cutR x s) then (x.til-max x.frm s.til) else 0)≤x.til-x.frm:=by
   split
   ·rename_i c1
    simp [A5,cutL] at c1
    split
    ·rename_i c2
     simp [A5,cutR] at c2
     omega
    ·omega
   ·split
    ·omega
    ·omega
  omega
def mstep (out:List Spn)(s:Spn):List Spn:=if A5 s then woS out s else out
theorem C9y (b:List Spn):∀ {a:List Spn},(∀ x∈a,A5 x=true)→(∀ x∈b.foldl mstep a,A5 x=true)∧tot (b.foldl mstep a)≤tot a:=by
 induction b with
 | nil=>intro a h;exact⟨h,Int.le_refl _⟩
 | cons s r ih=>
  intro a h
  rw [List.foldl_cons]
  unfold mstep
  cases hs:A5 s with
  | false=>exact ih h
  | true=>
   have:=ih (a:=woS a s) C7o
   exact⟨this.1,Int.le_trans this.2 (C7n hs h)⟩
section
variable {P : Program}{L : List (Nat × Value)}{w : World}{o : Oper}
theorem zMn {t u:TypeId}{x y:Operand}{a b:Int}(ho:o.op=.call { callee:=.builtin .min,args:=#[x,y],argTypes:=#[t,u] })(hx:ev L x=some (int a))(hy:ev L y=some (int b)):Val P L w o (int (min a b)):=by
 have:=B4n (P:=P) (w:=w) ho hx hy
 rwa [show(if b<a then b else a)=min a b by rw [Int.min_def];split <;> split <;> omega] at this
theorem zMx {t u:TypeId}{x y:Operand}{a b:Int}(ho:o.op=.call { callee:=.builtin .max,args:=#[x,y],argTypes:=#[t,u] })(hx:ev L x=some (int a))(hy:ev L y=some (int b)):Val P L w o (int (max a b)):=by
 have:=B4o (P:=P) (w:=w) ho hx hy
 rwa [show(if b>a then b else a)=max a b by rw [Int.max_def];split <;> split <;> omega] at this
end
attribute [local irreducible] X XL XW XG XK Val LS Fp Fo Calls bodyPost Code.wp
theorem c256 (l : List Spn)(s : Spn)(hl : l.length ≤ 1099511627776) : Fp Tryz.prog 256 [spnD l, .g (spnC s)] (spnD (insR l s)) := by
 refine fXw Tryz.func256 Tryz.ntmps256 fun c hM=>?_
 (repeat' ((fail_if_success (refine H7 (x:=(Code.region 3 _ _)) ?_));first|refine G_nd Z Z (L1 _ Z Z Z Z Z) Z ?_|refine Wz ?_|fail))
 (repeat' (first|refine Wz ?_|fail))
 refine X_lp (ι:=Nat × Nat × Nat) 9223372036854775008 [8,9,3] (fun q=>[(5,.o 8 q.2.1),(6,.o 9 q.2.2),(7,.d (dI q.1))]) (fun q=>[(8,.ls 82 2 q.2.1 (((l.take q.1).foldl M3 ([],s,[])).1.map spnC)),(9,.ls 82 2 q.2.2 (((l.take q.1).foldl M3 ([],s,[])).2.2.map spnC)),(3,.box 82 ((spnC ((l.take q.1).foldl M3 ([],s,[])).2.1).map .d))]) (fun q=>q.1≤l.length) (fun q=>l.length-q.1) ((0,0,0)) ?_ ?_
 ·exact zLw
 rintro⟨i,v5,v6⟩ hi
 dsimp only at hi
 have hlen:=C4c (l.take i) ([],s,[])
 by_cases hlt:i<l.length
 ·obtain⟨n,hn⟩:=gex hlt
  have ht:=J0 (f:=M3) (b:=([],s,[])) hn
  obtain⟨q,hq⟩:∃ q,q=(l.take i).foldl M3 ([],s,[]):=⟨_,rfl⟩
  rw [← hq] at ht hlen ⊢
  simp only [List.length_nil,List.length_take] at hlen
  rw [show M3 q n=(if n.til<q.2.1.frm then (q.1++[n],q.2.1,q.2.2) else if q.2.1.til<n.frm then (q.1,q.2.1,q.2.2++[n]) else (q.1,⟨min q.2.1.frm n.frm,max q.2.1.til n.til⟩,q.2.2)) from rfl] at ht
  by_cases h1:n.til<q.2.1.frm
  ·rw [if_pos h1] at ht
   (repeat' (first|refine iDw (gm hn) ?_|refine Wz ?_|refine Wb fun hb=>?_|apply Wd <;>intro hh))
   all_goals (try exact oMw)
   exact A0 (i+1,v5+1,v6) (oDw) (oDw) (hh:=by dsimp only;rw [ht];exact A1 (by show some _=some _;simp [spnC]) (A1 Z (A1 Z (A4 _))))
  ·rw [if_neg h1] at ht
   by_cases h2:q.2.1.til<n.frm
   ·rw [if_pos h2] at ht
    (repeat' (first|refine iDw (gm hn) ?_|refine Wz ?_|refine Wb fun hb=>?_|apply Wd <;>intro hh))
    all_goals (try exact oMw)
    exact A0 (i+1,v5,v6+1) (oDw) (oDw) (hh:=by dsimp only;rw [ht];exact A1 Z (A1 (by show some _=some _;simp [spnC]) (A1 Z (A4 _))))
   ·rw [if_neg h2] at ht
    (repeat' (first|refine iDw (gm hn) ?_|(refine W4 ?_;first|refine G_x (A7 fun _=>zMn Z Z Z) Z Z ?_|refine G_x (A7 fun _=>zMx Z Z Z) Z Z ?_)|refine Wz ?_|refine Wb fun hb=>?_|apply Wd <;>intro hh))
    all_goals (try exact oMw)
    exact A0 (i+1,v5,v6) (oDw) (oDw) (hh:=by dsimp only;rw [ht];exact A1 Z (A1 Z (A1 Z (A4 _))))
 ·have hz:i=l.length:=oEw
  subst hz
  rw [List.take_length] at hlen ⊢
  unfold insR
  rw [C4d]
  obtain⟨q,hq⟩:∃ q,q=l.foldl M3 ([],s,[]):=⟨_,rfl⟩
  rw [← hq] at hlen ⊢
  simp only [List.length_nil] at hlen
  (repeat' ((fail_if_success (refine H7 (x:=(Code.region 11 _ _)) ?_));first|refine Wz ?_|refine Wb fun hb=>?_|refine Wd (fun hh=>?_) fun hh=>?_))
  all_goals (try exact oMw)
  refine B0h 6 Z Z lOw ?_
  (repeat' (first|refine Wz ?_|fail))
  refine B9 4 Z Z lOw ?_
  refine rEw hM ?_
  simp [one1,spnC]
theorem c213 (l:List Spn)(hl:l.length≤1099511627776):Fp Tryz.prog 213 [spnD l] (spnD (uniS l)):=by
 unfold uniS
 refine fXw Tryz.func213 Tryz.ntmps213 fun c hM=>?_
 (repeat' (first|refine Wz ?_|fail))
 refine X_lp (ι:=Nat) 8388568 [] (fun i=>[(3,.d (.s 2 (((((l).take i).foldl (fun out s=>if A5 s then insR out s else out) ([]))).map spnC))),(4,.d (dI i))]) (fun _=>[]) (fun i=>i≤(l).length) (fun i=>(l).length-i) (0) ?_ ?_
 ·exact zLw
 rintro i hi
 by_cases hlt:i<(l).length
 rotate_left
 ·have hz:i=(l).length:=oEw
  subst hz
  rw [List.take_length]
  ((repeat' (first|refine Wz ?_|refine Wb fun hb=>?_|apply Wd <;>intro hh)) <;> first|(exfalso;omega)|exact rXw hM)
 obtain⟨n,hn⟩:=gex hlt
 have hmem:=List.mem_of_getElem? hn
 have ht:=J0 (f:=fun out s=>if A5 s then insR out s else out) (b:=[]) hn
 have hu:=B6y (l.take i) []
 simp only [List.length_nil,List.length_take] at hu
 obtain⟨o,ho⟩:∃ o,o=(l.take i).foldl (fun out s=>if A5 s then insR out s else out) []:=⟨_,rfl⟩
 rw [← ho] at ht hu ⊢
 obtain⟨b,hb⟩:∃ b,A5 n=b:=⟨_,rfl⟩;have cb:=c60 n;rw [hb] at cb
 rw [hb] at ht
 (repeat' (first|refine iDw (gm hn) ?_|refine cDw en60 cb ?_|refine cDw G8h (c256 o n oEw) ?_|refine Wz ?_|refine Wb fun hb=>?_|refine Wd (fun hh=>?_) fun hh=>?_|(refine Wc (fun hg=>?_) (fun hg=>?_) <;>(first|subst hg|(simp at hg;subst hg)|skip))))
 all_goals (try exact oMw)
 all_goals exact A0 (i+1) oEw oEw (by(try dsimp only);rw [ht];(repeat (refine A6 (by first|rfl|simp [*]) ?_));exact B8 _)
theorem c214 (l : List Spn)(s : Spn)(hl : l.length ≤ 1099511627776) : Fp Tryz.prog 214 [spnD l, .g (spnC s)] (spnD (woS l s)) := by
 refine fXw Tryz.func214 Tryz.ntmps214 fun c hM=>?_
 (repeat' ((fail_if_success (refine H7 (x:=(Code.region 2 _ _)) ?_));first|refine G_nd Z Z (L1 _ Z Z Z Z Z) Z ?_|refine Wz ?_|fail))
 (repeat' (first|refine Wz ?_|fail))
 refine X_lp (ι:=Nat × Nat) 72057594037927392 [9] (fun q=>[(5,.o 9 q.2),(6,.d (dI q.1))]) (fun q=>[(9,.ls 82 2 q.2 ((woS (l.take q.1) s).map spnC))]) (fun q=>q.1≤l.length) (fun q=>l.length-q.1) ((0,0)) ?_ ?_
 ·exact zLw
 rintro⟨i,ver⟩ hi
 dsimp only at hi
 have hwl:(woS (l.take i) s).length≤2*l.length:=by
  have key:∀ q:List Spn,(woS q s).length≤2*q.length:=by
   intro q
   unfold woS
   induction q with
   | nil=>simp
   | cons x r ih=>
    rw [List.flatMap_cons,List.length_append,List.length_append,List.length_cons]
    split <;> split <;> simp at ih ⊢ <;> omega
  have:=key (l.take i)
  rw [List.length_take] at this
  omega
 by_cases hlt:i<l.length
 ·obtain⟨n,hn⟩:=gex hlt
  have ht:woS (l.take (i+1)) s=woS (l.take i) s++((if A5 (cutL n s) then [cutL n s] else [])++(if A5 (cutR n s) then [cutR n s] else [])):=by
   unfold woS
   rw [List.take_succ,hn]
   simp
  obtain⟨o,ho⟩:∃ o,o=woS (l.take i) s:=⟨_,rfl⟩
  rw [← ho] at ht hwl ⊢
  obtain⟨b,hb⟩:∃ b,A5 (cutL n s)=b:=⟨_,rfl⟩;have cb:=c60 (cutL n s);rw [hb] at cb;obtain⟨d,hd⟩:∃ b,A5 (cutR n s)=b:=⟨_,rfl⟩;have cd:=c60 (cutR n s);rw [hd] at cd
  rw [hb,hd] at ht
  (repeat' (first|refine iDw (gm hn) ?_|refine G_x (A3 Z Z Z en60 (cb) (.eq rfl)) Z Z ?_|refine G_x (A3 Z Z Z en60 (cd) (.eq rfl)) Z Z ?_|(refine W4 ?_;first|refine G_x (A7 fun _=>zMn Z Z Z) Z Z ?_|refine G_x (A7 fun _=>zMx Z Z Z) Z Z ?_)|refine Wz ?_|refine Wb fun hb=>?_|refine Wd (fun hh=>?_) fun hh=>?_|(refine Wc (fun hg=>?_) (fun hg=>?_) <;>(first|subst hg|(simp at hg;subst hg)|skip))))
  all_goals (try exact oMw)
  ·exact A0 (i+1,ver+2) (oDw) (oDw) (hh:=by dsimp only;rw [ht];exact A1 (by show some _=some _;simp [spnC,cutL,cutR,dI]) (A4 _))
  ·exact A0 (i+1,ver+1) (oDw) (oDw) (hh:=by dsimp only;rw [ht];exact A1 (by show some _=some _;simp [spnC,cutL,cutR,dI]) (A4 _))
  ·exact A0 (i+1,ver+1) (oDw) (oDw) (hh:=by dsimp only;rw [ht];exact A1 (by show some _=some _;simp [spnC,cutL,cutR,dI]) (A4 _))
  ·exact A0 (i+1,ver) (oDw) (oDw) (hh:=by dsimp only;rw [ht];exact A1 (by show some _=some _;simp [spnC,cutL,cutR,dI]) (A4 _))
 ·have hz:i=l.length:=oEw
  subst hz
  rw [List.take_length] at hwl ⊢
  (repeat' (first|refine Wz ?_|refine Wb fun hb=>?_|apply Wd <;>intro hh))
  all_goals (try exact oMw)
  refine B9 4 Z Z lOw ?_
  exact rXw hM
theorem c144 (a b:List Spn)(ha:a.length≤1099511627776)(hr:∀ x∈uniS a,A5 x=true)(ht0:tot (uniS a)≤1099511627776):Fp Tryz.prog 144 [spnD a,spnD b] (spnD (minS a b)):=by
 unfold minS
 show Fp _ _ _ (spnD (b.foldl mstep (uniS a)))
 refine fXw Tryz.func144 Tryz.ntmps144 fun c hM=>?_
 (repeat' (first|refine cDw G9f (c213 a ha) ?_|refine Wz ?_|fail))
 refine X_lp (ι:=Nat) 67108448 [] (fun i=>[(5,.d (.s 2 (((((b).take i).foldl (mstep) (uniS a))).map spnC))),(6,.d (dI i))]) (fun _=>[]) (fun i=>i≤(b).length) (fun i=>(b).length-i) (0) ?_ ?_
 ·exact zLw
 rintro i hi
 by_cases hlt:i<(b).length
 rotate_left
 ·have hz:i=(b).length:=oEw
  subst hz
  rw [List.take_length]
  ((repeat' (first|refine Wz ?_|refine Wb fun hb=>?_|apply Wd <;>intro hh)) <;> first|(exfalso;omega)|exact rXw hM)
 obtain⟨n,hn⟩:=gex hlt
 have hmem:=List.mem_of_getElem? hn
 have ht:=J0 (f:=mstep) (b:=uniS a) hn
 have hu:=C9y (b.take i) hr
 obtain⟨o,ho⟩:∃ o,o=(b.take i).foldl mstep (uniS a):=⟨_,rfl⟩
 rw [← ho] at ht hu ⊢
 have hol:=B1t hu.1
 have hot:=hu.2
 rw [show mstep o n=(if A5 n then woS o n else o) from rfl] at ht
 obtain⟨d,hd⟩:∃ b,A5 n=b:=⟨_,rfl⟩;have cd:=c60 n;rw [hd] at cd
 rw [hd] at ht
 (repeat' (first|refine iDw (gm hn) ?_|refine cDw en60 cd ?_|refine cDw G9e (c214 o n oEw) ?_|refine Wz ?_|refine Wb fun hb=>?_|refine Wd (fun hh=>?_) fun hh=>?_|(refine Wc (fun hg=>?_) (fun hg=>?_) <;>(first|subst hg|(simp at hg;subst hg)|skip))))
 all_goals (try exact oMw)
 all_goals exact A0 (i+1) oEw oEw (by(try dsimp only);rw [ht];(repeat (refine A6 (by first|rfl|simp [*]) ?_));exact B8 _)
theorem B6x (s:Spn)(h:A5 s=true):uniS [s]=[s]:=by
 unfold uniS
 simp [h,insR,insS]
theorem q24S {p:Prop}(h:p:=by first|(simp [one1, *,dB,dI,dS,List.anyB,List.allB];done)|(simp_all [one1,dB,dI,dS,List.anyB,List.allB];done)|(simp_all [one1,dB,dI,dS,List.anyB,List.allB];omega)):p:=h
theorem c61 (l:List Spn)(s:Spn):Fp Tryz.prog 61 [spnD l,.g (spnC s)] (dB (covS l s)):=by
 unfold covS
 cases h:A5 s with
 | false=>
  have cb:=c60 s
  rw [h] at cb
  refine fXw Tryz.func61 Tryz.ntmps61 fun c hM=>?_
  (repeat' (first|refine cDw en60 cb ?_|refine Wz ?_|fail))
  all_goals (refine rEw hM ?_;exact q24S)
 | true=>
  have cb:=c60 s
  rw [h] at cb
  have hs:=h
  simp [A5] at hs
  have c2:=c144 [s] l (by simp) (by rw [B6x s h];intro x hx;rw [List.mem_singleton.1 hx];exact h) (by rw [B6x s h];simp [tot];omega)
  refine fXw Tryz.func61 Tryz.ntmps61 fun c hM=>?_
  (repeat' (first|refine cDw en60 cb ?_|refine cDw G1p c2 ?_|refine Wz ?_|refine Wb fun hb=>?_|apply Wd <;>intro hh))
  all_goals (try exact oMw)
  all_goals (refine rEw hM ?_;exact q24S)
end
end Go.Proofs.YtojadfppncgphaaGreatDoor