/- Own text. -/
import Derived.Test.YtojadfppncgphaaGreatDoorYp
import Derived.Test.YtojadfppncgphaaGreatDoorYo
set_option linter.all false
set_option maxHeartbeats 16000000
set_option maxRecDepth 8000
namespace Go.Proofs.YtojadfppncgphaaGreatDoor
section
open Go.RowKit Go.En Go.Dl Go.Tp
theorem D3h {P:Program} {L:List (Nat × Value)} {w:World} {o:Oper} {t e u:TypeId} {x y:Operand} {a b c a' b' c':Int} {r:Bool} (h:Go.En.Ints P t e 3) (ho:o.op=.binOp .neq t x y u) (hx:ev L x=some (.agg #[int a,int b,int c])) (hy:ev L y=some (.agg #[int a',int b',int c'])) (hr:(decide (a=a')&&(decide (b=b')&&decide (c=c')))=r):Val P L w o (.bool (!r)):=fun ρ ha=>by
 have h1:=ha.ev (by rw [ho];simp [Op.operands]) hx
 have h2:=ha.ev (by rw [ho];simp [Op.operands]) hy
 have h3:=run_eqGuard_agg (P:=P) w .neq t x y #[int a,int b,int c] #[int a',int b',int c'] h.hg
 have h4:=run_neq_struct (P:=P) w t #[int a,int b,int c] #[int a',int b',int c']
 have h5:=A5d (w:=w) (l1:=[a,b,c]) (l2:=[a',b',c']) h rfl
 have h6:decide ([a,b,c]=[a',b',c'])=r:=by rw [← hr,Bool.eq_iff_iff];simp
 rw [h6] at h5
 have h7:(Op.equalIn 10000 t (.agg #[int a,int b,int c]) (.agg #[int a',int b',int c'])).run P w=.ok r w:=h5
 simp [execOp,ho,h1,h2,h3,h4,h7,go_sem]
theorem G0w {P:Program} {o:Oper} {F:Fr} {H:Hp} {t e u:TypeId} {x y:Operand} {a b c a' b' c':Int} {r:Bool} (h:Go.En.Ints P t e 3) (ho:o.op=.binOp .neq t x y u) (hx:ev (pk F o) x=some (.agg #[int a,int b,int c])) (hy:ev (pk F o) y=some (.agg #[int a',int b',int c'])) (hr:(decide (a=a')&&(decide (b=b')&&decide (c=c')))=r):LS P o F H [] (some (.d (.v (.bool (!r))))) []:=A5 fun _=>D3h h ho hx hy hr
attribute [local irreducible] X XL XW XG XK Val LS Fp Fo Calls bodyPost Code.wp
theorem D4w:Go.En.Ints Tryz.prog 197 3 3:=⟨by kernel_rfl,by kernel_rfl,by kernel_rfl,by kernel_rfl,Tryz.underlying3⟩
theorem D4v:Go.En.Ints Tryz.prog 208 3 3:=⟨by kernel_rfl,by kernel_rfl,by kernel_rfl,by kernel_rfl,Tryz.underlying3⟩
theorem C5y:TwoInts Tryz.prog 77 3:=⟨by kernel_rfl,by kernel_rfl,by kernel_rfl,by kernel_rfl,Tryz.underlying3⟩
theorem G0y {P:Program} {o:Oper} {F:Fr} {H:Hp} {t e u:TypeId} {x y:Operand} {a b c a' b' c':Int} {r:Bool} (h:Go.En.Ints P t e 3) (ho:o.op=.binOp .eql t x y u) (hx:ev (pk F o) x=some (.agg #[int a,int b,int c])) (hy:ev (pk F o) y=some (.agg #[int a',int b',int c'])) (hr:(decide (a=a')&&(decide (b=b')&&decide (c=c')))=r):LS P o F H [] (some (.d (.v (.bool r)))) []:=
 A5 fun _=>B5e [a,b,c] [a',b',c'] h rfl ho hx hy rfl rfl (by rw [← hr,Bool.eq_iff_iff];simp)
theorem A3k {P:Program} {o:Oper} {F:Fr} {H:Hp} {t e u:TypeId} {x y:Operand} {a b c d:Int} {r:Bool} (h:TwoInts P t e) (ho:o.op=.binOp .eql t x y u) (hx:ev (pk F o) x=some (.agg #[int a,int b])) (hy:ev (pk F o) y=some (.agg #[int c,int d])) (hr:(decide (a=c)&&decide (b=d))=r):LS P o F H [] (some (.d (.v (.bool r)))) []:=by
 have:=C8k (H:=H) h ho hx hy
 rwa [hr] at this
theorem c155 (n:Netw) (q:Int):Fp Tryz.prog 155 [.g (netC n),dI q] (dB (stB n q)):=by
 refine fXw Tryz.func155 Tryz.ntmps155 fun c hM=>?_
 (repeat' (first|refine Wz ?_|refine Wd (fun hh=>?_) fun hh=>?_))
 all_goals (refine rEw hM ?_;(first|(simp [one1, *,dB,dI,dS,List.anyB,List.allB,stB];done)|(simp_all [one1,dB,dI,dS,List.anyB,List.allB,stB];done)|(simp_all [one1,dB,dI,dS,List.anyB,List.allB,stB];omega)))
theorem q15S {p:Prop} (h:p:=by first|(simp [one1, *,dB,dI,dS,List.anyB,List.allB];done)|(simp_all [one1,dB,dI,dS,List.anyB,List.allB];done)|(simp_all [one1,dB,dI,dS,List.anyB,List.allB];omega)):p:=h
theorem q16S {p:Prop} (h:p:=by first|(simp [one1, *,dB,dI,dS,List.anyB,List.allB,fstE];done)|(simp_all [one1,dB,dI,dS,List.anyB,List.allB,fstE];done)|(simp_all [one1,dB,dI,dS,List.anyB,List.allB,fstE];omega)):p:=h
theorem c72 (n : Netw) : Fp Tryz.prog 72 [.g (netC n)] (dI (netE n)) := by
 unfold netE orE
 obtain⟨nt,hnt⟩:∃ nt,nt=n:=⟨_,rfl⟩
 rw [← hnt]
 clear hnt n
 refine fXw Tryz.func72 Tryz.ntmps72 fun c hM=>?_
 (repeat' (first|refine Wz ?_|refine Wb fun hb=>?_|refine Wd (fun hh=>?_) fun hh=>?_))
 all_goals (try exact oMw)
 all_goals (try (all_goals (refine rEw hM ?_;exact q15S);done))
 refine X_lp (ι:=Nat) 18446744073708503100 [] (fun i=>[(3,.d (dI i))]) (fun _=>[]) (fun i=>i≤(nt.steps).length∧(fun i q=>fstE (fun i x=>if stB nt x.frm=false∨stB nt x.til=false then 2 else if x.cls<1∨20<x.cls then 21 else if ((nt.steps.take i).anyB fun y=>decide (y.frm=x.frm)&&(decide (y.cls=x.cls)&&decide (y.til=x.til))) then 8 else 0) i q) 0 (nt.steps)=(fun i q=>fstE (fun i x=>if stB nt x.frm=false∨stB nt x.til=false then 2 else if x.cls<1∨20<x.cls then 21 else if ((nt.steps.take i).anyB fun y=>decide (y.frm=x.frm)&&(decide (y.cls=x.cls)&&decide (y.til=x.til))) then 8 else 0) i q) i ((nt.steps).drop i)) (fun i=>(nt.steps).length-i) (0) ?_ ?_
 ·exact⟨Nat.zero_le _,rfl⟩
 rintro i ⟨hi,hq⟩
 by_cases hlt:i<(nt.steps).length
 rotate_left
 ·have hz:i=(nt.steps).length:=by omega
  subst hz
  rw [List.drop_eq_nil_of_le (Nat.le_refl _)] at hq
  try dsimp only at hq
  have h1:=hq
  clear hq
  rw [fstE] at h1
  rw [h1]
  (repeat' (first|refine Wz ?_|refine Wb fun hb=>?_|refine Wd (fun hh=>?_) fun hh=>?_))
  all_goals (try exact oMw)
  refine X_lp (ι:=Nat) 9671388110172959688097860 [] (fun i=>[(6,.d (dI i))]) (fun _=>[]) (fun i=>1≤i∧upB nt.final=upB (nt.final.drop (i-1))) (fun i=>nt.final.length+1-i) (1) ?_ ?_
  ·exact⟨Nat.le_refl _,rfl⟩
  rintro i ⟨hi,hq⟩
  by_cases hlt:i<nt.final.length
  ·obtain⟨n,hn⟩:=gex hlt
   obtain⟨pv,hp⟩:=gex (l:=nt.final) (i:=i-1) (by omega)
   rw [drp hp,show i-1+1=i by omega,drp hn] at hq
   by_cases hlt2:pv<n
   ·(repeat' (first|(refine K8 ?_;first|(refine D3 (fun _=>zL Z Z Z) Z Z (fun hh=>?_) (fun hh=>?_) <;>(try (exfalso;omega)))|(refine D3 (fun _=>zN Z Z Z) Z Z (fun hh=>?_) (fun hh=>?_) <;>(try (exfalso;omega))))|refine G_x (A2 (m:=i) Z Z Z Z (gm hn)) Z Z ?_|refine G_x (A2 (m:=i-1) Z Z Z (by omega) (gm hp)) Z Z ?_|refine Wz ?_|refine Wb fun hb=>?_))
    all_goals (try exact oMw)
    exact A0 (i+1) ⟨by omega,by rw [hq,upB,Nat.add_sub_cancel,drp hn];simp [*]⟩ (by omega)
   ·(repeat' (first|(refine K8 ?_;first|(refine D3 (fun _=>zL Z Z Z) Z Z (fun hh=>?_) (fun hh=>?_) <;>(try (exfalso;omega)))|(refine D3 (fun _=>zN Z Z Z) Z Z (fun hh=>?_) (fun hh=>?_) <;>(try (exfalso;omega))))|refine G_x (A2 (m:=i) Z Z Z Z (gm hn)) Z Z ?_|refine G_x (A2 (m:=i-1) Z Z Z (by omega) (gm hp)) Z Z ?_|refine Wz ?_|refine Wb fun hb=>?_))
    all_goals (try exact oMw)
    rw [upB,show decide (pv<n)=false by simpa using hlt2,Bool.false_and] at hq
    all_goals (refine rEw hM ?_;(try rw [hq]);exact q15S)
  ·rw [B0d (l:=nt.final.drop (i-1)) (by rw [List.length_drop];omega)] at hq
   (repeat' (first|refine Wz ?_|refine Wb fun hb=>?_|refine Wd (fun hh=>?_) fun hh=>?_))
   all_goals (try exact oMw)
   have h2:=hq
   clear hq
   refine X_lp (ι:=Nat) 316902978650500433340778152068 [] (fun i=>[(7,.d (dI i))]) (fun _=>[]) (fun i=>i≤(nt.final).length∧(fun _ q=>q.allB (stB nt)) 0 (nt.final)=(fun _ q=>q.allB (stB nt)) i ((nt.final).drop i)) (fun i=>(nt.final).length-i) (0) ?_ ?_
   ·exact⟨Nat.zero_le _,rfl⟩
   rintro i ⟨hi,hq⟩
   by_cases hlt:i<(nt.final).length
   rotate_left
   ·have hz:i=(nt.final).length:=by omega
    subst hz
    rw [List.drop_eq_nil_of_le (Nat.le_refl _)] at hq
    try dsimp only at hq
    ((repeat' (first|refine Wz ?_|refine Wb fun hb=>?_|refine Wd (fun hh=>?_) fun hh=>?_)) <;> first|(exfalso;omega)|(refine rEw hM ?_;rw [hq,if_neg (by omega),if_neg (by omega),if_neg (by simp),h2];rfl))
   obtain⟨n,hn⟩:=gex hlt
   obtain⟨pv,hp⟩:=gex (l:=nt.final) (i:=i-1) (by omega)
   have hpr:=B7 hp
   have hmem:=List.mem_of_getElem? hn
   rw [drp hn] at hq
   try dsimp only at hq
   obtain⟨b,hb⟩:∃ b,stB nt n=b:=⟨_,rfl⟩;have cb:=c155 nt n;rw [hb] at cb
   all_goals (repeat' (first|refine iDw (gm hn) ?_|refine cDw D0m cb ?_|refine Wz ?_|refine Wb fun hb=>?_|refine Wd (fun hh=>?_) fun hh=>?_|(refine Wc (fun hg=>?_) (fun hg=>?_) <;>(first|subst hg|(simp at hg;subst hg)|skip))))
   all_goals (try exact oMw)
   all_goals first
    | exact A0 (i+1) ⟨by omega,by(try dsimp only);rw [hq];exact q15S⟩ (by omega)
    | (refine rEw hM ?_;(try rw [hq]);exact q15S)
 obtain⟨n,hn⟩:=gex hlt
 obtain⟨pv,hp⟩:=gex (l:=nt.steps) (i:=i-1) (by omega)
 have hpr:=B7 hp
 have hmem:=List.mem_of_getElem? hn
 rw [drp hn] at hq
 try dsimp only at hq
 obtain⟨b,hb⟩:∃ b,stB nt n.frm=b:=⟨_,rfl⟩;have cb:=c155 nt n.frm;rw [hb] at cb;obtain⟨e,he⟩:∃ b,stB nt n.til=b:=⟨_,rfl⟩;have ce:=c155 nt n.til;rw [he] at ce
 (repeat' (first|refine iDw (gm hn) ?_|refine G_x (A1 rfl rfl rfl D0m (cb) (.eq rfl)) rfl rfl ?_|refine G_x (A1 rfl rfl rfl D0m (ce) (.eq rfl)) rfl rfl ?_|refine Wz ?_|refine Wb fun hb=>?_|refine Wd (fun hh=>?_) fun hh=>?_|(refine Wg (fun hg=>?_) (fun hg=>?_) <;>(first|subst hg|(simp at hg;subst hg)))|(refine Wc (fun hg=>?_) (fun hg=>?_) <;>(first|subst hg|(simp at hg;subst hg)|skip))))
 all_goals (try exact oMw)
 all_goals (try (all_goals (refine rEw hM ?_;(try rw [hq]);exact q16S);done))
 all_goals (
  refine X_lp (ι:=Nat) 18442240474082181156 [] (fun k=>[(5,.d (dI k))]) (fun _=>[]) (fun k=>k≤i∧((nt.steps).take i).anyB (fun m=>decide (m.frm=n.frm)&&(decide (m.cls=n.cls)&&decide (m.til=n.til)))=(((nt.steps).take i).drop k).anyB (fun m=>decide (m.frm=n.frm)&&(decide (m.cls=n.cls)&&decide (m.til=n.til)))) (fun k=>i-k) (0) ?_ ?_
  ·exact⟨Nat.zero_le _,rfl⟩
  rintro k ⟨hk,hqk⟩
  by_cases hltk:k<i
  ·obtain⟨m,hm⟩:=gex (l:=nt.steps) (i:=k) (by omega)
   have hmt:((nt.steps).take i)[k]?=some m:=by rw [List.getElem?_take_of_lt hltk];exact hm
   rw [drp hmt] at hqk
   (repeat' (first|refine iDw (gm hm) ?_|refine G_x (G0y (r:=_) D4w rfl rfl rfl rfl) rfl rfl ?_|refine Wz ?_|refine Wd (fun hh=>?_) fun hh=>?_|(refine Wc (fun hg=>?_) (fun hg=>?_) <;>(first|subst hg|(simp at hg;subst hg)|skip))))
   all_goals (try exact oMw)
   all_goals first
    | exact A0 (k+1) ⟨by omega,by rw [hqk];exact q16S⟩ (by omega)
    | (refine rEw hM ?_;(try rw [hq]);exact q16S)
  have hzk:i=k:=by omega
  subst hzk
  rw [List.drop_eq_nil_of_le (by rw [List.length_take];omega)] at hqk
  simp only [List.anyB] at hqk
  (repeat' (first|refine iDw (gm hn) ?_|refine Wz ?_|refine Wd (fun hh=>?_) fun hh=>?_))
  all_goals (try exact oMw)
  all_goals first
   | exact A0 (i+1) ⟨by omega,by(try dsimp only);rw [hq];exact q16S⟩ (by omega)
   | (refine rEw hM ?_;(try rw [hq]);exact q16S))
theorem c232 (a b:Prt):Fp Tryz.prog 232 [.g (prtC a),.g (prtC b)] (dB (befP a b)):=by
 refine fXw Tryz.func232 Tryz.ntmps232 fun c hM=>?_
 (repeat' (first|refine Wz ?_|refine Wd (fun hh=>?_) fun hh=>?_))
 all_goals (refine rEw hM ?_;(first|(simp [one1, *,dB,dI,dS,List.anyB,List.allB,befP];done)|(simp_all [one1,dB,dI,dS,List.anyB,List.allB,befP];done)|(simp_all [one1,dB,dI,dS,List.anyB,List.allB,befP];omega)))
theorem c172 (a b : List Prt) : Fp Tryz.prog 172 [.g [.s 3 (a.map prtC)], .g [.s 3 (b.map prtC)]] (dB (A3n a b)) := by
 refine fXw Tryz.func172 Tryz.ntmps172 fun c hM=>?_
 (repeat' (first|refine Wz ?_|fail))
 refine X_lp (ι:=Nat) 4398046511088 [] (fun i=>[(5,.d (dI i))]) (fun _=>[]) (fun i=>i≤a.length∧i≤b.length∧A3n a b=A3n (a.drop i) (b.drop i)) (fun i=>a.length-i) (0) ?_ ?_
 ·exact⟨Nat.zero_le _,Nat.zero_le _,rfl⟩
 rintro i ⟨hi,hj,hq⟩
 by_cases h1:i<a.length
 ·obtain⟨n,hn⟩:=gex h1
  by_cases h2:i<b.length
  ·obtain⟨m,hm⟩:=gex h2
   obtain⟨z,hz⟩:∃ z,(decide (n.entry=m.entry)&&(decide (n.alt=m.alt)&&decide (n.sense=m.sense)))=z:=⟨_,rfl⟩
   rw [drp hn,drp hm,A3n,eqP,hz] at hq
   (repeat' (first|(refine K8 ?_;first|(refine D3 (fun _=>zL Z Z Z) Z Z (fun hh=>?_) (fun hh=>?_) <;>(try (exfalso;omega))))|refine G_x (A2 (m:=i) Z Z Z Z (gm hn)) Z Z ?_|refine G_x (A2 (m:=i) Z Z Z Z (gm hm)) Z Z ?_|refine G_x (G0w D4v rfl rfl rfl hz) Z Z ?_|refine G_x (A1 rfl rfl rfl G6i (c232 n m)) Z Z ?_|refine Wz ?_|refine Wb fun hb=>?_|(refine Wc (fun hg=>?_) (fun hg=>?_) <;>(first|subst hg|(simp at hg;subst hg)|skip))))
   all_goals (try exact oMw)
   all_goals first
    | exact A0 (i+1) ⟨by omega,by omega,by rw [hq];rfl⟩ (by omega)
    | (refine rEw hM ?_;rw [hq];rfl)
  ·have hz:i=b.length:=by omega
   rw [drp hn,List.drop_eq_nil_of_le (show b.length≤i by omega)] at hq
   (repeat' (first|refine Wz ?_|refine Wb fun hb=>?_|refine Wd (fun hh=>?_) fun hh=>?_))
   all_goals (try exact oMw)
   all_goals (refine rEw hM ?_;rw [hq];simp [A3n,one1,dB, *];try omega)
 ·rw [List.drop_eq_nil_of_le (show a.length≤i by omega)] at hq
  have hl0:A3n [] (b.drop i)=decide (0<(b.drop i).length):=by cases b.drop i <;> simp [A3n]
  rw [hl0,List.length_drop] at hq
  (repeat' (first|refine Wz ?_|refine Wb fun hb=>?_|refine Wd (fun hh=>?_) fun hh=>?_))
  all_goals (try exact oMw)
  all_goals first
   | (refine rEw hM ?_;rw [hq,decide_eq_true (show 0<b.length-i by omega)];rfl)
   | (refine rEw hM ?_;rw [hq,decide_eq_false (show ¬ 0<b.length-i by omega)];rfl)
theorem c80 (a b:Dcn):Fp Tryz.prog 80 [.g (dcnC a),.g (dcnC b)] (dB (B1i a b)):=by
 refine fXw Tryz.func80 Tryz.ntmps80 fun c hM=>?_
 (repeat' (first|refine cDw G7l (c172 a.pick b.pick) ?_|refine Wz ?_|refine Wd (fun hh=>?_) fun hh=>?_))
 all_goals (refine rEw hM ?_;(first|(simp [one1, *,dB,dI,dS,List.anyB,List.allB,B1i];done)|(simp_all [one1,dB,dI,dS,List.anyB,List.allB,B1i];done)|(simp_all [one1,dB,dI,dS,List.anyB,List.allB,B1i];omega)))
theorem c29 (l : List Dcn) : Fp Tryz.prog 29 [dcns l] (dI (D0s l)) := by
 unfold D0s
 refine fXw Tryz.func29 Tryz.ntmps29 fun c hM=>?_
 (repeat' (first|refine Wz ?_|refine Wb fun hb=>?_))
 refine X_lp (ι:=Nat) 18889465931478580854588 [] (fun i=>[(8,.d (dI i))]) (fun _=>[]) (fun i=>i≤(l).length∧(fun i q=>fstE (dcnE l) i q) 0 (l)=(fun i q=>fstE (dcnE l) i q) i ((l).drop i)) (fun i=>(l).length-i) (0) ?_ ?_
 ·exact⟨Nat.zero_le _,rfl⟩
 rintro i ⟨hi,hq⟩
 by_cases hlt:i<(l).length
 rotate_left
 ·have hz:i=(l).length:=by omega
  subst hz
  rw [List.drop_eq_nil_of_le (Nat.le_refl _)] at hq
  try dsimp only at hq
  ((repeat' (first|refine Wz ?_|refine Wd (fun hh=>?_) fun hh=>?_)) <;> first|(exfalso;omega)|(all_goals (refine rEw hM ?_;(try rw [hq]);exact q16S)))
 obtain⟨n,hn⟩:=gex hlt
 obtain⟨pv,hp⟩:=gex (l:=l) (i:=i-1) (by omega)
 have hpr:=B7 hp
 have hmem:=List.mem_of_getElem? hn
 rw [drp hn] at hq
 try dsimp only at hq
 obtain⟨b1,hb1⟩:∃ b,idB n.ref.rcd=b:=⟨_,rfl⟩;have cb1:=c79 n.ref.rcd;rw [hb1] at cb1;obtain⟨b2,hb2⟩:∃ b,idB n.ref.note=b:=⟨_,rfl⟩;have cb2:=c79 n.ref.note;rw [hb2] at cb2;obtain⟨b3,hb3⟩:∃ b,B1i pv n=b:=⟨_,rfl⟩;have cb3:=c80 pv n;rw [hb3] at cb3
 by_cases hpk:n.pick.length=0
 all_goals (
  (repeat' (first|(refine K8 ?_;first|(refine D3 (fun _=>zL Z Z Z) Z Z (fun hh=>?_) (fun hh=>?_) <;>(try (exfalso;omega)))|(refine D3 (fun _=>zM Z Z Z) Z Z (fun hh=>?_) (fun hh=>?_) <;>(try (exfalso;omega)))|(refine D3 (fun _=>zO Z Z Z) Z Z (fun hh=>?_) (fun hh=>?_) <;>(try (exfalso;omega))))|refine G_x (A2 (m:=i) Z Z Z Z (gm hn)) Z Z ?_|refine G_x (A2 (m:=i-1) Z Z Z (by omega) (gm hp)) Z Z ?_|refine G_x (A1 rfl rfl rfl en79 (cb1) (.eq rfl)) Z Z ?_|refine G_x (A1 rfl rfl rfl en79 (cb2) (.eq rfl)) Z Z ?_|refine G_x (A1 rfl rfl rfl en80 (cb3)) Z Z ?_|refine Wz ?_|refine Wb fun hb=>?_|(refine Wg (fun hg=>?_) (fun hg=>?_) <;>(first|subst hg|(simp at hg;subst hg)))|(refine Wc (fun hg=>?_) (fun hg=>?_) <;>(first|subst hg|(simp at hg;subst hg)|skip))))
  all_goals (try exact oMw)
  all_goals (try (all_goals (refine rEw hM ?_;(try rw [hq]);(first|(simp [one1, *,dB,dI,dS,List.anyB,List.allB,fstE,dcnE];done)|(simp_all [one1,dB,dI,dS,List.anyB,List.allB,fstE,dcnE];done)|(simp_all [one1,dB,dI,dS,List.anyB,List.allB,fstE,dcnE];omega)));done))
  all_goals (
   obtain⟨⟨nr,nn⟩,ny,np⟩:=n
   dsimp only at*
   have hnil:¬ np=[]:=fun h=>hpk (by rw [h];rfl)
   have hn4:¬ 4<np.length:=by omega
   have hde:dcnE l i ⟨⟨nr,nn⟩,ny,np⟩=if ((l.take i).anyB fun x=>ny&&(x.yes&&(decide (x.ref.rcd=nr)&&decide (x.ref.note=nn))))=true then 8 else 0:=by
    unfold dcnE
    dsimp only
    rw [if_neg (by simp [*]),if_neg hpk,if_neg hn4,if_neg (by rw [hpr];first|(simp [*];done)|(simp [*];intro h0;exfalso;omega))]
   rw [fstE,hde] at hq
   refine X_lp (ι:=Nat) 9444732402789337006116 [] (fun k=>[(5,.d (dI k))]) (fun _=>[]) (fun k=>k≤i∧(l.take i).anyB (fun x=>ny&&(x.yes&&(decide (x.ref.rcd=nr)&&decide (x.ref.note=nn))))=((l.take i).drop k).anyB (fun x=>ny&&(x.yes&&(decide (x.ref.rcd=nr)&&decide (x.ref.note=nn))))) (fun k=>i-k) (0) ?_ ?_
   ·exact⟨Nat.zero_le _,rfl⟩
   rintro k ⟨hk,hqk⟩
   by_cases hltk:k<i
   ·obtain⟨m,hm⟩:=gex (l:=l) (i:=k) (by omega)
    have hmt:(l.take i)[k]?=some m:=by rw [List.getElem?_take_of_lt hltk];exact hm
    rw [drp hmt] at hqk
    obtain⟨⟨mr,mn⟩,my,mp⟩:=m
    obtain⟨z,hz⟩:∃ z,(decide (mr=nr)&&decide (mn=nn))=z:=⟨_,rfl⟩
    rw [List.anyB] at hqk
    dsimp only at hqk
    rw [hz] at hqk
    cases ny <;> cases my
    all_goals (
     (repeat' (first|refine iDw (gm hm) ?_|refine G_x (A3k C5y rfl rfl rfl hz) rfl rfl ?_|refine Wz ?_|refine Wd (fun hh=>?_) fun hh=>?_|(refine Wc (fun hg=>?_) (fun hg=>?_) <;>(first|subst hg|(simp at hg;subst hg)|skip))))
     all_goals (try exact oMw)
     all_goals first
      | refine A0 (k+1) ?_ (by omega) (hf:=A6 rfl (B9 _))
      | (refine rEw hM ?_;rw [hq];(rw [hqk];simp [one1,dI]))
     all_goals exact⟨by omega,by rw [hqk];simp⟩)
   ·have hzk:i=k:=by omega
    subst hzk
    rw [List.drop_eq_nil_of_le (by rw [List.length_take];omega)] at hqk
    simp only [List.anyB] at hqk
    (repeat' (first|refine Wz ?_|refine Wd (fun hh=>?_) fun hh=>?_|(refine Wg (fun hg=>?_) (fun hg=>?_) <;>(first|subst hg|(simp at hg;subst hg)))))
    all_goals (try exact oMw)
    all_goals (refine A0 (i+1) ⟨by omega,?_⟩ (by omega);(try dsimp only);rw [hq,hqk];simp)))
end
section
open Go.RowKit Go.En Go.Dl Go.Tp
abbrev spnD (l:List Spn):Dt:=.s 2 (l.map spnC)
def L3 (q:List Spn × Spn × List Spn) (x:Spn):List Spn × Spn × List Spn:=if x.til<q.2.1.frm then (q.1++[x],q.2.1,q.2.2) else if q.2.1.til<x.frm then (q.1,q.2.1,q.2.2++[x]) else (q.1,⟨min q.2.1.frm x.frm,max q.2.1.til x.til⟩,q.2.2)
theorem C1x (l:List Spn) (s:Spn):insS l s=l.foldl L3 ([],s,[]):=rfl
theorem C1w (l:List Spn):∀ q,(l.foldl L3 q).1.length+(l.foldl L3 q).2.2.length≤q.1.length+q.2.2.length+l.length:=by
 induction l with
 | nil=>intro q;simp
 | cons x r ih=>
  intro q
  rw [List.foldl_cons]
  have h:=ih (L3 q x)
  have h2:(L3 q x).1.length+(L3 q x).2.2.length≤q.1.length+q.2.2.length+1:=by
   unfold L3
   split
   ·simp;omega
   ·split <;> simp <;> omega
  rw [List.length_cons];omega
theorem C8v (l:List Spn) (s:Spn):(insR l s).length≤l.length+1:=by
 unfold insR
 have:=C1w l ([],s,[])
 rw [← C1x] at this
 simp at this ⊢
 omega
theorem C5u (l:List Spn):∀ b:List Spn,(l.foldl (fun out s=>if A8 s then insR out s else out) b).length≤b.length+l.length:=by
 induction l with
 | nil=>intro b;simp
 | cons x r ih=>
  intro b
  rw [List.foldl_cons,List.length_cons]
  have h:=ih (if A8 x then insR b x else b)
  have h2:(if A8 x then insR b x else b).length≤b.length+1:=by
   split
   ·exact C8v b x
   ·omega
  omega
def tot (l:List Spn):Int:=(l.map fun x=>x.til-x.frm).foldr (·+·) 0
theorem C0k (a b:List Spn):tot (a++b)=tot a+tot b:=by
 unfold tot
 induction a with
 | nil=>simp
 | cons x r ih=>rw [List.cons_append,List.map_cons,List.foldr_cons,ih,List.map_cons,List.foldr_cons];omega
theorem B5m (x:Spn) (l:List Spn):tot (x::l)=(x.til-x.frm)+tot l:=rfl
theorem B0o:∀ {l:List Spn},(∀ x∈l,A8 x=true)→(l.length:Int)≤tot l
 | [],_=>by simp [tot]
 | x::r,h=>by
  have h1:=h x (List.mem_cons_self ..)
  have h2:=B0o fun y hy=>h y (List.mem_cons_of_mem _ hy)
  simp [A8] at h1
  rw [B5m,List.length_cons]
  omega
theorem C5j {l:List Spn} {s:Spn}:∀ x∈woS l s,A8 x=true:=fun x hx=>by
 unfold woS at hx
 obtain⟨y,_,hy⟩:=List.mem_flatMap.1 hx
 rcases List.mem_append.1 hy with hy|hy
 ·split at hy
  ·rename_i h;rw [List.mem_singleton.1 hy];exact h
  ·cases hy
 ·split at hy
  ·rename_i h;rw [List.mem_singleton.1 hy];exact h
  ·cases hy
theorem C5i {s : Spn} (hs : A8 s = true) : ∀ {l : List Spn}, (∀ x ∈ l, A8 x = true) → tot (woS l s) ≤ tot l
 | [],_=>by simp [woS,tot]
 | x :: r, h => by
  have h1:=h x (List.mem_cons_self ..)
  have h2:=C5i hs fun y hy=>h y (List.mem_cons_of_mem _ hy)
  have e:woS (x::r) s=((if A8 (cutL x s) then [cutL x s] else [])++(if A8 (cutR x s) then [cutR x s] else []))++woS r s:=by unfold woS;rw [List.flatMap_cons]
  rw [e,C0k,C0k,B5m]
  have k1:tot (if A8 (cutL x s) then [cutL x s] else [])=if A8 (cutL x s) then (min x.til s.frm-x.frm) else 0:=by
   split <;> simp [tot,cutL]
  have k2:tot (if A8 (cutR x s) then [cutR x s] else [])=if A8 (cutR x s) then (x.til-max x.frm s.til) else 0:=by
   split <;> simp [tot,cutR]
  rw [k1,k2]
  simp [A8] at h1 hs
  have:(if A8 (cutL x s) then (min x.til s.frm-x.frm) else 0)+(if A8 (cutR x s) then (x.til-max x.frm s.til) else 0)≤x.til-x.frm:=by
   split
   ·rename_i c1
    simp [A8,cutL] at c1
    split
    ·rename_i c2
     simp [A8,cutR] at c2
     omega
    ·omega
   ·split
    ·omega
    ·omega
  omega
def mstep (out:List Spn) (s:Spn):List Spn:=if A8 s then woS out s else out
theorem C8e (b:List Spn):∀ {a:List Spn},(∀ x∈a,A8 x=true)→(∀ x∈b.foldl mstep a,A8 x=true)∧tot (b.foldl mstep a)≤tot a:=by
 induction b with
 | nil=>intro a h;exact⟨h,Int.le_refl _⟩
 | cons s r ih=>
  intro a h
  rw [List.foldl_cons]
  unfold mstep
  cases hs:A8 s with
  | false=>exact ih h
  | true=>
   have:=ih (a:=woS a s) C5j
   exact⟨this.1,Int.le_trans this.2 (C5i hs h)⟩
section
variable {P : Program} {L : List (Nat × Value)} {w : World} {o : Oper}
theorem zMn {t u:TypeId} {x y:Operand} {a b:Int} (ho:o.op=.call { callee:=.builtin .min,args:=#[x,y],argTypes:=#[t,u] }) (hx:ev L x=some (int a)) (hy:ev L y=some (int b)):Val P L w o (int (min a b)):=by
 have:=B3a (P:=P) (w:=w) ho hx hy
 rwa [show(if b<a then b else a)=min a b by rw [Int.min_def];split <;> split <;> omega] at this
theorem zMx {t u:TypeId} {x y:Operand} {a b:Int} (ho:o.op=.call { callee:=.builtin .max,args:=#[x,y],argTypes:=#[t,u] }) (hx:ev L x=some (int a)) (hy:ev L y=some (int b)):Val P L w o (int (max a b)):=by
 have:=B3b (P:=P) (w:=w) ho hx hy
 rwa [show(if b>a then b else a)=max a b by rw [Int.max_def];split <;> split <;> omega] at this
end
attribute [local irreducible] X XL XW XG XK Val LS Fp Fo Calls bodyPost Code.wp
theorem c256 (l : List Spn) (s : Spn) (hl : l.length ≤ 1099511627776) : Fp Tryz.prog 256 [spnD l, .g (spnC s)] (spnD (insR l s)) := by
 refine fXw Tryz.func256 Tryz.ntmps256 fun c hM=>?_
 (repeat' ((fail_if_success (refine J1 (x:=(Code.region 3 _ _)) ?_));first|refine G_nd rfl rfl (N4 _ rfl rfl rfl rfl rfl) rfl ?_|refine Wz ?_|fail))
 (repeat' (first|refine Wz ?_|fail))
 refine X_lp (ι:=Nat × Nat × Nat) 9223372036854775008 [8,9,3] (fun q=>[(5,.o 8 q.2.1),(6,.o 9 q.2.2),(7,.d (dI q.1))]) (fun q=>[(8,.ls 82 2 q.2.1 (((l.take q.1).foldl L3 ([],s,[])).1.map spnC)),(9,.ls 82 2 q.2.2 (((l.take q.1).foldl L3 ([],s,[])).2.2.map spnC)),(3,.box 82 ((spnC ((l.take q.1).foldl L3 ([],s,[])).2.1).map .d))]) (fun q=>q.1≤l.length) (fun q=>l.length-q.1) ((0,0,0)) ?_ ?_
 ·exact Nat.zero_le _
 rintro⟨i,v5,v6⟩ hi
 dsimp only at hi
 have hlen:=C1w (l.take i) ([],s,[])
 by_cases hlt:i<l.length
 ·obtain⟨n,hn⟩:=gex hlt
  have ht:=J8 (f:=L3) (b:=([],s,[])) hn
  obtain⟨q,hq⟩:∃ q,q=(l.take i).foldl L3 ([],s,[]):=⟨_,rfl⟩
  rw [← hq] at ht hlen ⊢
  simp only [List.length_nil,List.length_take] at hlen
  rw [show L3 q n=(if n.til<q.2.1.frm then (q.1++[n],q.2.1,q.2.2) else if q.2.1.til<n.frm then (q.1,q.2.1,q.2.2++[n]) else (q.1,⟨min q.2.1.frm n.frm,max q.2.1.til n.til⟩,q.2.2)) from rfl] at ht
  by_cases h1:n.til<q.2.1.frm
  ·rw [if_pos h1] at ht
   (repeat' (first|refine iDw (gm hn) ?_|refine Wz ?_|refine Wb fun hb=>?_|refine Wd (fun hh=>?_) fun hh=>?_))
   all_goals (try exact oMw)
   exact A0 (i+1,v5+1,v6) (by dsimp only;omega) (by dsimp only;omega) (hh:=by dsimp only;rw [ht];exact A3 (by show some _=some _;simp [spnC]) (A3 rfl (A3 rfl (A4 _))))
  ·rw [if_neg h1] at ht
   by_cases h2:q.2.1.til<n.frm
   ·rw [if_pos h2] at ht
    (repeat' (first|refine iDw (gm hn) ?_|refine Wz ?_|refine Wb fun hb=>?_|refine Wd (fun hh=>?_) fun hh=>?_))
    all_goals (try exact oMw)
    exact A0 (i+1,v5,v6+1) (by dsimp only;omega) (by dsimp only;omega) (hh:=by dsimp only;rw [ht];exact A3 rfl (A3 (by show some _=some _;simp [spnC]) (A3 rfl (A4 _))))
   ·rw [if_neg h2] at ht
    (repeat' (first|refine iDw (gm hn) ?_|(refine X5 ?_;first|refine G_x (A5 fun _=>zMn rfl rfl rfl) rfl rfl ?_|refine G_x (A5 fun _=>zMx rfl rfl rfl) rfl rfl ?_)|refine Wz ?_|refine Wb fun hb=>?_|refine Wd (fun hh=>?_) fun hh=>?_))
    all_goals (try exact oMw)
    exact A0 (i+1,v5,v6) (by dsimp only;omega) (by dsimp only;omega) (hh:=by dsimp only;rw [ht];exact A3 rfl (A3 rfl (A3 rfl (A4 _))))
 ·have hz:i=l.length:=by omega
  subst hz
  rw [List.take_length] at hlen ⊢
  unfold insR
  rw [C1x]
  obtain⟨q,hq⟩:∃ q,q=l.foldl L3 ([],s,[]):=⟨_,rfl⟩
  rw [← hq] at hlen ⊢
  simp only [List.length_nil] at hlen
  (repeat' ((fail_if_success (refine J1 (x:=(Code.region 11 _ _)) ?_));first|refine Wz ?_|refine Wb fun hb=>?_|refine Wd (fun hh=>?_) fun hh=>?_))
  all_goals (try exact oMw)
  refine B4q 6 rfl rfl lOw ?_
  (repeat' (first|refine Wz ?_|fail))
  refine C3 4 rfl rfl lOw ?_
  refine rEw hM ?_
  simp [one1,spnC]
theorem c213 (l:List Spn) (hl:l.length≤1099511627776):Fp Tryz.prog 213 [spnD l] (spnD (uniS l)):=by
 unfold uniS
 refine fXw Tryz.func213 Tryz.ntmps213 fun c hM=>?_
 (repeat' (first|refine Wz ?_|fail))
 refine X_lp (ι:=Nat) 8388568 [] (fun i=>[(3,.d (.s 2 (((((l).take i).foldl (fun out s=>if A8 s then insR out s else out) ([]))).map spnC))),(4,.d (dI i))]) (fun _=>[]) (fun i=>i≤(l).length) (fun i=>(l).length-i) (0) ?_ ?_
 ·exact Nat.zero_le _
 rintro i hi
 by_cases hlt:i<(l).length
 rotate_left
 ·have hz:i=(l).length:=by omega
  subst hz
  rw [List.take_length]
  ((repeat' (first|refine Wz ?_|refine Wb fun hb=>?_|refine Wd (fun hh=>?_) fun hh=>?_)) <;> first|(exfalso;omega)|exact rXw hM)
 obtain⟨n,hn⟩:=gex hlt
 have hmem:=List.mem_of_getElem? hn
 have ht:=J8 (f:=fun out s=>if A8 s then insR out s else out) (b:=[]) hn
 have hu:=C5u (l.take i) []
 simp only [List.length_nil,List.length_take] at hu
 obtain⟨o,ho⟩:∃ o,o=(l.take i).foldl (fun out s=>if A8 s then insR out s else out) []:=⟨_,rfl⟩
 rw [← ho] at ht hu ⊢
 obtain⟨b,hb⟩:∃ b,A8 n=b:=⟨_,rfl⟩;have cb:=c60 n;rw [hb] at cb
 rw [hb] at ht
 (repeat' (first|refine iDw (gm hn) ?_|refine cDw en60 cb ?_|refine cDw G5t (c256 o n (by omega)) ?_|refine Wz ?_|refine Wb fun hb=>?_|refine Wd (fun hh=>?_) fun hh=>?_|(refine Wc (fun hg=>?_) (fun hg=>?_) <;>(first|subst hg|(simp at hg;subst hg)|skip))))
 all_goals (try exact oMw)
 all_goals exact A0 (i+1) (by omega) (by omega) (by(try dsimp only);rw [ht];(repeat (refine A6 (by first|rfl|simp [*]) ?_));exact B9 _)
theorem c214 (l : List Spn) (s : Spn) (hl : l.length ≤ 1099511627776) : Fp Tryz.prog 214 [spnD l, .g (spnC s)] (spnD (woS l s)) := by
 refine fXw Tryz.func214 Tryz.ntmps214 fun c hM=>?_
 (repeat' ((fail_if_success (refine J1 (x:=(Code.region 2 _ _)) ?_));first|refine G_nd rfl rfl (N4 _ rfl rfl rfl rfl rfl) rfl ?_|refine Wz ?_|fail))
 (repeat' (first|refine Wz ?_|fail))
 refine X_lp (ι:=Nat × Nat) 72057594037927392 [9] (fun q=>[(5,.o 9 q.2),(6,.d (dI q.1))]) (fun q=>[(9,.ls 82 2 q.2 ((woS (l.take q.1) s).map spnC))]) (fun q=>q.1≤l.length) (fun q=>l.length-q.1) ((0,0)) ?_ ?_
 ·exact Nat.zero_le _
 rintro⟨i,ver⟩ hi
 dsimp only at hi
 have hwl:(woS (l.take i) s).length≤2*l.length:=by
  have key:∀ q:List Spn,(woS q s).length≤2*q.length:=by
   intro q
   unfold woS
   induction q with
   | nil=>simp
   | cons x r ih=>
    rw [List.flatMap_cons,List.length_append,List.length_append,List.length_cons]
    split <;> split <;> simp at ih ⊢ <;> omega
  have:=key (l.take i)
  rw [List.length_take] at this
  omega
 by_cases hlt:i<l.length
 ·obtain⟨n,hn⟩:=gex hlt
  have ht:woS (l.take (i+1)) s=woS (l.take i) s++((if A8 (cutL n s) then [cutL n s] else [])++(if A8 (cutR n s) then [cutR n s] else [])):=by
   unfold woS
   rw [List.take_succ,hn]
   simp
  obtain⟨o,ho⟩:∃ o,o=woS (l.take i) s:=⟨_,rfl⟩
  rw [← ho] at ht hwl ⊢
  obtain⟨b,hb⟩:∃ b,A8 (cutL n s)=b:=⟨_,rfl⟩;have cb:=c60 (cutL n s);rw [hb] at cb;obtain⟨d,hd⟩:∃ b,A8 (cutR n s)=b:=⟨_,rfl⟩;have cd:=c60 (cutR n s);rw [hd] at cd
  rw [hb,hd] at ht
  (repeat' (first|refine iDw (gm hn) ?_|refine G_x (A1 rfl rfl rfl en60 (cb) (.eq rfl)) rfl rfl ?_|refine G_x (A1 rfl rfl rfl en60 (cd) (.eq rfl)) rfl rfl ?_|(refine X5 ?_;first|refine G_x (A5 fun _=>zMn rfl rfl rfl) rfl rfl ?_|refine G_x (A5 fun _=>zMx rfl rfl rfl) rfl rfl ?_)|refine Wz ?_|refine Wb fun hb=>?_|refine Wd (fun hh=>?_) fun hh=>?_|(refine Wc (fun hg=>?_) (fun hg=>?_) <;>(first|subst hg|(simp at hg;subst hg)|skip))))
  all_goals (try exact oMw)
  ·exact A0 (i+1,ver+2) (by dsimp only;omega) (by dsimp only;omega) (hh:=by dsimp only;rw [ht];exact A3 (by show some _=some _;simp [spnC,cutL,cutR,dI]) (A4 _))
  ·exact A0 (i+1,ver+1) (by dsimp only;omega) (by dsimp only;omega) (hh:=by dsimp only;rw [ht];exact A3 (by show some _=some _;simp [spnC,cutL,cutR,dI]) (A4 _))
  ·exact A0 (i+1,ver+1) (by dsimp only;omega) (by dsimp only;omega) (hh:=by dsimp only;rw [ht];exact A3 (by show some _=some _;simp [spnC,cutL,cutR,dI]) (A4 _))
  ·exact A0 (i+1,ver) (by dsimp only;omega) (by dsimp only;omega) (hh:=by dsimp only;rw [ht];exact A3 (by show some _=some _;simp [spnC,cutL,cutR,dI]) (A4 _))
 ·have hz:i=l.length:=by omega
  subst hz
  rw [List.take_length] at hwl ⊢
  (repeat' (first|refine Wz ?_|refine Wb fun hb=>?_|refine Wd (fun hh=>?_) fun hh=>?_))
  all_goals (try exact oMw)
  refine C3 4 rfl rfl lOw ?_
  exact rXw hM
theorem c144 (a b:List Spn) (ha:a.length≤1099511627776) (hr:∀ x∈uniS a,A8 x=true) (ht0:tot (uniS a)≤1099511627776):Fp Tryz.prog 144 [spnD a,spnD b] (spnD (minS a b)):=by
 unfold minS
 show Fp _ _ _ (spnD (b.foldl mstep (uniS a)))
 refine fXw Tryz.func144 Tryz.ntmps144 fun c hM=>?_
 (repeat' (first|refine cDw G6t (c213 a ha) ?_|refine Wz ?_|fail))
 refine X_lp (ι:=Nat) 67108448 [] (fun i=>[(5,.d (.s 2 (((((b).take i).foldl (mstep) (uniS a))).map spnC))),(6,.d (dI i))]) (fun _=>[]) (fun i=>i≤(b).length) (fun i=>(b).length-i) (0) ?_ ?_
 ·exact Nat.zero_le _
 rintro i hi
 by_cases hlt:i<(b).length
 rotate_left
 ·have hz:i=(b).length:=by omega
  subst hz
  rw [List.take_length]
  ((repeat' (first|refine Wz ?_|refine Wb fun hb=>?_|refine Wd (fun hh=>?_) fun hh=>?_)) <;> first|(exfalso;omega)|exact rXw hM)
 obtain⟨n,hn⟩:=gex hlt
 have hmem:=List.mem_of_getElem? hn
 have ht:=J8 (f:=mstep) (b:=uniS a) hn
 have hu:=C8e (b.take i) hr
 obtain⟨o,ho⟩:∃ o,o=(b.take i).foldl mstep (uniS a):=⟨_,rfl⟩
 rw [← ho] at ht hu ⊢
 have hol:=B0o hu.1
 have hot:=hu.2
 rw [show mstep o n=(if A8 n then woS o n else o) from rfl] at ht
 obtain⟨d,hd⟩:∃ b,A8 n=b:=⟨_,rfl⟩;have cd:=c60 n;rw [hd] at cd
 rw [hd] at ht
 (repeat' (first|refine iDw (gm hn) ?_|refine cDw en60 cd ?_|refine cDw G6s (c214 o n (by omega)) ?_|refine Wz ?_|refine Wb fun hb=>?_|refine Wd (fun hh=>?_) fun hh=>?_|(refine Wc (fun hg=>?_) (fun hg=>?_) <;>(first|subst hg|(simp at hg;subst hg)|skip))))
 all_goals (try exact oMw)
 all_goals exact A0 (i+1) (by omega) (by omega) (by(try dsimp only);rw [ht];(repeat (refine A6 (by first|rfl|simp [*]) ?_));exact B9 _)
theorem B5k (s:Spn) (h:A8 s=true):uniS [s]=[s]:=by
 unfold uniS
 simp [h,insR,insS]
theorem q24S {p:Prop} (h:p:=by first|(simp [one1, *,dB,dI,dS,List.anyB,List.allB];done)|(simp_all [one1,dB,dI,dS,List.anyB,List.allB];done)|(simp_all [one1,dB,dI,dS,List.anyB,List.allB];omega)):p:=h
theorem c61 (l:List Spn) (s:Spn):Fp Tryz.prog 61 [spnD l,.g (spnC s)] (dB (covS l s)):=by
 unfold covS
 cases h:A8 s with
 | false=>
  have cb:=c60 s
  rw [h] at cb
  refine fXw Tryz.func61 Tryz.ntmps61 fun c hM=>?_
  (repeat' (first|refine cDw en60 cb ?_|refine Wz ?_|fail))
  all_goals (refine rEw hM ?_;exact q24S)
 | true=>
  have cb:=c60 s
  rw [h] at cb
  have hs:=h
  simp [A8] at hs
  have c2:=c144 [s] l (by simp) (by rw [B5k s h];intro x hx;rw [List.mem_singleton.1 hx];exact h) (by rw [B5k s h];simp [tot];omega)
  refine fXw Tryz.func61 Tryz.ntmps61 fun c hM=>?_
  (repeat' (first|refine cDw en60 cb ?_|refine cDw G8b c2 ?_|refine Wz ?_|refine Wb fun hb=>?_|refine Wd (fun hh=>?_) fun hh=>?_))
  all_goals (try exact oMw)
  all_goals (refine rEw hM ?_;exact q24S)
end
end Go.Proofs.YtojadfppncgphaaGreatDoor