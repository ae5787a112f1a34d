/- Own text. -/
import Derived.Test.YtojadfppncgphaaGreatDoorQYp
import Derived.Test.YtojadfppncgphaaGreatDoorQYo
set_option linter.all false
set_option maxHeartbeats 16000000
set_option maxRecDepth 8000
namespace Go.Proofs.YtojadfppncgphaaGreatDoor
section
open Go.RowKit Go.En Go.Dl Go.Tp
attribute [local irreducible] X XL XW XG XK Val LS Fp Fo Calls bodyPost Code.wp
theorem eix (l:List Entr)(id:Int):(eIx l id = -1∧getE l id=none)∨∃(i:Nat) (e:Entr),eIx l id=(i:Int)∧l[i]?=some e∧getE l id=some e:=by
 rcases Q5 (fun x:Entr=>decide (x.id=id)) l 0 with h|⟨i,x,h1,h2,h3⟩
 ·exact .inl h
 ·exact .inr ⟨i,x,by rw [Nat.zero_add] at h1;exact h1,h2,h3⟩
theorem n159 (l:List Entr)(id:Int):Fp Tryz.prog 159 [lexD l,dI id] (dI (eIx l id)):=c159 l id
theorem n163 (l:List Entr)(id:Int):Fp Tryz.prog 163 [lexD l,dI id] (dI (eIx l id)):=c163 l id
theorem c158 (k:Int):Fp Tryz.prog 158 [dI k] (dI (invR k)):=by
 refine fXw Tryz.func158 Tryz.ntmps158 fun c hM=>?_
 (repeat' (first|refine Wz ?_|apply Wd <;>intro hh))
 all_goals (refine rEw hM ?_;(first|(simp [one1, *,dB,dI,dS,List.anyB,List.allB,invR];done)|(simp_all [one1,dB,dI,dS,List.anyB,List.allB,invR];done)|(simp_all [one1,dB,dI,dS,List.anyB,List.allB,invR];omega)))
theorem G3a:TwoInts Tryz.prog 220 3:=⟨by kernel_rfl,by kernel_rfl,by kernel_rfl,by kernel_rfl,Tryz.underlying3⟩
theorem D7f {P:Program}{o:Oper}{F:Fr}{H:Hp}{t e u:TypeId}{x y:Operand}{a b c d:Int}{r:Bool}(h:TwoInts P t e)(ho:o.op=.binOp .eql t x y u)(hx:ev (pk F o) x=some (.agg #[int a,int b]))(hy:ev (pk F o) y=some (.agg #[int c,int d]))(hr:(decide (a=c)&&decide (b=d))=r):LS P o F H [] (some (.d (.v (.bool r)))) []:=by
 have:=D0g (H:=H) h ho hx hy
 rwa [hr] at this
theorem q9S {p:Prop}(h:p:=by first|(simp [one1, *,dB,dI,dS,List.anyB,List.allB];done)|(simp_all [one1,dB,dI,dS,List.anyB,List.allB];done)|(simp_all [one1,dB,dI,dS,List.anyB,List.allB];omega)):p:=h
theorem c160 (e:Entr)(x:Lnk):Fp Tryz.prog 160 [.g (entC e),.g (lkC x)] (dB (lkB e x)):=by
 unfold lkB
 refine fXw Tryz.func160 Tryz.ntmps160 fun c hM=>?_
 (repeat' (first|refine Wz ?_|fail))
 refine X_lp (ι:=Nat) 1048560 [] (fun i=>[(5,.d (dI i))]) (fun _=>[]) (fun i=>i≤(e.links).length∧(fun _ q=>q.anyB fun y=>decide (y.kind=x.kind)&&decide (y.to=x.to)) 0 (e.links)=(fun _ q=>q.anyB fun y=>decide (y.kind=x.kind)&&decide (y.to=x.to)) i ((e.links).drop i)) (fun i=>(e.links).length-i) (0) ?_ ?_
 ·exact⟨zLw,rfl⟩
 rintro i ⟨hi,hq⟩
 by_cases hlt:i<(e.links).length
 rotate_left
 ·have hz:i=(e.links).length:=oEw
  subst hz
  rw [List.drop_eq_nil_of_le (Nat.le_refl _)] at hq
  try dsimp only at hq
  ((repeat' (first|refine Wz ?_|refine Wb fun hb=>?_|apply Wd <;>intro hh)) <;> first|(exfalso;omega)|(all_goals (refine rEw hM ?_;(try rw [hq]);exact q9S)))
 obtain⟨n,hn⟩:=gex hlt
 obtain⟨pv,hp⟩:=gex (l:=e.links) (i:=i-1) oEw
 have hpr:=B6 hp
 have hmem:=List.mem_of_getElem? hn
 rw [drp hn] at hq
 try dsimp only at hq
 obtain⟨z0,hz0⟩:∃ z0,(decide (n.kind=x.kind)&&decide (n.to=x.to))=z0:=⟨_,rfl⟩;rw [List.anyB,hz0] at hq
 all_goals (repeat' (first|refine iDw (gm hn) ?_|refine G_x (D7f G3a Z Z Z hz0) Z Z ?_|refine Wz ?_|refine Wb fun hb=>?_|refine Wd (fun hh=>?_) fun hh=>?_|(refine Wc (fun hg=>?_) (fun hg=>?_) <;>(first|subst hg|(simp at hg;subst hg)|skip))))
 all_goals (try exact oMw)
 all_goals first
  | exact A0 (i+1) ⟨oEw,by(try dsimp only);rw [hq];exact q9S⟩ oEw
  | (refine rEw hM ?_;(try rw [hq]);exact q9S)
theorem H0x (l:List Int)(a:Int):Fp Tryz.prog 161 [ints l,dI a] ((fun _ l=>dB (l.anyB fun x=>decide (x=a))) 0 l):=by
 refine fXw Tryz.func161 Tryz.ntmps161 fun c hM=>?_
 (repeat' (first|refine Wz ?_|fail))
 refine X_lp (ι:=Nat) 262128 [] (fun i=>[(5,.d (dI i))]) (fun _=>[]) (fun i=>i≤l.length∧(fun _ l=>dB (l.anyB fun x=>decide (x=a))) 0 l=(fun _ l=>dB (l.anyB fun x=>decide (x=a))) i (l.drop i)) (fun i=>l.length-i) (0) ?_ ?_
 ·exact⟨zLw,rfl⟩
 rintro i ⟨hi,hq⟩
 by_cases hlt:i<l.length
 ·obtain⟨n,hn⟩:=gex hlt
  (repeat' (first|refine iDw (gm hn) ?_|refine Wz ?_|refine Wb fun hb=>?_|apply Wd <;>intro hh))
  all_goals (try exact oMw)
  all_goals first
   | (rw [hq,drp hn];refine rEw hM ?_;exact q9S)
   | exact A0 (i+1) ⟨oEw,by rw [hq,drp hn];exact q9S⟩ oEw
 ·(repeat' (first|refine Wz ?_|refine Wb fun hb=>?_|apply Wd <;>intro hh))
  all_goals (try exact oMw)
  all_goals rw [hq,List.drop_eq_nil_of_le oEw]
  all_goals (refine rEw hM ?_;exact q9S)
theorem n161 (l:List Int)(a:Int):Fp Tryz.prog 161 [ints l,dI a] (dB (hasR l a)):=H0x l a
theorem c164 (l : List Entr)(id : Int)(hl : l.length ≤ 1099511627776) : Fp Tryz.prog 164 [lexD l, dI id] (ints (wayR l (l.length + 1) id)) := by
 have c1:=n163 l id
 obtain⟨W,hW⟩:∃ W,wayR l (l.length+1) id=W:=⟨_,rfl⟩
 rw [hW]
 refine fXw Tryz.func164 Tryz.ntmps164 fun c hM=>?_
 (repeat' ((fail_if_success (refine H7 (x:=(Code.region 2 _ _)) ?_));first|refine G_nd Z Z (L1 _ Z Z Z Z Z) Z ?_|refine Wz ?_|fail))
 (repeat' (first|refine cDw D2p c1 ?_|refine Wz ?_|fail))
 refine X_lp (ι:=Nat × Int × List Int) 2199023253600 [7] (fun q=>[(5,.o 7 q.1),(6,.d (dI (eIx l q.2.1)))]) (fun q=>[(7,.ls 3 1 q.1 (q.2.2.map iC))]) (fun q=>q.2.2.length≤l.length+1∧W=q.2.2++wayR l (l.length+1-q.2.2.length) q.2.1) (fun q=>l.length+1-q.2.2.length) ((0,id,[])) ?_ ?_
 ·exact⟨zLw,hW.symm⟩
 rintro⟨ver,k,acc⟩ ⟨ha,hq⟩
 dsimp only at ha hq
 rcases eix l k with⟨h1,h2⟩|⟨p,e,h1,h2,h3⟩
 ·dsimp only
  rw [h1]
  (repeat' (first|refine Wz ?_|refine Wb fun hb=>?_|apply Wd <;>intro hh))
  all_goals (try exact oMw)
  all_goals (
   have hw:wayR l (l.length+1-acc.length) k=[]:=by
    cases l.length+1-acc.length with
    | zero=>rfl
    | succ m=>rw [wayR,h2]
   rw [hq,hw,List.append_nil]
   refine B9 4 Z Z lOw ?_
   exact rXw hM)
 ·dsimp only
  rw [h1]
  by_cases hlt:acc.length≤l.length
  ·obtain⟨m,hm⟩:∃ m,l.length+1-acc.length=m+1:=⟨l.length-acc.length,oEw⟩
   rw [hm,wayR,h3] at hq
   dsimp only at hq
   by_cases hm0:e.main=0
   ·rw [if_pos hm0] at hq
    (repeat' (first|(refine M0 ?_;first|(refine D2 (fun _=>zM Z Z Z) Z Z (fun hh=>?_) (fun hh=>?_) <;>(try (exfalso;omega)))|(refine D2 (fun _=>zN Z Z Z) Z Z (fun hh=>?_) (fun hh=>?_) <;>(try (exfalso;omega)))|(refine D2 (fun _=>zP Z Z Z) Z Z (fun hh=>?_) (fun hh=>?_) <;>(try (exfalso;omega))))|refine G_x (A2 (m:=p) Z Z Z Z (gm h2)) Z Z ?_|refine Wz ?_|refine Wb fun hb=>?_))
    all_goals (try exact oMw)
    rw [hq]
    refine B9 4 Z Z lOw ?_
    refine rEw hM ?_
    simp [one1,iC,dI]
   ·rw [if_neg hm0] at hq
    have c2:=n163 l e.main
    (repeat' (first|(refine M0 ?_;first|(refine D2 (fun _=>zM Z Z Z) Z Z (fun hh=>?_) (fun hh=>?_) <;>(try (exfalso;omega)))|(refine D2 (fun _=>zN Z Z Z) Z Z (fun hh=>?_) (fun hh=>?_) <;>(try (exfalso;omega)))|(refine D2 (fun _=>zP Z Z Z) Z Z (fun hh=>?_) (fun hh=>?_) <;>(try (exfalso;omega))))|refine G_x (A2 (m:=p) Z Z Z Z (gm h2)) Z Z ?_|refine G_x (A3 Z Z Z D2p (c2)) Z Z ?_|refine Wz ?_|refine Wb fun hb=>?_))
    all_goals (try exact oMw)
    exact A0 (ver+1,e.main,acc++[e.id]) ⟨by simp;omega,by dsimp only;rw [hq,List.length_append,show l.length+1-(acc.length+[e.id].length)=m by simp;omega];simp⟩ (by simp;omega) (hh:=A1 (by show some _=some _;simp [iC,dI]) (A4 _))
  ·have hz:l.length+1-acc.length=0:=oEw
   rw [hz,wayR,List.append_nil] at hq
   (repeat' (first|(refine M0 ?_;first|(refine D2 (fun _=>zN Z Z Z) Z Z (fun hh=>?_) (fun hh=>?_) <;>(try (exfalso;omega)))|(refine D2 (fun _=>zP Z Z Z) Z Z (fun hh=>?_) (fun hh=>?_) <;>(try (exfalso;omega))))|refine Wz ?_|refine Wb fun hb=>?_))
   all_goals (try exact oMw)
   rw [hq]
   refine B9 4 Z Z lOw ?_
   exact rXw hM
theorem q10S {p:Prop}(h:p:=by first|(simp [one1, *,dB,dI,dS,List.anyB,List.allB,hasE];done)|(simp_all [one1,dB,dI,dS,List.anyB,List.allB,hasE];done)|(simp_all [one1,dB,dI,dS,List.anyB,List.allB,hasE];omega)):p:=h
theorem c75 (l:List Entr)(hl:l.length≤1099511627776):Fp Tryz.prog 75 [lexD l] (dI (varE l)):=by
 unfold varE
 refine fXw Tryz.func75 Tryz.ntmps75 fun c hM=>?_
 (repeat' (first|refine Wz ?_|fail))
 refine X_lp (ι:=Nat) 134217708 [] (fun i=>[(3,.d (dI i))]) (fun _=>[]) (fun i=>i≤(l).length∧(fun _ q=>q.allB fun e=>decide (e.main=0)||hasE l e.main) 0 (l)=(fun _ q=>q.allB fun e=>decide (e.main=0)||hasE l e.main) i ((l).drop i)) (fun i=>(l).length-i) (0) ?_ ?_
 ·exact⟨zLw,rfl⟩
 rintro i ⟨hi,hq⟩
 by_cases hlt:i<(l).length
 rotate_left
 ·have hz:i=(l).length:=oEw
  subst hz
  rw [List.drop_eq_nil_of_le (Nat.le_refl _)] at hq
  try dsimp only at hq
  have h1:=hq
  clear hq
  rw [List.allB] at h1
  (repeat' (first|refine Wz ?_|refine Wb fun hb=>?_|apply Wd <;>intro hh))
  all_goals (try exact oMw)
  refine X_lp (ι:=Nat) 17592051826708 [] (fun i=>[(4,.d (dI i))]) (fun _=>[]) (fun i=>i≤(l).length∧(fun _ q=>q.anyB fun e=>decide (l.length<(wayR l (l.length+1) e.id).length)) 0 (l)=(fun _ q=>q.anyB fun e=>decide (l.length<(wayR l (l.length+1) e.id).length)) i ((l).drop i)) (fun i=>(l).length-i) (0) ?_ ?_
  ·exact⟨zLw,rfl⟩
  rintro i ⟨hi,hq⟩
  by_cases hlt:i<(l).length
  rotate_left
  ·have hz:i=(l).length:=oEw
   subst hz
   rw [List.drop_eq_nil_of_le (Nat.le_refl _)] at hq
   try dsimp only at hq
   ((repeat' (first|refine Wz ?_|refine Wb fun hb=>?_|apply Wd <;>intro hh)) <;> first|(exfalso;omega)|(all_goals (refine rEw hM ?_;(try rw [hq]);exact q9S)))
  obtain⟨n,hn⟩:=gex hlt
  obtain⟨pv,hp⟩:=gex (l:=l) (i:=i-1) oEw
  have hpr:=B6 hp
  have hmem:=List.mem_of_getElem? hn
  rw [drp hn] at hq
  try dsimp only at hq
  all_goals (repeat' (first|refine iDw (gm hn) ?_|refine cDw H0a (c164 l n.id hl) ?_|refine Wz ?_|refine Wb fun hb=>?_|apply Wd <;>intro hh))
  all_goals (try exact oMw)
  all_goals first
   | exact A0 (i+1) ⟨oEw,by(try dsimp only);rw [hq];exact q9S⟩ oEw
   | (refine rEw hM ?_;(try rw [hq]);exact q9S)
 obtain⟨n,hn⟩:=gex hlt
 obtain⟨pv,hp⟩:=gex (l:=l) (i:=i-1) oEw
 have hpr:=B6 hp
 have hmem:=List.mem_of_getElem? hn
 rw [drp hn] at hq
 try dsimp only at hq
 have c1:=n163 l n.main;rcases eix l n.main with⟨k1,k2⟩|⟨p,e,k1,k2,k3⟩ <;> rw [k1] at c1
 all_goals (repeat' (first|refine iDw (gm hn) ?_|refine cDw D2p c1 ?_|refine Wz ?_|refine Wb fun hb=>?_|apply Wd <;>intro hh))
 all_goals (try exact oMw)
 all_goals first
  | exact A0 (i+1) ⟨oEw,by(try dsimp only);rw [hq];exact q10S⟩ oEw
  | (refine rEw hM ?_;(try rw [hq]);exact q10S)
theorem c63 (l:List Entr):Fp Tryz.prog 63 [lexD l] (dB (A5e l)):=by
 unfold A5e
 refine fXw Tryz.func63 Tryz.ntmps63 fun c hM=>?_
 (repeat' (first|refine Wz ?_|refine Wb fun hb=>?_|apply Wd <;>intro hh))
 all_goals (try exact oMw)
 all_goals (try (all_goals (refine rEw hM ?_;exact q9S);done))
 refine X_lp (ι:=Nat) 1125899906842396 [] (fun i=>[(3,.d (dI i))]) (fun _=>[]) (fun i=>i≤(l).length∧(fun _ q=>q.allB fun e=>!(decide (3<e.form.length)||decide (1<e.alts.length))&&e.alts.allB fun a=>decide (a.length≤3)) 0 (l)=(fun _ q=>q.allB fun e=>!(decide (3<e.form.length)||decide (1<e.alts.length))&&e.alts.allB fun a=>decide (a.length≤3)) i ((l).drop i)) (fun i=>(l).length-i) (0) ?_ ?_
 ·exact⟨zLw,rfl⟩
 rintro i ⟨hi,hq⟩
 by_cases hlt:i<(l).length
 rotate_left
 ·have hz:i=(l).length:=oEw
  subst hz
  rw [List.drop_eq_nil_of_le (Nat.le_refl _)] at hq
  try dsimp only at hq
  ((repeat' (first|refine Wz ?_|refine Wb fun hb=>?_|apply Wd <;>intro hh)) <;> first|(exfalso;omega)|(all_goals (refine rEw hM ?_;(try rw [hq]);exact q9S)))
 obtain⟨n,hn⟩:=gex hlt
 obtain⟨pv,hp⟩:=gex (l:=l) (i:=i-1) oEw
 have hpr:=B6 hp
 have hmem:=List.mem_of_getElem? hn
 rw [drp hn] at hq
 try dsimp only at hq
 by_cases hc:3<n.form.length∨1<n.alts.length
 ·have hc2:(!(decide (3<n.form.length)||decide (1<n.alts.length)))=false:=by simp;omega
  rw [List.allB,hc2] at hq
  (repeat' (first|(refine M0 ?_;first|(refine D2 (fun _=>zL Z Z Z) Z Z (fun hh=>?_) (fun hh=>?_) <;>(try (exfalso;omega)))|(refine D2 (fun _=>zO Z Z Z) Z Z (fun hh=>?_) (fun hh=>?_) <;>(try (exfalso;omega))))|refine G_x (A2 (m:=i) Z Z Z Z (gm hn)) Z Z ?_|refine Wz ?_|refine Wb fun hb=>?_))
  all_goals (try exact oMw)
  all_goals (refine rEw hM ?_;rw [hq];simp [one1,dB])
 ·have hc2:(!(decide (3<n.form.length)||decide (1<n.alts.length)))=true:=by simp;omega
  rw [List.allB,hc2] at hq
  (repeat' (first|(refine M0 ?_;first|(refine D2 (fun _=>zL Z Z Z) Z Z (fun hh=>?_) (fun hh=>?_) <;>(try (exfalso;omega)))|(refine D2 (fun _=>zO Z Z Z) Z Z (fun hh=>?_) (fun hh=>?_) <;>(try (exfalso;omega))))|refine G_x (A2 (m:=i) Z Z Z Z (gm hn)) Z Z ?_|refine Wz ?_|refine Wb fun hb=>?_))
  all_goals (try exact oMw)
  refine X_lp (ι:=Nat) 1125898833100820 [] (fun i=>[(4,.d (dI i))]) (fun _=>[]) (fun i=>i≤(n.alts).length∧(fun _ q=>q.allB fun a=>decide (a.length≤3)) 0 (n.alts)=(fun _ q=>q.allB fun a=>decide (a.length≤3)) i ((n.alts).drop i)) (fun i=>(n.alts).length-i) (0) ?_ ?_
  ·exact⟨zLw,rfl⟩
  rintro i2 ⟨hi2,hq2⟩
  by_cases hlt2:i2<(n.alts).length
  rotate_left
  ·have hz2:i2=(n.alts).length:=oEw
   subst hz2
   rw [List.drop_eq_nil_of_le (Nat.le_refl _)] at hq2
   try dsimp only at hq2
   (repeat' (first|refine iDw (gm hn) ?_|refine Wz ?_|refine Wb fun hb=>?_|apply Wd <;>intro hh))
   all_goals (try exact oMw)
   all_goals first
    | exact A0 (i+1) ⟨oEw,by(try dsimp only);rw [hq];exact q9S⟩ oEw
    | (refine rEw hM ?_;(try rw [hq]);exact q9S)
  obtain⟨n2,hn2⟩:=gex hlt2
  obtain⟨pv2,hp2⟩:=gex (l:=n.alts) (i:=i2-1) oEw
  have hpr2:=B6 hp2
  have hmem2:=List.mem_of_getElem? hn2
  rw [drp hn2] at hq2
  try dsimp only at hq2
  have hn2l:(n2.length:Int)=(n2.length:Int):=rfl
  all_goals (repeat' (first|refine iDw (gm hn2) ?_|refine iDw (gm hn) ?_|refine Wz ?_|refine Wb fun hb=>?_|apply Wd <;>intro hh))
  all_goals (try exact oMw)
  all_goals first
   | exact A0 (i2+1) ⟨oEw,by(try dsimp only);rw [hq2];exact q9S⟩ oEw
   | (refine rEw hM ?_;(try rw [hq2]);exact q9S)
def fcn (m:List Bool):Nat:=(m.filter (! ·)).length
theorem C4m:∀ {m:List Bool} {i:Nat},m[i]?=some false→fcn (m.set i true)+1=fcn m
 | [],_,h=>by simp at h
 | b::r,0,h=>by simp at h;subst h;simp [fcn]
 | b::r,i+1,h=>by
  have:=C4m (m:=r) (i:=i) (by simpa using h)
  unfold fcn at this ⊢
  rw [List.set_cons_succ,List.filter_cons,List.filter_cons]
  cases b <;> simp <;> omega
theorem G4f (m:List Bool):fcn m≤m.length:=List.length_filter_le ..
def RI (l:List Entr)(c:Nat)(q:List Bool × List Int):Prop:=q.1.length=l.length∧fcn q.1+q.2.length≤c
theorem ri_L {l:List Entr}{kind:Int}{c:Nat}{q:List Bool × List Int}(h:RI l c q)(x:Lnk):RI l c (rchL l kind q x):=by
 unfold rchL
 split
 ·rename_i hc
  obtain⟨_,_,h3⟩:=hc
  have hg:q.1[(eIx l x.to).toNat]?=some false:=by
   rw [List.getD_eq_getElem?_getD] at h3
   cases hx:q.1[(eIx l x.to).toNat]? with
   | none=>rw [hx] at h3;simp at h3
   | some b=>rw [hx] at h3;simp at h3;rw [h3]
  have:=C4m hg
  have h1:=h.1
  have h2:=h.2
  exact⟨by simp [h1],by simp;omega⟩
 ·exact h
theorem D9e {l:List Entr}{kind:Int}{c:Nat}(xs:List Lnk):∀ {q:List Bool × List Int},RI l c q→RI l c (xs.foldl (rchL l kind) q):=by
 induction xs with
 | nil=>intro q h;exact h
 | cons x r ih=>intro q h;exact ih (ri_L h x)
theorem ri_N {l:List Entr}{kind:Int}{c:Nat}{q:List Bool × List Int}(h:RI l c q)(id:Int):RI l c (rchN l kind q id):=by
 unfold rchN
 split
 ·exact D9e _ h
 ·exact h
theorem D9d {l:List Entr}{kind:Int}{c:Nat}(xs:List Int):∀ {q:List Bool × List Int},RI l c q→RI l c (xs.foldl (rchN l kind) q):=by
 induction xs with
 | nil=>intro q h;exact h
 | cons x r ih=>intro q h;exact ih (ri_N h x)
theorem C4b {l:List Entr}{kind:Int}:∀(n:Nat) {q:List Bool × List Int},q.1.length=l.length→(itr (rchR l kind) n q).1.length=l.length
 | 0,_,h=>h
 | n+1,q,h=>C4b n (by
  have:RI l (fcn q.1+0) (q.2.foldl (rchN l kind) (q.1,[])):=D9d q.2 ⟨h,Nat.le_refl _⟩
  exact this.1)
abbrev mR (m:List Bool):List (List Dt):=m.map fun b=>[dB b]
theorem c162 (l : List Entr)(id kind : Int)(hl : l.length ≤ 1048576) : Fp Tryz.prog 162 [lexD l, dI id, dI kind] (ints (Q2 l id kind)) := by
 unfold Q2
 refine fXw Tryz.func162 Tryz.ntmps162 fun c hM=>?_
 (repeat' (first|refine G_n Z Z (B8e 20 l.length Z Z Z Z Z Z Z (by simp;omega) oEw) Z ?_|refine Wz ?_|refine Wb fun hb=>?_))
 have h0:(List.replicate l.length false,[id]).1.length=l.length:=List.length_replicate
 obtain⟨q0,hq0⟩:∃ q0:List Bool × List Int,q0=(List.replicate l.length false,[id]):=⟨_,rfl⟩
 rw [← hq0] at h0 ⊢
 refine X_lp (ι:=Nat) 2475880078570760549789925120 [20] (fun r=>[(8,.d (ints (itr (rchR l kind) r q0).2)),(9,.d (dI r))]) (fun r=>[(20,.ls 4 1 0 (mR (itr (rchR l kind) r q0).1))]) (fun r=>r≤l.length+1) (fun r=>l.length+1-r) (0) ?_ ?_ (hf:=A6 (by rw [hq0];rfl) (A6 Z (B8 _))) (hh:=A1 (by rw [hq0];show some _=some _;simp [itr,dB]) (A4 _))
 ·exact zLw
 rintro r hr
 have hml:=C4b (kind:=kind) r h0
 by_cases hlt:r≤l.length
 ·have hst:=A4i (rchR l kind) r q0
  obtain⟨⟨met,nx⟩,hs⟩:∃ s,s=itr (rchR l kind) r q0:=⟨_,rfl⟩
  rw [← hs] at hml hst ⊢
  dsimp only at hml ⊢
  rw [show rchR l kind (met,nx)=nx.foldl (rchN l kind) (met,[]) from rfl] at hst
  (repeat' ((fail_if_success (refine H7 (x:=(Code.region 7 _ _)) ?_));first|refine Wz ?_|refine Wb fun hb=>?_|refine Wd (fun hh=>?_) fun hh=>?_))
  all_goals (try exact oMw)
  refine D0 10 10 3 1 Z Z ?_
  (repeat' (first|refine Wz ?_|fail))
  have hri0:RI l (fcn met) (met,[]):=⟨hml,Nat.le_refl _⟩
  have hfl:=G4f met
  refine X_lp (ι:=Nat × Nat) 1237940039285380274362317824 [20] (fun y=>[(10,.o 10 y.2),(11,.d (dI y.1))]) (fun y=>[(20,.ls 4 1 0 (mR ((nx.take y.1).foldl (rchN l kind) (met,[])).1)),(10,.ls 3 1 y.2 (((nx.take y.1).foldl (rchN l kind) (met,[])).2.map iC))]) (fun y=>y.1≤nx.length) (fun y=>nx.length-y.1) ((0,0)) ?_ ?_
  ·exact zLw
  rintro⟨k,v⟩ hk
  dsimp only at hk
  have hrik:=D9d (kind:=kind) (nx.take k) hri0
  by_cases hltk:k<nx.length
  ·obtain⟨n,hn⟩:=gex hltk
   have ht:=J0 (f:=rchN l kind) (b:=(met,[])) hn
   obtain⟨q,hq⟩:∃ q,q=(nx.take k).foldl (rchN l kind) (met,[]):=⟨_,rfl⟩
   rw [← hq] at hrik ht ⊢
   have c1:=n159 l n
   rcases eix l n with⟨e1,e2⟩|⟨p,e,e1,e2,e3⟩
   ·rw [e1] at c1
    rw [show rchN l kind q n=q by unfold rchN;rw [e2]] at ht
    (repeat' (first|refine iDw (gm hn) ?_|refine cDw B3s c1 ?_|refine Wz ?_|refine Wb fun hb=>?_|apply Wd <;>intro hh))
    all_goals (try exact oMw)
    refine X_lp (ι:=Unit) 1237940039285378075875927040 [20] (fun _=>[(10,.o 10 v),(13,.d (dI 0))]) (fun _=>[(20,.ls 4 1 0 (mR q.1)),(10,.ls 3 1 v (q.2.map iC))]) (fun _=>True) (fun _=>0) (()) ?_ ?_
    ·trivial
    rintro - -
    (repeat' (first|(refine M0 ?_;first|(refine D2 (fun _=>zP Z Z Z) Z Z (fun hh=>?_) (fun hh=>?_) <;>(try (exfalso;omega))))|refine Wz ?_|fail))
    all_goals (try exact oMw)
    exact A0 (k+1,v) (oDw) (oDw) (hh:=by dsimp only;rw [ht];exact A1 Z (A1 Z (A4 _)))
   ·rw [e1] at c1
    rw [show rchN l kind q n=e.links.foldl (rchL l kind) q by unfold rchN;rw [e3]] at ht
    (repeat' (first|refine iDw (gm hn) ?_|refine cDw B3s c1 ?_|refine Wz ?_|refine Wb fun hb=>?_|apply Wd <;>intro hh))
    all_goals (try exact oMw)
    refine X_lp (ι:=Nat × Nat) 1237940039285378075875927040 [20] (fun y=>[(10,.o 10 y.2),(13,.d (dI y.1))]) (fun y=>[(20,.ls 4 1 0 (mR ((e.links.take y.1).foldl (rchL l kind) q).1)),(10,.ls 3 1 y.2 (((e.links.take y.1).foldl (rchL l kind) q).2.map iC))]) (fun y=>y.1≤e.links.length) (fun y=>e.links.length-y.1) ((0,v)) ?_ ?_
    ·exact zLw
    rintro⟨j,v2⟩ hj
    dsimp only at hj
    have hrij:=D9e (kind:=kind) (e.links.take j) hrik
    by_cases hltj:j<e.links.length
    ·obtain⟨x,hx⟩:=gex hltj
     have htj:=J0 (f:=rchL l kind) (b:=q) hx
     obtain⟨⟨m2,o2⟩,hq2⟩:∃ z,z=(e.links.take j).foldl (rchL l kind) q:=⟨_,rfl⟩
     rw [← hq2] at hrij htj ⊢
     rw [show rchL l kind (m2,o2) x=(if x.kind=kind∧0≤eIx l x.to∧m2.getD (eIx l x.to).toNat true=false then (m2.set (eIx l x.to).toNat true,o2++[x.to]) else (m2,o2)) from rfl] at htj
     have c2:=n159 l x.to
     have hm2:=hrij.1
     have ho2:=hrij.2
     dsimp only at hm2 ho2
     rcases eix l x.to with⟨f1,f2⟩|⟨u,g,f1,f2,f3⟩
     ·rw [f1] at c2 htj
      rw [if_neg oEw] at htj
      (repeat' (first|(refine M0 ?_;first|(refine D2 (fun _=>zL Z Z Z) Z Z (fun hh=>?_) (fun hh=>?_) <;>(try (exfalso;omega)))|(refine D2 (fun _=>zM Z Z Z) Z Z (fun hh=>?_) (fun hh=>?_) <;>(try (exfalso;omega)))|(refine D2 (fun _=>zP Z Z Z) Z Z (fun hh=>?_) (fun hh=>?_) <;>(try (exfalso;omega))))|refine G_x (A2 (m:=p) Z Z Z Z (gm e2)) Z Z ?_|refine G_x (A2 (m:=j) Z Z Z Z (gm hx)) Z Z ?_|refine G_x (A3 Z Z Z B3s (c2)) Z Z ?_|refine Wz ?_|refine Wb fun hb=>?_))
      all_goals (try exact oMw)
      all_goals exact A0 (j+1,v2) (oDw) (oDw) (hh:=by dsimp only;rw [htj];exact A1 Z (A1 Z (A4 _)))
     ·rw [f1] at c2 htj
      obtain⟨mb,hmb⟩:=gex (l:=m2) (i:=u) (by have:=(List.getElem?_eq_some_iff.1 f2).1;omega)
      have hmr:(mR m2)[u]?=some [dB mb]:=gm hmb
      rw [show m2.getD ((u:Int)).toNat true=mb by rw [Int.toNat_natCast,List.getD_eq_getElem?_getD,hmb];rfl,Int.toNat_natCast] at htj
      (repeat' (first|(refine M0 ?_;first|(refine D2 (fun _=>zL Z Z Z) Z Z (fun hh=>?_) (fun hh=>?_) <;>(try (exfalso;omega)))|(refine D2 (fun _=>zM Z Z Z) Z Z (fun hh=>?_) (fun hh=>?_) <;>(try (exfalso;omega)))|(refine D2 (fun _=>zP Z Z Z) Z Z (fun hh=>?_) (fun hh=>?_) <;>(try (exfalso;omega))))|refine G_x (A2 (m:=p) Z Z Z Z (gm e2)) Z Z ?_|refine G_x (A2 (m:=j) Z Z Z Z (gm hx)) Z Z ?_|refine G_x (A3 Z Z Z B3s (c2)) Z Z ?_|refine G_x (A8 (m:=u) Z Z Z Z Z (by rw [List.length_map];exact(List.getElem?_eq_some_iff.1 hmb).1)) Z Z ?_|refine G_x (M6 (m:=u) (j:=0) Z Z Z Z Z hmr rfl) Z Z ?_|refine G_s (M1 (m:=u) (j:=0) Z Z Z Z Z Z Z hmr oEw) Z Z Z ?_|refine Wz ?_|refine Wb fun hb=>?_|(refine Wc (fun hg=>?_) (fun hg=>?_) <;>(first|subst hg|(simp at hg;subst hg)|skip))))
      all_goals (try exact oMw)
      ·rw [if_pos ⟨by assumption,oEw,rfl⟩] at htj
       exact A0 (j+1,v2+1) (oDw) (oDw) (hh:=by dsimp only;rw [htj];exact A1 (by show some _=some _;simp [mR,List.map_set,dB]) (A1 (by show some _=some _;simp [iC,dI]) (A4 _)))
      all_goals (
       rw [if_neg (by rintro⟨h1,h2,h3⟩;first|omega|(simp at h3;done)|contradiction)] at htj
       exact A0 (j+1,v2) (oDw) (oDw) (hh:=by dsimp only;rw [htj];exact A1 Z (A1 Z (A4 _))))
    ·have hzj:j=e.links.length:=oEw
     subst hzj
     rw [List.take_length,← ht]
     (repeat' (first|(refine M0 ?_;first|(refine D2 (fun _=>zL Z Z Z) Z Z (fun hh=>?_) (fun hh=>?_) <;>(try (exfalso;omega)))|(refine D2 (fun _=>zP Z Z Z) Z Z (fun hh=>?_) (fun hh=>?_) <;>(try (exfalso;omega))))|refine G_x (A2 (m:=p) Z Z Z Z (gm e2)) Z Z ?_|refine Wz ?_|refine Wb fun hb=>?_))
     all_goals (try exact oMw)
     exact A0 (k+1,v2) (oDw) (oDw)
  ·have hz:k=nx.length:=oEw
   subst hz
   rw [List.take_length] at hrik ⊢
   (repeat' (first|refine Wz ?_|refine Wb fun hb=>?_|apply Wd <;>intro hh))
   all_goals (try exact oMw)
   rw [← hst] at hrik ⊢
   have hr2:=hrik.2
   refine B9 8 Z Z lOw ?_
   exact A0 (r+1) oEw oEw
 ·have hz:r=l.length+1:=oEw
  subst hz
  (repeat' (first|refine Wz ?_|refine Wb fun hb=>?_|apply Wd <;>intro hh))
  all_goals (try exact oMw)
  obtain⟨met,hs⟩:∃ met,met=(itr (rchR l kind) (l.length+1) q0).1:=⟨_,rfl⟩
  rw [← hs] at hml ⊢
  refine D0 16 16 3 1 Z Z ?_
  refine X_lp (ι:=Nat × Nat) 649034631436774882805762243100672 [] (fun y=>[(16,.o 16 y.2),(17,.d (dI y.1))]) (fun y=>[(16,.ls 3 1 y.2 ((((l.zip met).take y.1).filterMap fun p=>if p.2 then some p.1.id else none).map iC))]) (fun y=>y.1≤l.length) (fun y=>l.length-y.1) ((0,0)) ?_ ?_
  ·exact zLw
  rintro⟨i,v⟩ hi
  dsimp only at hi
  have hfl:(((l.zip met).take i).filterMap fun p=>if p.2 then some p.1.id else none).length≤l.length:=by
   have h1:=List.length_filterMap_le (fun p:Entr × Bool=>if p.2 then some p.1.id else none) ((l.zip met).take i)
   rw [List.length_take,List.length_zip] at h1
   omega
  by_cases hlti:i<l.length
  ·obtain⟨n,hn⟩:=gex hlti
   obtain⟨mb,hmb⟩:=gex (l:=met) (i:=i) oEw
   have hmr:(mR met)[i]?=some [dB mb]:=gm hmb
   have hzn:(l.zip met)[i]?=some (n,mb):=by rw [List.getElem?_zip_eq_some];exact⟨hn,hmb⟩
   have ht:((l.zip met).take (i+1)).filterMap (fun p=>if p.2 then some p.1.id else none)=((l.zip met).take i).filterMap (fun p=>if p.2 then some p.1.id else none)++(if mb then [n.id] else []):=by
    rw [List.take_succ,hzn,Option.toList_some,List.filterMap_append]
    cases mb <;> simp
   (repeat' (first|(refine M0 ?_;first|(refine D2 (fun _=>zL Z Z Z) Z Z (fun hh=>?_) (fun hh=>?_) <;>(try (exfalso;omega))))|refine G_x (A8 (m:=i) Z Z Z Z Z (by rw [List.length_map];omega)) Z Z ?_|refine G_x (M6 (m:=i) (j:=0) Z Z Z Z Z hmr rfl) Z Z ?_|refine G_x (A2 (m:=i) Z Z Z Z (gm hn)) Z Z ?_|refine Wz ?_|refine Wb fun hb=>?_|(refine Wc (fun hg=>?_) (fun hg=>?_) <;>(first|subst hg|(simp at hg;subst hg)|skip))))
   all_goals (try exact oMw)
   ·exact A0 (i+1,v+1) (oDw) (oDw) (hh:=by dsimp only;rw [ht];exact A1 (by show some _=some _;simp [iC,dI]) (A4 _))
   ·exact A0 (i+1,v) (oDw) (oDw) (hh:=by dsimp only;rw [ht];exact A1 (by show some _=some _;simp) (A4 _))
  ·have hz:i=l.length:=oEw
   subst hz
   rw [List.take_of_length_le (by rw [List.length_zip];omega)] at hfl ⊢
   (repeat' (first|refine Wz ?_|refine Wb fun hb=>?_|apply Wd <;>intro hh))
   all_goals (try exact oMw)
   refine B9 6 Z Z lOw ?_
   exact rXw hM
end
end Go.Proofs.YtojadfppncgphaaGreatDoor