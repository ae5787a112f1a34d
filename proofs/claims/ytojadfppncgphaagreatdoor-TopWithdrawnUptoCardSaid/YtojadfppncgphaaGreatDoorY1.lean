/- Own text. -/
import Derived.Test.YtojadfppncgphaaGreatDoorY0
set_option linter.all false
set_option maxHeartbeats 16000000
set_option maxRecDepth 8000
namespace Go.Proofs.YtojadfppncgphaaGreatDoor
section
open Go.RowKit Go.En Go.Dl Go.Tp
theorem B0s:∀(l acc:List Int),(l.foldl putI acc).length≤acc.length+l.length
 | [],_=>Nat.le_refl _
 | x::r,acc=>by
  have:=B0s r (putI acc x)
  have:=A7k acc x
  rw [List.foldl_cons,List.length_cons];omega
theorem B5r (l:List Int):(srtR l).length≤l.length:=by
 have:=B0s l []
 simpa [srtR] using this
theorem B1w (l:List Grp) (met:List Int):N1 l met≤l.length:=List.length_filter_le _ _
theorem D1c (l:List Grp) (id:Int):(belP l id).length≤l.length:=by
 have h1:=B5r (visG l l.length [] id)
 have h2:=B2v l l.length [] id
 have h3:=B1w l []
 unfold belP
 simp at h2
 omega
attribute [local irreducible] X XL XW XG XK Val LS Fp Fo Calls bodyPost Code.wp
theorem c314 (l:List Grp) (id:Int) (hl:l.length≤1000):Fp Tryz.prog 314 [.s 4 (l.map grpC),dI id] (ints (belP l id)):=by
 unfold belP
 have h3:=B1w l []
 have hv:=B2v l l.length [] id
 have cv:=c333 l l.length [] id h3 (by simp;omega)
 obtain⟨m,hm⟩:∃ m,visG l l.length [] id=m:=⟨_,rfl⟩
 rw [hm] at cv hv ⊢
 simp at hv
 have cs:=c241 m (by omega)
 refine fXw Tryz.func314 Tryz.ntmps314 fun c hM=>?_
 (repeat' ((fail_if_success (refine J1 (x:=(Code.region 4 _ _)) ?_));first|refine Wz ?_|fail))
 refine A1m 5 0 900 3 1 rfl rfl rfl rfl rfl ?_
 (repeat' (first|refine G_c (J9 [(1000,2),(1001,5),(1002,6),(1003,900)] (cv) rfl rfl rfl rfl rfl tRw D7p) rfl rfl rfl ?_|(refine K5 11 rfl rfl (by rw [List.length_map];omega) ?_)|refine cDw D0c cs ?_|refine Wz ?_|fail))
 all_goals (try exact oMw)
 exact rXw hM
def pplG (l:List Grp) (x:Int):List Int:=match grpF l x with|some g=>g.people|none=>[]
theorem c288 (l:List Grp) (id:Int) (hl:l.length≤20) (hp:∀ g∈l,g.people.length≤1000):Fp Tryz.prog 288 [.s 4 (l.map grpC),dI id] (ints (memP l id)):=by
 have e:memP l id=srtR ((id::belP l id).flatMap (pplG l)):=rfl
 rw [e]
 have hb:=D1c l id
 have cb:=c314 l id (by omega)
 obtain⟨B,hB⟩:∃ B,belP l id=B:=⟨_,rfl⟩
 rw [hB] at cb hb ⊢
 obtain⟨L,hL⟩:∃ L,id::B=L:=⟨_,rfl⟩
 have hLl:L.length≤21:=by rw [← hL,List.length_cons];omega
 have hrows:[[Dt.v (int id)]]++B.map iC=L.map iC:=by rw [← hL];rfl
 refine fXw Tryz.func288 Tryz.ntmps288 fun c hM=>?_
 (repeat' (first|refine G_nd rfl rfl (N4 _ rfl rfl rfl rfl rfl) rfl ?_|refine cDw G4v cb ?_|refine Wz ?_|fail))
 rw [hL]
 refine B4q 15 rfl rfl lOw ?_
 rw [hrows,List.length_map]
 refine D5 5 5 3 1 rfl rfl ?_
 refine X_lp (ι:=Nat × List Int) 4294837152 [5] (fun s=>[(5,.o 5 s.1),(17,.d (dI s.1))]) (fun s=>[(5,.ls 3 1 s.1 (s.2.map iC))]) (fun s=>s.1≤L.length∧s.2.length≤1000*s.1∧s.2++(L.drop s.1).flatMap (pplG l)=L.flatMap (pplG l)) (fun s=>L.length-s.1) ((0,[])) ?_ ?_
 ·exact⟨Nat.zero_le _,Nat.le_refl _,rfl⟩
 rintro⟨i,out⟩ ⟨hi,hol,hout⟩
 dsimp only at hi hol hout ⊢
 by_cases hlt:i<L.length
 rotate_left
 ·rw [List.drop_eq_nil_of_le (by omega),List.flatMap_nil,List.append_nil] at hout
  have cs:=c241 out (by omega)
  rw [hout] at cs
  (repeat' (first|(refine K5 32 rfl rfl (by rw [List.length_map];omega) ?_)|refine G_x (A1 rfl rfl rfl D0c cs (.t1 (.eq (congrArg (fun q:List Int=>ints q) hout)) .t0)) rfl rfl ?_|refine Wz ?_|refine Wd (fun hh=>?_) fun hh=>?_))
  all_goals (try exact oMw)
  exact rXw hM
 obtain⟨x,hx⟩:=gex hlt
 rw [drp hx,List.flatMap_cons,← List.append_assoc] at hout
 have cg:=c315 l x
 obtain⟨o,ho⟩:∃ o,grpF l x=o:=⟨_,rfl⟩
 obtain⟨g,hg⟩:∃ g,o.getD grp0=g:=⟨_,rfl⟩
 have hsome:fRes grpC grp0 o=.t [.g (grpC g),dB o.isSome]:=by rw [← hg];cases o <;> rfl
 have hpl:pplG l x=g.people:=by unfold pplG;rw [ho,← hg];cases o <;> rfl
 have hgl:g.people.length≤1000:=by
  rw [← hg]
  cases o with
  | none=>exact Nat.zero_le _
  | some g'=>exact hp g' (List.mem_of_find?_eq_some ho)
 rw [ho,hsome] at cg
 rw [hpl] at hout
 (repeat' (first|refine iDw (gm hx) ?_|refine cDw B7c cg ?_|refine Wz ?_|refine Wd (fun hh=>?_) fun hh=>?_))
 all_goals (try exact oMw)
 exact A0 (i+1,out++g.people) ⟨by dsimp only;omega,by dsimp only;rw [List.length_append];omega,hout⟩ (by dsimp only;omega) (hh:=A3 (by rw [List.map_append];rfl) (A4 _))
theorem c255 (l:List Grp) (id p:Int) (hl:l.length≤20) (hp:∀ g∈l,g.people.length≤1000):Fp Tryz.prog 255 [.s 4 (l.map grpC),dI id,dI p] (dB (inP l id p)):=by
 unfold inP
 have c1:=c288 l id hl hp
 obtain⟨M,hM'⟩:∃ M,memP l id=M:=⟨_,rfl⟩
 rw [hM'] at c1 ⊢
 refine fXw Tryz.func255 Tryz.ntmps255 fun c hM=>?_
 (repeat' (first|refine cDw G5f c1 ?_|refine cDw A8o (c190 M p) ?_|refine Wz ?_|fail))
 exact rXw hM
theorem q39S {p:Prop} (h:p:=by first|(simp [one1, *,dB,dI,dS,List.anyB,List.allB];done)|(simp_all [one1,dB,dI,dS,List.anyB,List.allB];done)|(simp_all [one1,dB,dI,dS,List.anyB,List.allB];omega)):p:=h
theorem c211 (ps:List Pers) (l:List Grp) (p:Prot) (v:Vwr) (hl:l.length≤20) (hgp:∀ g∈l,g.people.length≤1000):Fp Tryz.prog 211 [.s 3 (ps.map L2),.s 4 (l.map grpC),.g (C0y p),.g (vwrC v)] (dB (mayP ps l p v)):=by
 unfold mayP
 have hmb:mbrB ps v.person=match perF ps v.person with|some q=>q.member|none=>false:=rfl
 rw [hmb,← T3]
 obtain⟨e,he⟩:∃ b,perF ps v.person=b:=⟨_,rfl⟩;have ce:=c204 ps v.person;rw [he] at ce;cases e
 all_goals rw [he]
 all_goals (
  by_cases h1:v.day<p.til
  ·rw [if_pos h1]
   refine fXw Tryz.func211 Tryz.ntmps211 fun c hM=>?_
   (repeat' (first|refine Wz ?_|refine Wb fun hb=>?_|refine Wd (fun hh=>?_) fun hh=>?_))
   all_goals (try exact oMw)
   exact rXw hM
  rw [if_neg h1]
  by_cases h2:p.level=2
  rotate_left
  ·rw [if_neg h2]
   refine fXw Tryz.func211 Tryz.ntmps211 fun c hM=>?_
   (repeat' (first|refine cDw D8j ce ?_|refine Wz ?_|refine Wb fun hb=>?_|refine Wd (fun hh=>?_) fun hh=>?_))
   all_goals (try exact oMw)
   all_goals (first|(refine rEw hM ?_;simp [*,one1,dB];done))
  rw [if_pos h2]
  refine fXw Tryz.func211 Tryz.ntmps211 fun c hM=>?_
  (repeat' (first|refine Wz ?_|refine Wb fun hb=>?_|refine Wd (fun hh=>?_) fun hh=>?_))
  all_goals (try exact oMw)
  refine X_lp (ι:=Nat) 549218944256 [] (fun i=>[(29,.d (dI i))]) (fun _=>[]) (fun i=>i≤(p.groups).length∧(fun _ q=>dB (q.anyB fun id=>inP l id v.person)) 0 (p.groups)=(fun _ q=>dB (q.anyB fun id=>inP l id v.person)) i ((p.groups).drop i)) (fun i=>(p.groups).length-i) (0) ?_ ?_
  ·exact⟨Nat.zero_le _,rfl⟩
  rintro i ⟨hi,hq⟩
  by_cases hlt:i<(p.groups).length
  rotate_left
  ·have hz:i=(p.groups).length:=by omega
   subst hz
   rw [List.drop_eq_nil_of_le (Nat.le_refl _)] at hq
   try dsimp only at hq
   ((repeat' (first|refine Wz ?_|refine Wd (fun hh=>?_) fun hh=>?_));all_goals (first|(exfalso;omega)|(refine rEw hM ?_;rw [hq];rfl)))
  obtain⟨n,hn⟩:=gex hlt
  obtain⟨pv,hp⟩:=gex (l:=p.groups) (i:=i-1) (by omega)
  have hpr:=B7 hp
  have hmem:=List.mem_of_getElem? hn
  rw [drp hn] at hq
  try dsimp only at hq
  obtain⟨b,hb⟩:∃ b,inP l n v.person=b:=⟨_,rfl⟩;have cb:=c255 l n v.person hl hgp;rw [hb] at cb;rw [List.anyB,hb] at hq;cases b
  all_goals (repeat' (first|refine iDw (gm hn) ?_|refine cDw G5u cb ?_|refine Wz ?_|refine Wd (fun hh=>?_) fun hh=>?_))
  all_goals (try exact oMw)
  all_goals first
   | exact A0 (i+1) ⟨by omega,by(try dsimp only);rw [hq];exact q39S⟩ (by omega)
   | (refine rEw hM ?_;(try rw [hq]);exact q39S))
end
section
open Go.RowKit Go.En Go.Dl Go.Tp
attribute [local irreducible] X XL XW XG XK Val LS Fp Fo Calls bodyPost Code.wp
structure RgS (a:Rgts):Prop where
 grps:a.groups.length≤20
 ppl:∀ g∈a.groups,g.people.length≤1000
 cons:a.consents.length≤1000
 ruls:a.rules.length≤11
theorem c140 (a:Rgts) (p:Prot) (v:Vwr) (ha:RgS a):Fp Tryz.prog 140 [.g (Z2 a),.g (C0y p),.g (vwrC v)] (dB (mayP a.people a.groups p v)):=by
 have c1:=c211 a.people a.groups p v ha.grps ha.ppl
 refine fXw Tryz.func140 Tryz.ntmps140 fun c hM=>?_
 (repeat' (first|refine cDw G6v c1 ?_|refine Wz ?_|fail))
 exact rXw hM
theorem q40S {p:Prop} (h:p:=by first|(simp [one1, *,dB,dI,dS,List.anyB,List.allB,fstE];done)|(simp_all [one1,dB,dI,dS,List.anyB,List.allB,fstE];done)|(simp_all [one1,dB,dI,dS,List.anyB,List.allB,fstE];omega)):p:=h
theorem c55 (a:Rgts) (r:Rc) (v:Vwr) (ha:RgS a):Fp Tryz.prog 55 [.g (Z2 a++rcC r++vwrC v)] (dI (B2j a r v)):=by
 unfold B2j
 obtain⟨b,hb⟩:∃ b,mbrB a.people v.person=b:=⟨_,rfl⟩;have cb:=c136 a v.person;rw [hb] at cb
 rw [hb]
 refine fXw Tryz.func55 Tryz.ntmps55 fun c hM=>?_
 (repeat' (first|refine Wz ?_|refine Wb fun hb=>?_))
 refine X_lp (ι:=Nat) 1099511626804 [] (fun i=>[(10,.d (dI i))]) (fun _=>[]) (fun i=>i≤(r.sp).length∧(fun i q=>dI (fstE (fun _ s=>if atR s r.id v.day a.consents=0 then 26 else if atR s r.id v.day a.consents=1∧b=false then 25 else 0) i q)) 0 (r.sp)=(fun i q=>dI (fstE (fun _ s=>if atR s r.id v.day a.consents=0 then 26 else if atR s r.id v.day a.consents=1∧b=false then 25 else 0) i q)) i ((r.sp).drop i)) (fun i=>(r.sp).length-i) (0) ?_ ?_
 ·exact⟨Nat.zero_le _,rfl⟩
 rintro i ⟨hi,hq⟩
 by_cases hlt:i<(r.sp).length
 rotate_left
 ·have hz:i=(r.sp).length:=by omega
  subst hz
  rw [List.drop_eq_nil_of_le (Nat.le_refl _)] at hq
  try dsimp only at hq
  ((repeat' (first|refine Wz ?_|refine Wd (fun hh=>?_) fun hh=>?_));all_goals (first|(exfalso;omega)|(refine rEw hM ?_;rw [hq];rfl)))
 obtain⟨n,hn⟩:=gex hlt
 obtain⟨pv,hp⟩:=gex (l:=r.sp) (i:=i-1) (by omega)
 have hpr:=B7 hp
 have hmem:=List.mem_of_getElem? hn
 rw [drp hn] at hq
 try dsimp only at hq
 have ca:=c135 a.consents n r.id v.day ha.cons;obtain⟨z,hz⟩:∃ z,atR n r.id v.day a.consents=z:=⟨_,rfl⟩;rw [fstE,hz] at hq;rw [hz] at ca;cases b
 all_goals (repeat' (first|refine iDw (gm hn) ?_|refine cDw G8f ca ?_|refine cDw G8e cb ?_|refine Wz ?_|refine Wd (fun hh=>?_) fun hh=>?_))
 all_goals (try exact oMw)
 all_goals first
  | exact A0 (i+1) ⟨by omega,by(try dsimp only);rw [hq];exact q40S⟩ (by omega)
  | (refine rEw hM ?_;(try rw [hq]);exact q40S)
theorem c58 (a:Rgts) (r:Rc) (v:Vwr) (ha:RgS a):Fp Tryz.prog 58 [.g (Z2 a++rcC r++vwrC v)] (spnD (H5 a r v)):=by
 have cb:=c55 a r v ha
 unfold H5
 by_cases hb:B2j a r v≠0
 ·rw [if_pos hb]
  refine fXw Tryz.func58 Tryz.ntmps58 fun c hM=>?_
  (repeat' (first|refine cDw en55 cb ?_|refine Wz ?_|refine Wb fun hb=>?_|refine Wd (fun hh=>?_) fun hh=>?_))
  all_goals (try exact oMw)
  exact rXw hM
 rw [if_neg hb]
 obtain⟨P,hP⟩:∃ P:Rul→Bool,P=fun x=>decide (x.rcd=r.id)&&!mayP a.people a.groups x.prot v:=⟨_,rfl⟩
 obtain⟨Zq,hZ⟩:∃ Zq:Rul→Bool,Zq=fun x=>decide (x.span.frm=0)&&decide (x.span.til=0):=⟨_,rfl⟩
 have hr:ruls a r v=a.rules.filter P:=by rw [hP];rfl
 rw [hr,← hZ]
 have hfl:=List.length_filter_le P a.rules
 have hrl:=ha.ruls
 refine fXw Tryz.func58 Tryz.ntmps58 fun c hM=>?_
 (repeat' (first|refine cDw en55 cb ?_|refine Wz ?_|refine Wb fun hb=>?_|refine Wd (fun hh=>?_) fun hh=>?_))
 all_goals (try exact oMw)
 refine D5 4 4 82 2 rfl rfl ?_
 refine X_lp (ι:=Nat × Nat) 562949952372820 [4] (fun s=>[(4,.o 4 s.2),(20,.d (dI s.1))]) (fun s=>[(4,.ls 82 2 s.2 ((((a.rules.take s.1).filter P).map (·.span)).map spnC))]) (fun s=>s.1≤a.rules.length∧((a.rules.take s.1).filter P).any Zq=false) (fun s=>a.rules.length-s.1) ((0,0)) ?_ ?_
 ·exact⟨Nat.zero_le _,rfl⟩
 rintro⟨i,w⟩ ⟨hi,hz⟩
 dsimp only at hi hz ⊢
 by_cases hlt:i<a.rules.length
 rotate_left
 ·rw [show a.rules.take i=a.rules from List.take_of_length_le (by omega)] at hz ⊢
  rw [hz,if_neg (by simp)]
  have cm:=c141 [⟨0,r.len⟩] ((a.rules.filter P).map (·.span)) (by simp) (by rw [List.length_map];omega)
  (repeat' (first|(refine K5 50 rfl rfl (by simp only [List.length_map];omega) ?_)|refine cDw G8c cm ?_|refine Wz ?_|refine Wd (fun hh=>?_) fun hh=>?_))
  all_goals (try exact oMw)
  exact rXw hM
 obtain⟨x,hx⟩:=gex hlt
 have hPx:P x=(decide (x.rcd=r.id)&&!mayP a.people a.groups x.prot v):=by rw [hP]
 have hZx:Zq x=(decide (x.span.frm=0)&&decide (x.span.til=0)):=by rw [hZ]
 have hmem:x∈a.rules:=List.mem_of_getElem? hx
 obtain⟨b,hbm⟩:∃ b,mayP a.people a.groups x.prot v=b:=⟨_,rfl⟩
 have cm:=c140 a x.prot v ha
 rw [hbm] at hPx cm
 obtain⟨z,hzz⟩:∃ z,(decide (x.span.frm=0)&&decide (x.span.til=0))=z:=⟨_,rfl⟩
 rw [hzz] at hZx
 by_cases hid:x.rcd=r.id
 rotate_left
 ·have hPf:P x=false:=by rw [hPx,decide_eq_false hid];rfl
  (repeat' (first|refine iDw (gm hx) ?_|refine Wz ?_|refine Wd (fun hh=>?_) fun hh=>?_))
  all_goals (try exact oMw)
  exact A0 (i+1,w) ⟨by dsimp only;omega,by dsimp only;rw [G3 hx hPf];exact hz⟩ (by dsimp only;omega) (hh:=A3 (by dsimp only;rw [G3 hx hPf];rfl) (A4 _))
 rw [decide_eq_true hid] at hPx
 cases b with
 | true=>
  (repeat' (first|refine iDw (gm hx) ?_|refine cDw D0o cm ?_|refine Wz ?_|refine Wd (fun hh=>?_) fun hh=>?_))
  all_goals (try exact oMw)
  all_goals (first|exact absurd hid (by assumption)|exact A0 (i+1,w) ⟨by dsimp only;omega,by dsimp only;rw [G3 hx hPx];exact hz⟩ (by dsimp only;omega) (hh:=A3 (by dsimp only;rw [G3 hx hPx];rfl) (A4 _)))
 | false=>
  cases z with
  | true=>
   have hin:(a.rules.filter P).any Zq=true:=List.any_eq_true.2 ⟨x,List.mem_filter.2 ⟨hmem,hPx⟩,hZx⟩
   rw [hin,if_pos rfl]
   (repeat' (first|refine iDw (gm hx) ?_|refine cDw D0o cm ?_|refine G_x (A3k C0j rfl rfl rfl hzz) rfl rfl ?_|refine Wz ?_|refine Wd (fun hh=>?_) fun hh=>?_))
   all_goals (try exact oMw)
   all_goals (first|exact absurd hid (by assumption)|exact rXw hM)
  | false=>
   have hst:((a.rules.take (i+1)).filter P).any Zq=false:=by rw [G1 hx hPx,List.any_append,hz];simp [hZx]
   have hrow:(((a.rules.take (i+1)).filter P).map (·.span)).map spnC=(((a.rules.take i).filter P).map (·.span)).map spnC++[spnC x.span]:=by rw [G1 hx hPx];simp
   have hle:((a.rules.take i).filter P).length≤11:=Nat.le_trans (List.length_filter_le _ _) (by rw [List.length_take];omega)
   (repeat' (first|refine iDw (gm hx) ?_|refine cDw D0o cm ?_|refine G_x (A3k C0j rfl rfl rfl hzz) rfl rfl ?_|refine Wz ?_|refine Wd (fun hh=>?_) fun hh=>?_))
   all_goals (try exact oMw)
   all_goals (first|exact absurd hid (by assumption)|exact A0 (i+1,w+1) ⟨by dsimp only;omega,hst⟩ (by dsimp only;omega) (hh:=A3 (by dsimp only;rw [hrow];rfl) (A4 _)))
theorem c111 (a:Rgts) (r:Rc) (v:Vwr) (ha:RgS a):Fp Tryz.prog 111 [.g (Z2 a),.g (rcC r),.g (vwrC v)] (spnD (H5 a r v)):=by
 have c1:=c58 a r v ha
 refine fXw Tryz.func111 Tryz.ntmps111 fun c hM=>?_
 (repeat' (first|refine cDw en58 c1 ?_|refine Wz ?_|fail))
 exact rXw hM
end
section
open Go.RowKit Go.En Go.Dl Go.Tp
theorem A2m:∀(n:Nat) (a b:List Spn),(S4 n a b).length≤a.length+b.length-1∧(a=[]∨b=[]→S4 n a b=[])
 | 0,a,b=>⟨Nat.zero_le _,fun _=>rfl⟩
 | n+1,[],b=>⟨by rw [A2l];exact Nat.zero_le _,fun _=>A2l _ _⟩
 | n+1,x::a,[]=>⟨by rw [A0p];exact Nat.zero_le _,fun _=>A0p _ _⟩
 | n + 1, x :: a, y :: b => by
  refine⟨?_,fun h=>by rcases h with h|h <;> cases h⟩
  rw [S4,List.length_append]
  have hs:(if max x.frm y.frm<min x.til y.til then [(⟨max x.frm y.frm,min x.til y.til⟩:Spn)] else []).length≤1:=by split <;> simp
  by_cases h2:x.til<y.til
  ·rw [if_pos h2]
   have h1:=A2m n a (y::b)
   cases a with
   | nil=>have h0:=h1.2 (.inl rfl);rw [h0];simp only [List.length_cons,List.length_nil] at hs ⊢;omega
   | cons z r=>simp only [List.length_cons] at h1 ⊢;omega
  ·rw [if_neg h2]
   have h1:=A2m n (x::a) b
   cases b with
   | nil=>have h0:=h1.2 (.inr rfl);rw [h0];simp only [List.length_cons,List.length_nil] at hs ⊢;omega
   | cons z r=>simp only [List.length_cons] at h1 ⊢;omega
theorem A7a {a:Rgts} (ha:RgS a) (r:Rc) (v:Vwr):(H5 a r v).length≤12:=by
 unfold H5
 split
 ·exact Nat.zero_le _
 ·split
  ·exact Nat.zero_le _
  ·have h1:=V5 ((ruls a r v).map (·.span))
   have h2:(ruls a r v).length≤a.rules.length:=List.length_filter_le _ _
   have h3:=ha.ruls
   rw [List.length_map] at h1
   unfold B3w C2x
   have h4:=V5 [(⟨0,r.len⟩:Spn)]
   have h5:=V5 (X2 0 (uniP ((ruls a r v).map (·.span))))
   rw [A4n] at h5
   have h6:=(A2m ((uniP [(⟨0,r.len⟩:Spn)]).length+(uniP (X2 0 (uniP ((ruls a r v).map (·.span))))).length) (uniP [(⟨0,r.len⟩:Spn)]) (uniP (X2 0 (uniP ((ruls a r v).map (·.span)))))).1
   simp only [List.length_cons,List.length_nil] at h4
   omega
attribute [local irreducible] X XL XW XG XK Val LS Fp Fo Calls bodyPost Code.wp
structure PrW (p:Prj):Prop where
 rg:RgS p.rgts
 docs:∀ d∈p.docs,GD d
 texts:∀ d∈p.docs,∀ n∈d.notes,n.text.length≤1000
 lang:LgS p.lang
 orth:OrS p.lang.ortho
abbrev witD (g:Lng):Option (List Int)→Dt
 | none=>.i 310 (.g [])
 | some w=>.i 314 (.g (lngC g++[ints w]))
theorem n53 (ds:List Doc) (id:Int):Fp Tryz.prog 53 [docs ds,dI id] (fRes docC doc0 (docF ds id)):=c53 ds id
theorem c128 (ds : List Doc) (g : Lng) (r : Rf) (ho : OrS g.ortho) (ht : ∀ d ∈ ds, ∀ n ∈ d.notes, n.text.length ≤ 1000) : Fp Tryz.prog 128 [docs ds, .g (lngC g), .g (rfC r)] (witD g (B7q ds g r)) := by
 unfold B7q
 have c1:=n53 ds r.rcd
 cases hd:docF ds r.rcd with
 | none=>
  rw [hd] at c1
  dsimp only
  refine fXw Tryz.func128 Tryz.ntmps128 fun c hM=>?_
  (repeat' (first|refine cDw en53 c1 ?_|refine G_x (A0d rfl rfl rfl rfl) rfl rfl ?_|refine Wz ?_|fail))
  all_goals (try exact oMw)
  exact rXw hM
 | some d=>
  rw [hd] at c1
  dsimp only
  have hdm:d∈ds:=List.mem_of_find?_eq_some hd
  have c2:=n119 d r.note
  cases hn:getN d.notes r.note with
  | none=>
   rw [hn] at c2
   dsimp only
   refine fXw Tryz.func128 Tryz.ntmps128 fun c hM=>?_
   (repeat' (first|refine cDw en53 c1 ?_|refine cDw O8 c2 ?_|refine G_x (A0d rfl rfl rfl rfl) rfl rfl ?_|refine Wz ?_|fail))
   all_goals (try exact oMw)
   exact rXw hM
  | some n=>
   rw [hn] at c2
   dsimp only
   have c3:=n113 d.tiers 2
   by_cases ht2:n.tier=L5 d.tiers 2
   rotate_left
   ·rw [if_pos ht2]
    refine fXw Tryz.func128 Tryz.ntmps128 fun c hM=>?_
    (repeat' (first|refine cDw en53 c1 ?_|refine cDw O8 c2 ?_|refine cDw A3t c3 ?_|refine G_x (A0d rfl rfl rfl rfl) rfl rfl ?_|refine Wz ?_|refine Wd (fun hh=>?_) fun hh=>?_))
    all_goals (first|exact absurd (by assumption) ht2|(exfalso;omega)|exact rXw hM)
   rw [if_neg (fun h=>h ht2)]
   have c4:=c199 g.ortho n.text ho (ht d hdm n (L8 hn).1)
   obtain⟨R,hR⟩:∃ R,B5z g.ortho.units n.text=R:=⟨_,rfl⟩
   rw [hR] at c4 ⊢
   obtain⟨w,a,e⟩:=R
   dsimp only [read3] at c4 ⊢
   by_cases he:e=0
   ·rw [if_neg (fun h=>h he)]
    refine fXw Tryz.func128 Tryz.ntmps128 fun c hM=>?_
    (repeat' (first|refine cDw en53 c1 ?_|refine cDw O8 c2 ?_|refine cDw A3t c3 ?_|refine cDw D8l c4 ?_|refine G_x (A0d rfl rfl rfl rfl) rfl rfl ?_|refine Wz ?_|refine Wd (fun hh=>?_) fun hh=>?_))
    all_goals (first|exact absurd ht2 (by assumption)|(exfalso;omega)|exact rXw hM)
   ·rw [if_pos he]
    refine fXw Tryz.func128 Tryz.ntmps128 fun c hM=>?_
    (repeat' (first|refine cDw en53 c1 ?_|refine cDw O8 c2 ?_|refine cDw A3t c3 ?_|refine cDw D8l c4 ?_|refine G_x (A0d rfl rfl rfl rfl) rfl rfl ?_|refine Wz ?_|refine Wd (fun hh=>?_) fun hh=>?_))
    all_goals (first|exact absurd ht2 (by assumption)|(exfalso;omega)|exact rXw hM)
theorem D4r (v:Value) (w:World):(method (Tryz.prog.types.size+Made.depth) 310 v "langdoc/provenance.uses").run Tryz.prog w=.ok (381,v) w:=by kernel_rfl
theorem D4q (v:Value) (w:World):(method (Tryz.prog.types.size+Made.depth) 314 v "langdoc/provenance.uses").run Tryz.prog w=.ok (382,v) w:=by kernel_rfl
theorem c50 (ds:List Doc) (g:Lng) (id:Int) (r:Rf) (hg:LgS g) (ho:OrS g.ortho) (ht:∀ d∈ds,∀ n∈d.notes,n.text.length≤1000):Fp Tryz.prog 50 [docs ds,.g (lngC g),dI id,.g (rfC r)] (dB (attP ds g id r)):=by
 unfold attP
 have c1:=c49 g.lex id
 have c2:=c128 ds g r ho ht
 have hhas:hasE g.lex id=(getE g.lex id).isSome:=rfl
 rw [hhas]
 cases he:getE g.lex id with
 | none=>
  rw [he] at c1
  refine fXw Tryz.func50 Tryz.ntmps50 fun c hM=>?_
  (repeat' (first|refine cDw en49 c1 ?_|refine Wz ?_|fail))
  all_goals (try exact oMw)
  exact rXw hM
 | some e=>
  rw [he] at c1
  cases hc:B7q ds g r with
  | none=>
   rw [hc] at c2
   have c3:=c381 id
   refine fXw Tryz.func50 Tryz.ntmps50 fun c hM=>?_
   (repeat' (first|refine cDw en49 c1 ?_|refine cDw D9b c2 ?_|refine G_x (B1e c3 rfl rfl rfl rfl D4r G4s) rfl rfl ?_|refine Wz ?_|fail))
   all_goals (try exact oMw)
   exact rXw hM
  | some w=>
   rw [hc] at c2
   have c3:=c382 g w id hg
   refine fXw Tryz.func50 Tryz.ntmps50 fun c hM=>?_
   (repeat' (first|refine cDw en49 c1 ?_|refine cDw D9b c2 ?_|refine G_x (B1e c3 rfl rfl rfl rfl D4q G4r) rfl rfl ?_|refine Wz ?_|fail))
   all_goals (try exact oMw)
   exact rXw hM
theorem c41 (p:Prj) (v:Vwr) (d:Doc) (hp:RgS p.rgts):Fp Tryz.prog 41 [.g (prjC p),.g (vwrC v),.g (docC d)] (spnD (H5 p.rgts d.rc v)):=by
 have c1:=c111 p.rgts d.rc v hp
 refine fXw Tryz.func41 Tryz.ntmps41 fun c hM=>?_
 (repeat' (first|refine cDw G8k c1 ?_|refine Wz ?_|fail))
 exact rXw hM
theorem c185 (p:Prj) (v:Vwr) (r:Rf) (hp:PrW p):Fp Tryz.prog 185 [.g (prjC p),.g (vwrC v),.g (rfC r)] (dB (O1 p v r)):=by
 unfold O1
 have c1:=n53 p.docs r.rcd
 cases hd:docF p.docs r.rcd with
 | none=>
  rw [hd] at c1
  dsimp only
  refine fXw Tryz.func185 Tryz.ntmps185 fun c hM=>?_
  (repeat' (first|refine cDw en53 c1 ?_|refine Wz ?_|fail))
  all_goals (try exact oMw)
  exact rXw hM
 | some d=>
  rw [hd] at c1
  dsimp only
  have hdm:d∈p.docs:=List.mem_of_find?_eq_some hd
  have c2:=c41 p v d hp.rg
  have hsl:=A7a hp.rg d.rc v
  have c3:=c117 d (H5 p.rgts d.rc v) r.note (hp.docs d hdm) hsl
  obtain⟨S,hS⟩:∃ S,H5 p.rgts d.rc v=S:=⟨_,rfl⟩
  rw [hS] at c2 c3 ⊢
  refine fXw Tryz.func185 Tryz.ntmps185 fun c hM=>?_
  (repeat' (first|refine cDw en53 c1 ?_|refine cDw en41 c2 ?_|refine cDw B7g c3 ?_|refine Wz ?_|fail))
  all_goals (try exact oMw)
  exact rXw hM
end
section
open Go.RowKit Go.En Go.Dl Go.Tp
attribute [local irreducible] X XL XW XG XK Val LS Fp Fo Calls bodyPost Code.wp
abbrev stH (st:List Int):Hp:=[(1000,.mp 0 (st.map bT))]
theorem c45 (a:List Prt) (st:List Int):Fo Tryz.prog 45 [.g [.d (prts a)],.m 1000] (stH st) (.d (dB (Q2 a st))) (stH st):=by
 have e:Q2 a st=a.allB fun x=>hasI st x.entry:=(B4o _ _).symm
 rw [e]
 refine fo_X (n:=20) Tryz.func45 rfl Tryz.ntmps45 rfl fun c hM=>?_
 (repeat' (first|refine Wz ?_|refine Wb fun hb=>?_))
 refine X_lp (ι:=Nat) 1047632 [] (fun i=>[(10,.d (dI i))]) (fun _=>[]) (fun i=>i≤a.length∧(a.allB fun x=>hasI st x.entry)=(a.drop i).allB fun x=>hasI st x.entry) (fun i=>a.length-i) (0) ?_ ?_
 ·exact⟨Nat.zero_le _,rfl⟩
 rintro i ⟨hi,hq⟩
 by_cases hlt:i<a.length
 ·obtain⟨x,hx⟩:=gex hlt
  have hml:=N6 x.entry st
  rw [drp hx,List.allB] at hq
  cases hb:hasI st x.entry with
  | true=>
   rw [hb] at hml
   rw [hb,Bool.true_and] at hq
   (repeat' (first|refine iDw (gm hx) ?_|refine G_x (B0 (ky:=.i (x.entry)) rfl rfl rfl rfl rfl rfl rfl (by exact(hml))) rfl rfl ?_|refine Wz ?_|refine Wd (fun hh=>?_) fun hh=>?_))
   all_goals (try exact oMw)
   exact A0 (i+1) ⟨by omega,hq⟩ (by omega)
  | false=>
   rw [hb] at hml
   rw [hb,Bool.false_and] at hq
   rw [hq]
   (repeat' (first|refine iDw (gm hx) ?_|refine G_x (B0 (ky:=.i (x.entry)) rfl rfl rfl rfl rfl rfl rfl (by exact(hml))) rfl rfl ?_|refine Wz ?_|refine Wd (fun hh=>?_) fun hh=>?_))
   all_goals (try exact oMw)
   (first|exact A9 hM rfl rfl rfl tRw Z Z|exact C0 (A9 hM rfl rfl rfl tRw Z Z))
 ·rw [List.drop_eq_nil_of_le (by omega),List.allB] at hq
  rw [hq]
  (repeat' (first|refine Wz ?_|refine Wd (fun hh=>?_) fun hh=>?_))
  all_goals (try exact oMw)
  (first|exact A9 hM rfl rfl rfl tRw Z Z|exact C0 (A9 hM rfl rfl rfl tRw Z Z))
theorem c110 (p : Prj) (v : Vwr) (g : Lng) (e : Entr) (hp : PrW p) (hg : LgS g) (ho : OrS g.ortho) : Fp Tryz.prog 110 [.g (prjC p), .g (vwrC v), .g (lngC g), .g (entC e)] (dB (A3x p v g e)) := by
 have ee:A3x p v g e=e.refs.anyB fun r=>O1 p v r&&attP p.docs g e.id r:=(T3 _ _).symm
 rw [ee]
 refine fXw Tryz.func110 Tryz.ntmps110 fun c hM=>?_
 (repeat' (first|refine Wz ?_|refine Wb fun hb=>?_))
 refine X_lp (ι:=Nat) 4294952192 [] (fun i=>[(14,.d (dI i))]) (fun _=>[]) (fun i=>i≤e.refs.length∧(e.refs.anyB fun r=>O1 p v r&&attP p.docs g e.id r)=(e.refs.drop i).anyB fun r=>O1 p v r&&attP p.docs g e.id r) (fun i=>e.refs.length-i) (0) ?_ ?_
 ·exact⟨Nat.zero_le _,rfl⟩
 rintro i ⟨hi,hq⟩
 by_cases hlt:i<e.refs.length
 ·obtain⟨x,hx⟩:=gex hlt
  have c1:=c185 p v x hp
  have c2:=c50 p.docs g e.id x hg ho hp.texts
  rw [drp hx,List.anyB] at hq
  obtain⟨b1,hb1⟩:∃ b,O1 p v x=b:=⟨_,rfl⟩
  obtain⟨b2,hb2⟩:∃ b,attP p.docs g e.id x=b:=⟨_,rfl⟩
  rw [hb1] at c1 hq
  rw [hb2] at c2 hq
  cases b1 with
  | false=>
   rw [Bool.false_and,Bool.false_or] at hq
   (repeat' (first|refine iDw (gm hx) ?_|refine cDw B7e c1 ?_|refine Wz ?_|refine Wd (fun hh=>?_) fun hh=>?_))
   all_goals (try exact oMw)
   exact A0 (i+1) ⟨by omega,hq⟩ (by omega)
  | true=>
   cases b2 with
   | false=>
    rw [Bool.and_false,Bool.false_or] at hq
    (repeat' (first|refine iDw (gm hx) ?_|refine cDw B7e c1 ?_|refine cDw en50 c2 ?_|refine Wz ?_|refine Wd (fun hh=>?_) fun hh=>?_))
    all_goals (try exact oMw)
    exact A0 (i+1) ⟨by omega,hq⟩ (by omega)
   | true=>
    rw [Bool.and_true,Bool.true_or] at hq
    rw [hq]
    (repeat' (first|refine iDw (gm hx) ?_|refine cDw B7e c1 ?_|refine cDw en50 c2 ?_|refine Wz ?_|refine Wd (fun hh=>?_) fun hh=>?_))
    all_goals (try exact oMw)
    exact rXw hM
 ·rw [List.drop_eq_nil_of_le (by omega),List.anyB] at hq
  rw [hq]
  (repeat' (first|refine Wz ?_|refine Wd (fun hh=>?_) fun hh=>?_))
  all_goals (try exact oMw)
  exact rXw hM
theorem c118 (p:Prj) (v:Vwr) (l:List Rf) (hp:PrW p) (hl:l.length≤1000):Fp Tryz.prog 118 [.g (prjC p),.g (vwrC v),refs l] (refs (A7b p v l)):=by
 unfold A7b
 refine fXw Tryz.func118 Tryz.ntmps118 fun c hM=>?_
 (repeat' (first|refine Wz ?_|refine Wb fun hb=>?_))
 refine D5 7 7 77 2 rfl rfl ?_
 refine X_lp (ι:=Nat × Nat) 33550976 [7] (fun s=>[(7,.o 7 s.2),(12,.d (dI s.1))]) (fun s=>[(7,.ls 77 2 s.2 (((l.take s.1).filter (O1 p v)).map rfC))]) (fun s=>s.1≤l.length) (fun s=>l.length-s.1) ((0,0)) ?_ ?_
 ·exact Nat.zero_le _
 rintro⟨i,u⟩ hi
 dsimp only at hi ⊢
 by_cases hlt:i<l.length
 ·obtain⟨x,hx⟩:=gex hlt
  have c1:=c185 p v x hp
  have hle:((l.take i).filter (O1 p v)).length≤1000:=Nat.le_trans (List.length_filter_le _ _) (by rw [List.length_take];omega)
  cases hb:O1 p v x with
  | false=>
   rw [hb] at c1
   (repeat' (first|refine iDw (gm hx) ?_|refine cDw B7e c1 ?_|refine Wz ?_|refine Wd (fun hh=>?_) fun hh=>?_))
   all_goals (try exact oMw)
   exact A0 (i+1,u) (by dsimp only;omega) (by dsimp only;omega) (hh:=A3 (by dsimp only;rw [G3 hx hb];rfl) (A4 _))
  | true=>
   rw [hb] at c1
   have hrow:((l.take (i+1)).filter (O1 p v)).map rfC=((l.take i).filter (O1 p v)).map rfC++[rfC x]:=by rw [G1 hx hb];simp
   (repeat' (first|refine iDw (gm hx) ?_|refine cDw B7e c1 ?_|refine Wz ?_|refine Wd (fun hh=>?_) fun hh=>?_))
   all_goals (try exact oMw)
   exact A0 (i+1,u+1) (by dsimp only;omega) (by dsimp only;omega) (hh:=A3 (by dsimp only;rw [hrow];rfl) (A4 _))
 ·have hz:i=l.length:=by omega
  subst hz
  rw [List.take_length]
  have hle:(l.filter (O1 p v)).length≤1000:=Nat.le_trans (List.length_filter_le _ _) hl
  (repeat' (first|refine Wz ?_|refine Wd (fun hh=>?_) fun hh=>?_))
  all_goals (try exact oMw)
  refine C3 6 rfl rfl lOw ?_
  exact rXw hM
theorem c44 (p : Prj) (v : Vwr) (ds : List Doc) (l : List Rf) (hp : PrW p) (hl : l.length ≤ 1000) : Fp Tryz.prog 44 [.g (prjC p), .g (vwrC v), docs ds, refs l] (refs (remF p v ds l)) := by
 have c0:=c118 p v l hp hl
 unfold remF
 obtain⟨L,hL⟩:∃ L,A7b p v l=L:=⟨_,rfl⟩
 have hLl:L.length≤1000:=by rw [← hL];exact Nat.le_trans (List.length_filter_le _ _) hl
 rw [hL] at c0 ⊢
 refine fXw Tryz.func44 Tryz.ntmps44 fun c hM=>?_
 (repeat' (first|refine cDw G8i c0 ?_|refine Wz ?_|refine Wb fun hb=>?_))
 refine D5 9 9 77 2 rfl rfl ?_
 refine X_lp (ι:=Nat × Nat) 140737486322176 [9] (fun s=>[(9,.o 9 s.2),(21,.d (dI s.1))]) (fun s=>[(9,.ls 77 2 s.2 (((L.take s.1).filter (A1w ds)).map rfC))]) (fun s=>s.1≤L.length) (fun s=>L.length-s.1) ((0,0)) ?_ ?_
 ·exact Nat.zero_le _
 rintro⟨i,u⟩ hi
 dsimp only at hi ⊢
 by_cases hlt:i<L.length
 ·obtain⟨x,hx⟩:=gex hlt
  have c1:=n53 ds x.rcd
  have hle:((L.take i).filter (A1w ds)).length≤1000:=Nat.le_trans (List.length_filter_le _ _) (by rw [List.length_take];omega)
  have hrb:A1w ds x=match docF ds x.rcd with|some d=>(getN d.notes x.note).isSome|none=>false:=rfl
  cases hd:docF ds x.rcd with
  | none=>
   rw [hd] at c1 hrb
   have hb:A1w ds x=false:=hrb
   (repeat' (first|refine iDw (gm hx) ?_|refine cDw en53 c1 ?_|refine Wz ?_|refine Wd (fun hh=>?_) fun hh=>?_))
   all_goals (try exact oMw)
   exact A0 (i+1,u) (by dsimp only;omega) (by dsimp only;omega) (hh:=A3 (by dsimp only;rw [G3 hx hb];rfl) (A4 _))
  | some d=>
   rw [hd] at c1 hrb
   have c2:=n119 d x.note
   cases hn:getN d.notes x.note with
   | none=>
    rw [hn] at c2
    have hb:A1w ds x=false:=by rw [hrb];dsimp only;rw [hn];rfl
    (repeat' (first|refine iDw (gm hx) ?_|refine cDw en53 c1 ?_|refine cDw O8 c2 ?_|refine Wz ?_|refine Wd (fun hh=>?_) fun hh=>?_))
    all_goals (try exact oMw)
    exact A0 (i+1,u) (by dsimp only;omega) (by dsimp only;omega) (hh:=A3 (by dsimp only;rw [G3 hx hb];rfl) (A4 _))
   | some n=>
    rw [hn] at c2
    have hb:A1w ds x=true:=by rw [hrb];dsimp only;rw [hn];rfl
    have hrow:((L.take (i+1)).filter (A1w ds)).map rfC=((L.take i).filter (A1w ds)).map rfC++[rfC x]:=by rw [G1 hx hb];simp
    (repeat' (first|refine iDw (gm hx) ?_|refine cDw en53 c1 ?_|refine cDw O8 c2 ?_|refine Wz ?_|refine Wd (fun hh=>?_) fun hh=>?_))
    all_goals (try exact oMw)
    exact A0 (i+1,u+1) (by dsimp only;omega) (by dsimp only;omega) (hh:=A3 (by dsimp only;rw [hrow];rfl) (A4 _))
 ·have hz:i=L.length:=by omega
  subst hz
  rw [List.take_length]
  have hle:(L.filter (A1w ds)).length≤1000:=Nat.le_trans (List.length_filter_le _ _) hLl
  (repeat' (first|refine Wz ?_|refine Wd (fun hh=>?_) fun hh=>?_))
  all_goals (try exact oMw)
  refine C3 8 rfl rfl lOw ?_
  exact rXw hM
end
end Go.Proofs.YtojadfppncgphaaGreatDoor