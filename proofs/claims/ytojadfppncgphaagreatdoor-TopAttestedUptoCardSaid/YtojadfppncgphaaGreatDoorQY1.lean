/- Own text. -/
import Derived.Test.YtojadfppncgphaaGreatDoorQY0
set_option linter.all false
set_option maxHeartbeats 16000000
set_option maxRecDepth 8000
namespace Go.Proofs.YtojadfppncgphaaGreatDoor
section
open Go.RowKit Go.En Go.Dl Go.Tp
attribute [local irreducible] X XL XW XG XK Val LS Fp Fo Calls bodyPost Code.wp
structure RgS (a:Rgts):Prop where
 grps:a.groups.length≤20
 ppl:∀ g∈a.groups,g.people.length≤1000
 cons:a.consents.length≤1000
 ruls:a.rules.length≤11
theorem c140 (a:Rgts)(p:Prot)(v:Vwr)(ha:RgS a):Fp Tryz.prog 140 [.g (V7 a),.g (B7p p),.g (vwrC v)] (dB (mayP a.people a.groups p v)):=by
 have c1:=c211 a.people a.groups p v ha.grps ha.ppl
 refine fXw Tryz.func140 Tryz.ntmps140 fun c hM=>?_
 (repeat' (first|refine cDw G9h c1 ?_|refine Wz ?_|fail))
 exact rXw hM
theorem q40S {p:Prop}(h:p:=by first|(simp [one1, *,dB,dI,dS,List.anyB,List.allB,fstE];done)|(simp_all [one1,dB,dI,dS,List.anyB,List.allB,fstE];done)|(simp_all [one1,dB,dI,dS,List.anyB,List.allB,fstE];omega)):p:=h
theorem c55 (a:Rgts)(r:Rc)(v:Vwr)(ha:RgS a):Fp Tryz.prog 55 [.g (V7 a++rcC r++vwrC v)] (dI (S4 a r v)):=by
 unfold S4
 obtain⟨b,hb⟩:∃ b,mbrB a.people v.person=b:=⟨_,rfl⟩;have cb:=c136 a v.person;rw [hb] at cb
 rw [hb]
 refine fXw Tryz.func55 Tryz.ntmps55 fun c hM=>?_
 (repeat' (first|refine Wz ?_|refine Wb fun hb=>?_))
 refine X_lp (ι:=Nat) 1099511626804 [] (fun i=>[(10,.d (dI i))]) (fun _=>[]) (fun i=>i≤(r.sp).length∧(fun i q=>dI (fstE (fun _ s=>if atR s r.id v.day a.consents=0 then 26 else if atR s r.id v.day a.consents=1∧b=false then 25 else 0) i q)) 0 (r.sp)=(fun i q=>dI (fstE (fun _ s=>if atR s r.id v.day a.consents=0 then 26 else if atR s r.id v.day a.consents=1∧b=false then 25 else 0) i q)) i ((r.sp).drop i)) (fun i=>(r.sp).length-i) (0) ?_ ?_
 ·exact⟨zLw,rfl⟩
 rintro i ⟨hi,hq⟩
 by_cases hlt:i<(r.sp).length
 rotate_left
 ·have hz:i=(r.sp).length:=oEw
  subst hz
  rw [List.drop_eq_nil_of_le (Nat.le_refl _)] at hq
  try dsimp only at hq
  ((repeat' (first|refine Wz ?_|apply Wd <;>intro hh));all_goals (first|(exfalso;omega)|(refine rEw hM ?_;rw [hq];rfl)))
 obtain⟨n,hn⟩:=gex hlt
 obtain⟨pv,hp⟩:=gex (l:=r.sp) (i:=i-1) oEw
 have hpr:=B6 hp
 have hmem:=List.mem_of_getElem? hn
 rw [drp hn] at hq
 try dsimp only at hq
 have ca:=c135 a.consents n r.id v.day ha.cons;obtain⟨z,hz⟩:∃ z,atR n r.id v.day a.consents=z:=⟨_,rfl⟩;rw [fstE,hz] at hq;rw [hz] at ca;cases b
 all_goals (repeat' (first|refine iDw (gm hn) ?_|refine cDw H0m ca ?_|refine cDw H0l cb ?_|refine Wz ?_|apply Wd <;>intro hh))
 all_goals (try exact oMw)
 all_goals first
  | exact A0 (i+1) ⟨oEw,by(try dsimp only);rw [hq];exact q40S⟩ oEw
  | (refine rEw hM ?_;(try rw [hq]);exact q40S)
theorem c58 (a:Rgts)(r:Rc)(v:Vwr)(ha:RgS a):Fp Tryz.prog 58 [.g (V7 a++rcC r++vwrC v)] (spnD (D4 a r v)):=by
 have cb:=c55 a r v ha
 unfold D4
 by_cases hb:S4 a r v≠0
 ·rw [if_pos hb]
  refine fXw Tryz.func58 Tryz.ntmps58 fun c hM=>?_
  (repeat' (first|refine cDw en55 cb ?_|refine Wz ?_|refine Wb fun hb=>?_|apply Wd <;>intro hh))
  all_goals (try exact oMw)
  exact rXw hM
 rw [if_neg hb]
 obtain⟨P,hP⟩:∃ P:Rul→Bool,P=fun x=>decide (x.rcd=r.id)&&!mayP a.people a.groups x.prot v:=⟨_,rfl⟩
 obtain⟨Zq,hZ⟩:∃ Zq:Rul→Bool,Zq=fun x=>decide (x.span.frm=0)&&decide (x.span.til=0):=⟨_,rfl⟩
 have hr:ruls a r v=a.rules.filter P:=by rw [hP];rfl
 rw [hr,← hZ]
 have hfl:=List.length_filter_le P a.rules
 have hrl:=ha.ruls
 refine fXw Tryz.func58 Tryz.ntmps58 fun c hM=>?_
 (repeat' (first|refine cDw en55 cb ?_|refine Wz ?_|refine Wb fun hb=>?_|apply Wd <;>intro hh))
 all_goals (try exact oMw)
 refine D0 4 4 82 2 Z Z ?_
 refine X_lp (ι:=Nat × Nat) 562949952372820 [4] (fun s=>[(4,.o 4 s.2),(20,.d (dI s.1))]) (fun s=>[(4,.ls 82 2 s.2 ((((a.rules.take s.1).filter P).map (·.span)).map spnC))]) (fun s=>s.1≤a.rules.length∧((a.rules.take s.1).filter P).any Zq=false) (fun s=>a.rules.length-s.1) ((0,0)) ?_ ?_
 ·exact⟨zLw,rfl⟩
 rintro⟨i,w⟩ ⟨hi,hz⟩
 dsimp only at hi hz ⊢
 by_cases hlt:i<a.rules.length
 rotate_left
 ·rw [show a.rules.take i=a.rules from List.take_of_length_le oEw] at hz ⊢
  rw [hz,if_neg (by simp)]
  have cm:=c141 [⟨0,r.len⟩] ((a.rules.filter P).map (·.span)) (by simp) (by rw [List.length_map];omega)
  (repeat' (first|(refine K6 50 Z Z (by simp only [List.length_map];omega) ?_)|refine cDw H0j cm ?_|refine Wz ?_|apply Wd <;>intro hh))
  all_goals (try exact oMw)
  exact rXw hM
 obtain⟨x,hx⟩:=gex hlt
 have hPx:P x=(decide (x.rcd=r.id)&&!mayP a.people a.groups x.prot v):=by rw [hP]
 have hZx:Zq x=(decide (x.span.frm=0)&&decide (x.span.til=0)):=by rw [hZ]
 have hmem:x∈a.rules:=List.mem_of_getElem? hx
 obtain⟨b,hbm⟩:∃ b,mayP a.people a.groups x.prot v=b:=⟨_,rfl⟩
 have cm:=c140 a x.prot v ha
 rw [hbm] at hPx cm
 obtain⟨z,hzz⟩:∃ z,(decide (x.span.frm=0)&&decide (x.span.til=0))=z:=⟨_,rfl⟩
 rw [hzz] at hZx
 by_cases hid:x.rcd=r.id
 rotate_left
 ·have hPf:P x=false:=by rw [hPx,decide_eq_false hid];rfl
  (repeat' (first|refine iDw (gm hx) ?_|refine Wz ?_|apply Wd <;>intro hh))
  all_goals (try exact oMw)
  exact A0 (i+1,w) ⟨oDw,by dsimp only;rw [G1 hx hPf];exact hz⟩ (oDw) (hh:=A1 (by dsimp only;rw [G1 hx hPf];rfl) (A4 _))
 rw [decide_eq_true hid] at hPx
 cases b with
 | true=>
  (repeat' (first|refine iDw (gm hx) ?_|refine cDw D2t cm ?_|refine Wz ?_|apply Wd <;>intro hh))
  all_goals (try exact oMw)
  all_goals (first|exact absurd hid (by assumption)|exact A0 (i+1,w) ⟨oDw,by dsimp only;rw [G1 hx hPx];exact hz⟩ (oDw) (hh:=A1 (by dsimp only;rw [G1 hx hPx];rfl) (A4 _)))
 | false=>
  cases z with
  | true=>
   have hin:(a.rules.filter P).any Zq=true:=List.any_eq_true.2 ⟨x,List.mem_filter.2 ⟨hmem,hPx⟩,hZx⟩
   rw [hin,if_pos rfl]
   (repeat' (first|refine iDw (gm hx) ?_|refine cDw D2t cm ?_|refine G_x (Z7 B1k Z Z Z hzz) Z Z ?_|refine Wz ?_|apply Wd <;>intro hh))
   all_goals (try exact oMw)
   all_goals (first|exact absurd hid (by assumption)|exact rXw hM)
  | false=>
   have hst:((a.rules.take (i+1)).filter P).any Zq=false:=by rw [D9 hx hPx,List.any_append,hz];simp [hZx]
   have hrow:(((a.rules.take (i+1)).filter P).map (·.span)).map spnC=(((a.rules.take i).filter P).map (·.span)).map spnC++[spnC x.span]:=by rw [D9 hx hPx];simp
   have hle:((a.rules.take i).filter P).length≤11:=Nat.le_trans (List.length_filter_le _ _) (by rw [List.length_take];omega)
   (repeat' (first|refine iDw (gm hx) ?_|refine cDw D2t cm ?_|refine G_x (Z7 B1k Z Z Z hzz) Z Z ?_|refine Wz ?_|apply Wd <;>intro hh))
   all_goals (try exact oMw)
   all_goals (first|exact absurd hid (by assumption)|exact A0 (i+1,w+1) ⟨oDw,hst⟩ (oDw) (hh:=A1 (by dsimp only;rw [hrow];rfl) (A4 _)))
theorem c111 (a:Rgts)(r:Rc)(v:Vwr)(ha:RgS a):Fp Tryz.prog 111 [.g (V7 a),.g (rcC r),.g (vwrC v)] (spnD (D4 a r v)):=by
 have c1:=c58 a r v ha
 refine fXw Tryz.func111 Tryz.ntmps111 fun c hM=>?_
 (repeat' (first|refine cDw en58 c1 ?_|refine Wz ?_|fail))
 exact rXw hM
theorem A3g:∀(n:Nat) (a b:List Spn),(N6 n a b).length≤a.length+b.length-1∧(a=[]∨b=[]→N6 n a b=[])
 | 0,a,b=>⟨zLw,fun _=>rfl⟩
 | n+1,[],b=>⟨by rw [A3f];exact zLw,fun _=>A3f _ _⟩
 | n+1,x::a,[]=>⟨by rw [A1g];exact zLw,fun _=>A1g _ _⟩
 | n + 1, x :: a, y :: b => by
  refine⟨?_,fun h=>by rcases h with h|h <;> cases h⟩
  rw [N6,List.length_append]
  have hs:(if max x.frm y.frm<min x.til y.til then [(⟨max x.frm y.frm,min x.til y.til⟩:Spn)] else []).length≤1:=by split <;> simp
  by_cases h2:x.til<y.til
  ·rw [if_pos h2]
   have h1:=A3g n a (y::b)
   cases a with
   | nil=>have h0:=h1.2 (.inl rfl);rw [h0];simp only [List.length_cons,List.length_nil] at hs ⊢;omega
   | cons z r=>simp only [List.length_cons] at h1 ⊢;omega
  ·rw [if_neg h2]
   have h1:=A3g n (x::a) b
   cases b with
   | nil=>have h0:=h1.2 (.inr rfl);rw [h0];simp only [List.length_cons,List.length_nil] at hs ⊢;omega
   | cons z r=>simp only [List.length_cons] at h1 ⊢;omega
theorem A2u {a:Rgts}(ha:RgS a)(r:Rc)(v:Vwr):(D4 a r v).length≤12:=by
 unfold D4
 split
 ·exact zLw
 ·split
  ·exact zLw
  ·have h1:=X6 ((ruls a r v).map (·.span))
   have h2:(ruls a r v).length≤a.rules.length:=List.length_filter_le _ _
   have h3:=ha.ruls
   rw [List.length_map] at h1
   unfold A2y B9q
   have h4:=X6 [(⟨0,r.len⟩:Spn)]
   have h5:=X6 (Q9 0 (uniP ((ruls a r v).map (·.span))))
   rw [A5m] at h5
   have h6:=(A3g ((uniP [(⟨0,r.len⟩:Spn)]).length+(uniP (Q9 0 (uniP ((ruls a r v).map (·.span))))).length) (uniP [(⟨0,r.len⟩:Spn)]) (uniP (Q9 0 (uniP ((ruls a r v).map (·.span)))))).1
   simp only [List.length_cons,List.length_nil] at h4
   omega
structure PrW (p:Prj):Prop where
 rg:RgS p.rgts
 docs:∀ d∈p.docs,GD d
 texts:∀ d∈p.docs,∀ n∈d.notes,n.text.length≤1000
 lang:LgS p.lang
 orth:OrS p.lang.ortho
abbrev witD (g:Lng):Option (List Int)→Dt
 | none=>.i 310 (.g [])
 | some w=>.i 314 (.g (lngC g++[ints w]))
theorem n53 (ds:List Doc)(id:Int):Fp Tryz.prog 53 [docs ds,dI id] (fRes docC doc0 (docF ds id)):=c53 ds id
theorem c128 (ds : List Doc)(g : Lng)(r : Rf)(ho : OrS g.ortho)(ht : ∀ d ∈ ds, ∀ n ∈ d.notes, n.text.length ≤ 1000) : Fp Tryz.prog 128 [docs ds, .g (lngC g), .g (rfC r)] (witD g (B0b ds g r)) := by
 unfold B0b
 have c1:=n53 ds r.rcd
 cases hd:docF ds r.rcd with
 | none=>
  rw [hd] at c1
  dsimp only
  refine fXw Tryz.func128 Tryz.ntmps128 fun c hM=>?_
  (repeat' (first|refine cDw en53 c1 ?_|refine G_x (A0u Z Z Z Z) Z Z ?_|refine Wz ?_|fail))
  all_goals (try exact oMw)
  exact rXw hM
 | some d=>
  rw [hd] at c1
  dsimp only
  have hdm:d∈ds:=List.mem_of_find?_eq_some hd
  have c2:=n119 d r.note
  cases hn:getN d.notes r.note with
  | none=>
   rw [hn] at c2
   dsimp only
   refine fXw Tryz.func128 Tryz.ntmps128 fun c hM=>?_
   (repeat' (first|refine cDw en53 c1 ?_|refine cDw M7 c2 ?_|refine G_x (A0u Z Z Z Z) Z Z ?_|refine Wz ?_|fail))
   all_goals (try exact oMw)
   exact rXw hM
  | some n=>
   rw [hn] at c2
   dsimp only
   have c3:=n113 d.tiers 2
   by_cases ht2:n.tier=H9 d.tiers 2
   rotate_left
   ·rw [if_pos ht2]
    refine fXw Tryz.func128 Tryz.ntmps128 fun c hM=>?_
    (repeat' (first|refine cDw en53 c1 ?_|refine cDw M7 c2 ?_|refine cDw A4s c3 ?_|refine G_x (A0u Z Z Z Z) Z Z ?_|refine Wz ?_|apply Wd <;>intro hh))
    all_goals (first|exact absurd (by assumption) ht2|(exfalso;omega)|exact rXw hM)
   rw [if_neg (fun h=>h ht2)]
   have c4:=c199 g.ortho n.text ho (ht d hdm n (H3 hn).1)
   obtain⟨R,hR⟩:∃ R,A3s g.ortho.units n.text=R:=⟨_,rfl⟩
   rw [hR] at c4 ⊢
   obtain⟨w,a,e⟩:=R
   dsimp only [read3] at c4 ⊢
   by_cases he:e=0
   ·rw [if_neg (fun h=>h he)]
    refine fXw Tryz.func128 Tryz.ntmps128 fun c hM=>?_
    (repeat' (first|refine cDw en53 c1 ?_|refine cDw M7 c2 ?_|refine cDw A4s c3 ?_|refine cDw G1a c4 ?_|refine G_x (A0u Z Z Z Z) Z Z ?_|refine Wz ?_|apply Wd <;>intro hh))
    all_goals (first|exact absurd ht2 (by assumption)|(exfalso;omega)|exact rXw hM)
   ·rw [if_pos he]
    refine fXw Tryz.func128 Tryz.ntmps128 fun c hM=>?_
    (repeat' (first|refine cDw en53 c1 ?_|refine cDw M7 c2 ?_|refine cDw A4s c3 ?_|refine cDw G1a c4 ?_|refine G_x (A0u Z Z Z Z) Z Z ?_|refine Wz ?_|apply Wd <;>intro hh))
    all_goals (first|exact absurd ht2 (by assumption)|(exfalso;omega)|exact rXw hM)
theorem D7b (v:Value)(w:World):(method (Tryz.prog.types.size+Made.depth) 310 v "langdoc/provenance.uses").run Tryz.prog w=.ok (381,v) w:=by kernel_rfl
theorem D7a (v:Value)(w:World):(method (Tryz.prog.types.size+Made.depth) 314 v "langdoc/provenance.uses").run Tryz.prog w=.ok (382,v) w:=by kernel_rfl
theorem c50 (ds:List Doc)(g:Lng)(id:Int)(r:Rf)(hg:LgS g)(ho:OrS g.ortho)(ht:∀ d∈ds,∀ n∈d.notes,n.text.length≤1000):Fp Tryz.prog 50 [docs ds,.g (lngC g),dI id,.g (rfC r)] (dB (attP ds g id r)):=by
 unfold attP
 have c1:=c49 g.lex id
 have c2:=c128 ds g r ho ht
 have hhas:hasE g.lex id=(getE g.lex id).isSome:=rfl
 rw [hhas]
 cases he:getE g.lex id with
 | none=>
  rw [he] at c1
  refine fXw Tryz.func50 Tryz.ntmps50 fun c hM=>?_
  (repeat' (first|refine cDw en49 c1 ?_|refine Wz ?_|fail))
  all_goals (try exact oMw)
  exact rXw hM
 | some e=>
  rw [he] at c1
  cases hc:B0b ds g r with
  | none=>
   rw [hc] at c2
   have c3:=c381 id
   refine fXw Tryz.func50 Tryz.ntmps50 fun c hM=>?_
   (repeat' (first|refine cDw en49 c1 ?_|refine cDw G1t c2 ?_|refine G_x (B2q c3 Z Z Z Z D7b G7f) Z Z ?_|refine Wz ?_|fail))
   all_goals (try exact oMw)
   exact rXw hM
  | some w=>
   rw [hc] at c2
   have c3:=c382 g w id hg
   refine fXw Tryz.func50 Tryz.ntmps50 fun c hM=>?_
   (repeat' (first|refine cDw en49 c1 ?_|refine cDw G1t c2 ?_|refine G_x (B2q c3 Z Z Z Z D7a G7e) Z Z ?_|refine Wz ?_|fail))
   all_goals (try exact oMw)
   exact rXw hM
theorem c41 (p:Prj)(v:Vwr)(d:Doc)(hp:RgS p.rgts):Fp Tryz.prog 41 [.g (prjC p),.g (vwrC v),.g (docC d)] (spnD (D4 p.rgts d.rc v)):=by
 have c1:=c111 p.rgts d.rc v hp
 refine fXw Tryz.func41 Tryz.ntmps41 fun c hM=>?_
 (repeat' (first|refine cDw H0r c1 ?_|refine Wz ?_|fail))
 exact rXw hM
theorem c185 (p:Prj)(v:Vwr)(r:Rf)(hp:PrW p):Fp Tryz.prog 185 [.g (prjC p),.g (vwrC v),.g (rfC r)] (dB (K7 p v r)):=by
 unfold K7
 have c1:=n53 p.docs r.rcd
 cases hd:docF p.docs r.rcd with
 | none=>
  rw [hd] at c1
  dsimp only
  refine fXw Tryz.func185 Tryz.ntmps185 fun c hM=>?_
  (repeat' (first|refine cDw en53 c1 ?_|refine Wz ?_|fail))
  all_goals (try exact oMw)
  exact rXw hM
 | some d=>
  rw [hd] at c1
  dsimp only
  have hdm:d∈p.docs:=List.mem_of_find?_eq_some hd
  have c2:=c41 p v d hp.rg
  have hsl:=A2u hp.rg d.rc v
  have c3:=c117 d (D4 p.rgts d.rc v) r.note (hp.docs d hdm) hsl
  obtain⟨S,hS⟩:∃ S,D4 p.rgts d.rc v=S:=⟨_,rfl⟩
  rw [hS] at c2 c3 ⊢
  refine fXw Tryz.func185 Tryz.ntmps185 fun c hM=>?_
  (repeat' (first|refine cDw en53 c1 ?_|refine cDw en41 c2 ?_|refine cDw B9e c3 ?_|refine Wz ?_|fail))
  all_goals (try exact oMw)
  exact rXw hM
abbrev stH (st:List Int):Hp:=[(1000,.mp 0 (st.map bT))]
theorem c45 (a:List Prt)(st:List Int):Fo Tryz.prog 45 [.g [.d (prts a)],.m 1000] (stH st) (.d (dB (T6 a st))) (stH st):=by
 have e:T6 a st=a.allB fun x=>hasI st x.entry:=(B6d _ _).symm
 rw [e]
 refine fo_X (n:=20) Tryz.func45 rfl Tryz.ntmps45 rfl fun c hM=>?_
 (repeat' (first|refine Wz ?_|refine Wb fun hb=>?_))
 refine X_lp (ι:=Nat) 1047632 [] (fun i=>[(10,.d (dI i))]) (fun _=>[]) (fun i=>i≤a.length∧(a.allB fun x=>hasI st x.entry)=(a.drop i).allB fun x=>hasI st x.entry) (fun i=>a.length-i) (0) ?_ ?_
 ·exact⟨zLw,rfl⟩
 rintro i ⟨hi,hq⟩
 by_cases hlt:i<a.length
 ·obtain⟨x,hx⟩:=gex hlt
  have hml:=O5 x.entry st
  rw [drp hx,List.allB] at hq
  cases hb:hasI st x.entry with
  | true=>
   rw [hb] at hml
   rw [hb,Bool.true_and] at hq
   (repeat' (first|refine iDw (gm hx) ?_|refine G_x (B0 (ky:=.i (x.entry)) Z Z Z Z Z Z Z (by exact(hml))) Z Z ?_|refine Wz ?_|apply Wd <;>intro hh))
   all_goals (try exact oMw)
   exact A0 (i+1) ⟨oEw,hq⟩ oEw
  | false=>
   rw [hb] at hml
   rw [hb,Bool.false_and] at hq
   rw [hq]
   (repeat' (first|refine iDw (gm hx) ?_|refine G_x (B0 (ky:=.i (x.entry)) Z Z Z Z Z Z Z (by exact(hml))) Z Z ?_|refine Wz ?_|apply Wd <;>intro hh))
   all_goals (try exact oMw)
   (first|exact A9 hM Z Z Z tRw Z Z|exact C0 (A9 hM Z Z Z tRw Z Z))
 ·rw [List.drop_eq_nil_of_le oEw,List.allB] at hq
  rw [hq]
  (repeat' (first|refine Wz ?_|apply Wd <;>intro hh))
  all_goals (try exact oMw)
  (first|exact A9 hM Z Z Z tRw Z Z|exact C0 (A9 hM Z Z Z tRw Z Z))
theorem c110 (p : Prj)(v : Vwr)(g : Lng)(e : Entr)(hp : PrW p)(hg : LgS g)(ho : OrS g.ortho) : Fp Tryz.prog 110 [.g (prjC p), .g (vwrC v), .g (lngC g), .g (entC e)] (dB (A0k p v g e)) := by
 have ee:A0k p v g e=e.refs.anyB fun r=>K7 p v r&&attP p.docs g e.id r:=(R5 _ _).symm
 rw [ee]
 refine fXw Tryz.func110 Tryz.ntmps110 fun c hM=>?_
 (repeat' (first|refine Wz ?_|refine Wb fun hb=>?_))
 refine X_lp (ι:=Nat) 4294952192 [] (fun i=>[(14,.d (dI i))]) (fun _=>[]) (fun i=>i≤e.refs.length∧(e.refs.anyB fun r=>K7 p v r&&attP p.docs g e.id r)=(e.refs.drop i).anyB fun r=>K7 p v r&&attP p.docs g e.id r) (fun i=>e.refs.length-i) (0) ?_ ?_
 ·exact⟨zLw,rfl⟩
 rintro i ⟨hi,hq⟩
 by_cases hlt:i<e.refs.length
 ·obtain⟨x,hx⟩:=gex hlt
  have c1:=c185 p v x hp
  have c2:=c50 p.docs g e.id x hg ho hp.texts
  rw [drp hx,List.anyB] at hq
  obtain⟨b1,hb1⟩:∃ b,K7 p v x=b:=⟨_,rfl⟩
  obtain⟨b2,hb2⟩:∃ b,attP p.docs g e.id x=b:=⟨_,rfl⟩
  rw [hb1] at c1 hq
  rw [hb2] at c2 hq
  cases b1 with
  | false=>
   rw [Bool.false_and,Bool.false_or] at hq
   (repeat' (first|refine iDw (gm hx) ?_|refine cDw B9c c1 ?_|refine Wz ?_|apply Wd <;>intro hh))
   all_goals (try exact oMw)
   exact A0 (i+1) ⟨oEw,hq⟩ oEw
  | true=>
   cases b2 with
   | false=>
    rw [Bool.and_false,Bool.false_or] at hq
    (repeat' (first|refine iDw (gm hx) ?_|refine cDw B9c c1 ?_|refine cDw en50 c2 ?_|refine Wz ?_|apply Wd <;>intro hh))
    all_goals (try exact oMw)
    exact A0 (i+1) ⟨oEw,hq⟩ oEw
   | true=>
    rw [Bool.and_true,Bool.true_or] at hq
    rw [hq]
    (repeat' (first|refine iDw (gm hx) ?_|refine cDw B9c c1 ?_|refine cDw en50 c2 ?_|refine Wz ?_|apply Wd <;>intro hh))
    all_goals (try exact oMw)
    exact rXw hM
 ·rw [List.drop_eq_nil_of_le oEw,List.anyB] at hq
  rw [hq]
  (repeat' (first|refine Wz ?_|apply Wd <;>intro hh))
  all_goals (try exact oMw)
  exact rXw hM
theorem c118 (p:Prj)(v:Vwr)(l:List Rf)(hp:PrW p)(hl:l.length≤1000):Fp Tryz.prog 118 [.g (prjC p),.g (vwrC v),refs l] (refs (B4x p v l)):=by
 unfold B4x
 refine fXw Tryz.func118 Tryz.ntmps118 fun c hM=>?_
 (repeat' (first|refine Wz ?_|refine Wb fun hb=>?_))
 refine D0 7 7 77 2 Z Z ?_
 refine X_lp (ι:=Nat × Nat) 33550976 [7] (fun s=>[(7,.o 7 s.2),(12,.d (dI s.1))]) (fun s=>[(7,.ls 77 2 s.2 (((l.take s.1).filter (K7 p v)).map rfC))]) (fun s=>s.1≤l.length) (fun s=>l.length-s.1) ((0,0)) ?_ ?_
 ·exact zLw
 rintro⟨i,u⟩ hi
 dsimp only at hi ⊢
 by_cases hlt:i<l.length
 ·obtain⟨x,hx⟩:=gex hlt
  have c1:=c185 p v x hp
  have hle:((l.take i).filter (K7 p v)).length≤1000:=Nat.le_trans (List.length_filter_le _ _) (by rw [List.length_take];omega)
  cases hb:K7 p v x with
  | false=>
   rw [hb] at c1
   (repeat' (first|refine iDw (gm hx) ?_|refine cDw B9c c1 ?_|refine Wz ?_|apply Wd <;>intro hh))
   all_goals (try exact oMw)
   exact A0 (i+1,u) (oDw) (oDw) (hh:=A1 (by dsimp only;rw [G1 hx hb];rfl) (A4 _))
  | true=>
   rw [hb] at c1
   have hrow:((l.take (i+1)).filter (K7 p v)).map rfC=((l.take i).filter (K7 p v)).map rfC++[rfC x]:=by rw [D9 hx hb];simp
   (repeat' (first|refine iDw (gm hx) ?_|refine cDw B9c c1 ?_|refine Wz ?_|apply Wd <;>intro hh))
   all_goals (try exact oMw)
   exact A0 (i+1,u+1) (oDw) (oDw) (hh:=A1 (by dsimp only;rw [hrow];rfl) (A4 _))
 ·have hz:i=l.length:=oEw
  subst hz
  rw [List.take_length]
  have hle:(l.filter (K7 p v)).length≤1000:=Nat.le_trans (List.length_filter_le _ _) hl
  (repeat' (first|refine Wz ?_|apply Wd <;>intro hh))
  all_goals (try exact oMw)
  refine B9 6 Z Z lOw ?_
  exact rXw hM
theorem c44 (p : Prj)(v : Vwr)(ds : List Doc)(l : List Rf)(hp : PrW p)(hl : l.length ≤ 1000) : Fp Tryz.prog 44 [.g (prjC p), .g (vwrC v), docs ds, refs l] (refs (remF p v ds l)) := by
 have c0:=c118 p v l hp hl
 unfold remF
 obtain⟨L,hL⟩:∃ L,B4x p v l=L:=⟨_,rfl⟩
 have hLl:L.length≤1000:=by rw [← hL];exact Nat.le_trans (List.length_filter_le _ _) hl
 rw [hL] at c0 ⊢
 refine fXw Tryz.func44 Tryz.ntmps44 fun c hM=>?_
 (repeat' (first|refine cDw H0p c0 ?_|refine Wz ?_|refine Wb fun hb=>?_))
 refine D0 9 9 77 2 Z Z ?_
 refine X_lp (ι:=Nat × Nat) 140737486322176 [9] (fun s=>[(9,.o 9 s.2),(21,.d (dI s.1))]) (fun s=>[(9,.ls 77 2 s.2 (((L.take s.1).filter (A0p ds)).map rfC))]) (fun s=>s.1≤L.length) (fun s=>L.length-s.1) ((0,0)) ?_ ?_
 ·exact zLw
 rintro⟨i,u⟩ hi
 dsimp only at hi ⊢
 by_cases hlt:i<L.length
 ·obtain⟨x,hx⟩:=gex hlt
  have c1:=n53 ds x.rcd
  have hle:((L.take i).filter (A0p ds)).length≤1000:=Nat.le_trans (List.length_filter_le _ _) (by rw [List.length_take];omega)
  have hrb:A0p ds x=match docF ds x.rcd with|some d=>(getN d.notes x.note).isSome|none=>false:=rfl
  cases hd:docF ds x.rcd with
  | none=>
   rw [hd] at c1 hrb
   have hb:A0p ds x=false:=hrb
   (repeat' (first|refine iDw (gm hx) ?_|refine cDw en53 c1 ?_|refine Wz ?_|apply Wd <;>intro hh))
   all_goals (try exact oMw)
   exact A0 (i+1,u) (oDw) (oDw) (hh:=A1 (by dsimp only;rw [G1 hx hb];rfl) (A4 _))
  | some d=>
   rw [hd] at c1 hrb
   have c2:=n119 d x.note
   cases hn:getN d.notes x.note with
   | none=>
    rw [hn] at c2
    have hb:A0p ds x=false:=by rw [hrb];dsimp only;rw [hn];rfl
    (repeat' (first|refine iDw (gm hx) ?_|refine cDw en53 c1 ?_|refine cDw M7 c2 ?_|refine Wz ?_|apply Wd <;>intro hh))
    all_goals (try exact oMw)
    exact A0 (i+1,u) (oDw) (oDw) (hh:=A1 (by dsimp only;rw [G1 hx hb];rfl) (A4 _))
   | some n=>
    rw [hn] at c2
    have hb:A0p ds x=true:=by rw [hrb];dsimp only;rw [hn];rfl
    have hrow:((L.take (i+1)).filter (A0p ds)).map rfC=((L.take i).filter (A0p ds)).map rfC++[rfC x]:=by rw [D9 hx hb];simp
    (repeat' (first|refine iDw (gm hx) ?_|refine cDw en53 c1 ?_|refine cDw M7 c2 ?_|refine Wz ?_|apply Wd <;>intro hh))
    all_goals (try exact oMw)
    exact A0 (i+1,u+1) (oDw) (oDw) (hh:=A1 (by dsimp only;rw [hrow];rfl) (A4 _))
 ·have hz:i=L.length:=oEw
  subst hz
  rw [List.take_length]
  have hle:(L.filter (A0p ds)).length≤1000:=Nat.le_trans (List.length_filter_le _ _) hLl
  (repeat' (first|refine Wz ?_|apply Wd <;>intro hh))
  all_goals (try exact oMw)
  refine B9 8 Z Z lOw ?_
  exact rXw hM
theorem c40 (g:Lng)(st:List Int)(hl:g.lex.length≤1000)(hk:∀ e∈g.lex,e.links.length≤1000):Fo Tryz.prog 40 [.g ((lngC g).map .d),.m 1000] (stH st) (.g ((lngC (K8 g st)).map .d)) (stH st):=by
 obtain⟨P,hP⟩:∃ P:Entr→Bool,P=fun e=>hasI st e.id:=⟨_,rfl⟩
 have hlF:K8 g st={ g with lex:=(g.lex.filter P).map (R9 st) }:=by rw [hP];rfl
 rw [hlF]
 refine fo_X (n:=55) Tryz.func40 rfl Tryz.ntmps40 rfl fun c hM=>?_
 (repeat' (first|refine Wz ?_|refine Wb fun hb=>?_))
 refine D0 5 5 99 8 Z Z ?_
 refine X_lp (ι:=Nat × Nat) 4503599627355552 [5] (fun s=>[(5,.o 5 s.2),(14,.d (dI s.1))]) (fun s=>[(5,.ls 99 8 s.2 ((((g.lex.take s.1).filter P).map (R9 st)).map entC))]) (fun s=>s.1≤g.lex.length) (fun s=>g.lex.length-s.1) ((0,0)) ?_ ?_
 ·exact zLw
 rintro⟨i,v⟩ hi
 dsimp only at hi ⊢
 have hle:((g.lex.take i).filter P).length≤1000:=Nat.le_trans (List.length_filter_le _ _) (by rw [List.length_take];omega)
 by_cases hlt:i<g.lex.length
 rotate_left
 ·have hz:i=g.lex.length:=oEw
  subst hz
  rw [List.take_length] at hle ⊢
  (repeat' (first|(refine K6 52 Z Z (by rw [List.length_map,List.length_map];omega) ?_)|refine Wz ?_|apply Wd <;>intro hh))
  all_goals (try exact oMw)
  (first|exact A9 hM Z Z Z tRw Z Z|exact C0 (A9 hM Z Z Z tRw Z Z))
 obtain⟨e,hx⟩:=gex hlt
 have hem:=List.mem_of_getElem? hx
 have hel:=hk e hem
 have hm1:=O5 e.id st
 have hPe:P e=hasI st e.id:=by rw [hP]
 rw [← hPe] at hm1
 cases hb:P e with
 | false=>
  rw [hb] at hm1
  (repeat' (first|refine iDw (gm hx) ?_|refine G_x (B0 (ky:=.i (e.id)) Z Z Z Z Z Z Z (by exact(hm1))) Z Z ?_|refine Wz ?_|apply Wd <;>intro hh))
  all_goals (try exact oMw)
  exact A0 (i+1,v) (oDw) (oDw) (hh:=A1 (by dsimp only;rw [G1 hx hb];rfl) (A4 _))
 | true=>
  rw [hb] at hm1
  have hm2:=O5 e.main st
  obtain⟨m2,hmm⟩:∃ m2,(if hasI st e.main then e.main else 0)=m2:=⟨_,rfl⟩
  obtain⟨Q,hQ⟩:∃ Q:Lnk→Bool,Q=fun x=>hasI st x.to:=⟨_,rfl⟩
  have hke:R9 st e={ e with main:=m2,links:=e.links.filter Q }:=by rw [← hmm,hQ];rfl
  have hrow:(((g.lex.take (i+1)).filter P).map (R9 st)).map entC=(((g.lex.take i).filter P).map (R9 st)).map entC++[entC { e with main:=m2,links:=e.links.filter Q }]:=by rw [D9 hx hb,← hke];simp
  cases hs:hasI st e.main with
  | true=>
   rw [hs] at hm2 hmm
   have hmm2:e.main=m2:=hmm
   subst hmm2
   (repeat' (first|refine iDw (gm hx) ?_|refine G_x (B0 (ky:=.i (e.id)) Z Z Z Z Z Z Z (by exact(hm1))) Z Z ?_|refine G_x (B0 (ky:=.i (e.main)) Z Z Z Z Z Z Z (by exact(hm2))) Z Z ?_|refine Wz ?_|refine Wb fun hb=>?_|apply Wd <;>intro hh))
   all_goals (try exact oMw)
   refine D0 8 8 220 2 Z Z ?_
   refine X_lp (ι:=Nat × Nat) 35180077122816 [8] (fun s=>[(8,.o 8 s.2),(32,.d (dI s.1))]) (fun s=>[(8,.ls 220 2 s.2 (((e.links.take s.1).filter Q).map lkC))]) (fun s=>s.1≤e.links.length) (fun s=>e.links.length-s.1) ((0,0)) ?_ ?_
   ·exact zLw
   rintro⟨j,u⟩ hj
   dsimp only at hj ⊢
   by_cases hjl:j<e.links.length
   rotate_left
   ·have hz:j=e.links.length:=oEw
    subst hz
    rw [List.take_length]
    have hle2:(e.links.filter Q).length≤1000:=Nat.le_trans (List.length_filter_le _ _) hel
    (repeat' (first|(refine K6 45 Z Z (by rw [List.length_map];omega) ?_)|refine Wz ?_|apply Wd <;>intro hh))
    all_goals (try exact oMw)
    exact A0 (i+1,v+1) (oDw) (oDw) (hh:=A1 (by dsimp only;rw [hrow];rfl) (A4 _))
   obtain⟨x,hx2⟩:=gex hjl
   have hm3:=O5 x.to st
   have hQx:Q x=hasI st x.to:=by rw [hQ]
   rw [← hQx] at hm3
   have hle2:((e.links.take j).filter Q).length≤1000:=Nat.le_trans (List.length_filter_le _ _) (by rw [List.length_take];omega)
   cases hq:Q x with
   | false=>
    rw [hq] at hm3
    (repeat' (first|refine iDw (gm hx2) ?_|refine G_x (B0 (ky:=.i (x.to)) Z Z Z Z Z Z Z (by exact(hm3))) Z Z ?_|refine Wz ?_|apply Wd <;>intro hh))
    all_goals (try exact oMw)
    exact A0 (j+1,u) (oDw) (oDw) (hh:=A1 (by dsimp only;rw [G1 hx2 hq];rfl) (A4 _))
   | true=>
    rw [hq] at hm3
    have hrow2:((e.links.take (j+1)).filter Q).map lkC=((e.links.take j).filter Q).map lkC++[lkC x]:=by rw [D9 hx2 hq];simp
    (repeat' (first|refine iDw (gm hx2) ?_|refine G_x (B0 (ky:=.i (x.to)) Z Z Z Z Z Z Z (by exact(hm3))) Z Z ?_|refine Wz ?_|apply Wd <;>intro hh))
    all_goals (try exact oMw)
    exact A0 (j+1,u+1) (oDw) (oDw) (hh:=A1 (by dsimp only;rw [hrow2];rfl) (A4 _))
  | false=>
   rw [hs] at hm2 hmm
   have hmm2:0=m2:=hmm
   subst hmm2
   (repeat' (first|refine iDw (gm hx) ?_|refine G_x (B0 (ky:=.i (e.id)) Z Z Z Z Z Z Z (by exact(hm1))) Z Z ?_|refine G_x (B0 (ky:=.i (e.main)) Z Z Z Z Z Z Z (by exact(hm2))) Z Z ?_|refine Wz ?_|refine Wb fun hb=>?_|apply Wd <;>intro hh))
   all_goals (try exact oMw)
   refine D0 8 8 220 2 Z Z ?_
   refine X_lp (ι:=Nat × Nat) 35180077122816 [8] (fun s=>[(8,.o 8 s.2),(32,.d (dI s.1))]) (fun s=>[(8,.ls 220 2 s.2 (((e.links.take s.1).filter Q).map lkC))]) (fun s=>s.1≤e.links.length) (fun s=>e.links.length-s.1) ((0,0)) ?_ ?_
   ·exact zLw
   rintro⟨j,u⟩ hj
   dsimp only at hj ⊢
   by_cases hjl:j<e.links.length
   rotate_left
   ·have hz:j=e.links.length:=oEw
    subst hz
    rw [List.take_length]
    have hle2:(e.links.filter Q).length≤1000:=Nat.le_trans (List.length_filter_le _ _) hel
    (repeat' (first|(refine K6 45 Z Z (by rw [List.length_map];omega) ?_)|refine Wz ?_|apply Wd <;>intro hh))
    all_goals (try exact oMw)
    exact A0 (i+1,v+1) (oDw) (oDw) (hh:=A1 (by dsimp only;rw [hrow];rfl) (A4 _))
   obtain⟨x,hx2⟩:=gex hjl
   have hm3:=O5 x.to st
   have hQx:Q x=hasI st x.to:=by rw [hQ]
   rw [← hQx] at hm3
   have hle2:((e.links.take j).filter Q).length≤1000:=Nat.le_trans (List.length_filter_le _ _) (by rw [List.length_take];omega)
   cases hq:Q x with
   | false=>
    rw [hq] at hm3
    (repeat' (first|refine iDw (gm hx2) ?_|refine G_x (B0 (ky:=.i (x.to)) Z Z Z Z Z Z Z (by exact(hm3))) Z Z ?_|refine Wz ?_|apply Wd <;>intro hh))
    all_goals (try exact oMw)
    exact A0 (j+1,u) (oDw) (oDw) (hh:=A1 (by dsimp only;rw [G1 hx2 hq];rfl) (A4 _))
   | true=>
    rw [hq] at hm3
    have hrow2:((e.links.take (j+1)).filter Q).map lkC=((e.links.take j).filter Q).map lkC++[lkC x]:=by rw [D9 hx2 hq];simp
    (repeat' (first|refine iDw (gm hx2) ?_|refine G_x (B0 (ky:=.i (x.to)) Z Z Z Z Z Z Z (by exact(hm3))) Z Z ?_|refine Wz ?_|apply Wd <;>intro hh))
    all_goals (try exact oMw)
    exact A0 (j+1,u+1) (oDw) (oDw) (hh:=A1 (by dsimp only;rw [hrow2];rfl) (A4 _))
end
end Go.Proofs.YtojadfppncgphaaGreatDoor