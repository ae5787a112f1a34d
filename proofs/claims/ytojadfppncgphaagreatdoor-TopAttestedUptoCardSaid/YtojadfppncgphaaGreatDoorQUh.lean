/- Own text. -/
import Derived.Test.YtojadfppncgphaaGreatDoorQUg
set_option linter.all false
set_option maxHeartbeats 16000000
set_option maxRecDepth 8000
namespace Go.Proofs.YtojadfppncgphaaGreatDoor
section
open Go.RowKit Go.En Go.Dl Go.Tp
theorem G4l (p : Prj)(st : List Int)(d : Doc) : (clrF p st d).rc = d.rc := by
 rw [B5y]
 have key:∀(l:List Int) (x:Doc),x.rc=d.rc→(l.foldl (clrU p st d.rc.id) x).rc=d.rc:=fun l=>by
  induction l with
  | nil=>exact fun x h=>h
  | cons k r ih=>
   intro x h
   rw [List.foldl_cons]
   refine ih _ ?_
   unfold clrU
   split
   ·exact h
   split
   ·exact h
   cases hy:O8 x k with
   | none=>exact h
   | some y=>
    show y.rc=d.rc
    rw [← h]
    unfold O8 at hy
    split at hy
    ·cases hy
    split at hy
    ·cases hy
    split at hy
    ·cases hy
    cases hy
    rfl
 exact key _ _ rfl
abbrev vD (p:Prj)(v:Vwr)(d:Doc):Doc:=clrF p (L8 p v) (redF d (D4 p.rgts d.rc v))
theorem D8w (p:Prj)(v:Vwr)(d:Doc):(vD p v d).rc=d.rc:=G4l p _ _
theorem vD_I {p:Prj}{v:Vwr}(F:PrjF p)(M:MorF p){d:Doc}(h:d∈p.docs):ClrI (redF d (D4 p.rgts d.rc v)) (vD p v d):=H0s (D4q (F.V.w.docs d h) _) (M.docs d h).rol
theorem vdoc {p:Prj}{v:Vwr}{x:Doc}(h:x∈L7 p v):∃ d∈p.docs,x=vD p v d:=by
 obtain⟨d,hd,rfl⟩:=List.mem_map.1 h
 exact⟨d,(List.mem_filter.1 hd).1,rfl⟩
theorem C7c {p:Prj}(F:PrjF p){d:Doc}(h:d∈p.docs):docF p.docs d.rc.id=some d:=T1 (g:=fun x:Doc=>x.rc.id) F.docs h
theorem G4i {p:Prj}{v:Vwr}(F:PrjF p){id:Int}{d:Doc}(h:docF p.docs id=some d)(hs:(D4 p.rgts d.rc v).length≠0):docF (L7 p v) id=some (vD p v d):=by
 have h1:=B9h (fun d=>decide ((D4 p.rgts d.rc v).length≠0)) p.docs F.docs id
 rw [h] at h1
 dsimp only at h1
 rw [decide_eq_true hs,if_pos rfl] at h1
 unfold L7 docF
 rw [List.find?_map]
 have e:((fun x:Doc=>decide (x.rc.id=id)) ∘ fun d=>clrF p (L8 p v) (redF d (D4 p.rgts d.rc v)))=fun x:Doc=>decide (x.rc.id=id):=by
  funext x
  show decide ((vD p v x).rc.id=id)=_
  rw [D8w]
 rw [e]
 have h2:(p.docs.filter fun d=>decide ((D4 p.rgts d.rc v).length≠0)).find? (fun x:Doc=>decide (x.rc.id=id))=some d:=h1
 rw [h2]
 rfl
theorem C0g {p:Prj}{v:Vwr}(F:PrjF p)(M:MorF p){x:Doc}(h:x∈L7 p v){n:Note}(hn:n∈x.notes)(ht:n.text≠[]):K7 p v ⟨x.rc.id,n.id⟩=true:=by
 obtain⟨d,hd,rfl⟩:=vdoc h
 have hs:=C8s ((vD_I (v:=v) F M hd).sub n hn) ht
 unfold K7
 rw [D8w]
 dsimp only
 rw [C7c F hd]
 exact hs
theorem vtext {p:Prj}{v:Vwr}(F:PrjF p)(M:MorF p):∀ x∈L7 p v,∀ n∈x.notes,n.text.length≤1000∧1≤n.id:=fun x hx n hn=>by
 obtain⟨d,hd,rfl⟩:=vdoc hx
 have h1:=(vD_I (v:=v) F M hd).sub n hn
 obtain⟨m,hm,rfl⟩:=List.mem_map.1 h1
 have hmd:=(List.mem_filter.1 hm).1
 have h2:=(F.D d hd).txt m hmd
 have h3:=(F.D d hd).pos m hmd
 unfold redN
 split
 ·exact⟨by omega,h3⟩
 ·exact⟨Nat.zero_le _,h3⟩
theorem vGD {p:Prj}{v:Vwr}(F:PrjF p)(M:MorF p):∀ x∈L7 p v,GD x:=fun x hx=>by
 obtain⟨d,hd,rfl⟩:=vdoc hx
 exact(vD_I F M hd).g
theorem vlen {p:Prj}{v:Vwr}(F:PrjF p):(L7 p v).length≤2:=by
 unfold L7
 rw [List.length_map]
 exact Nat.le_trans (List.length_filter_le _ _) F.nd
def vR (p:Prj)(v:Vwr)(e:Entr):List Rf:=remF p v (L7 p v) e.refs
theorem X5 (p:Prj)(v:Vwr):L6 p v=lgR (vR p v) (K8 p.lang (L8 p v)):=rfl
theorem C2z {p:Prj}{v:Vwr}(F:PrjF p):∀ e∈(L6 p v).lex,e.refs.length≤12:=fun e he=>by
 rw [X5] at he
 obtain⟨x,hx,rfl⟩:=List.mem_map.1 he
 obtain⟨y,hy,rfl⟩:=List.mem_map.1 hx
 have h1:=F.L.refs y (List.mem_filter.1 hy).1
 exact Nat.le_trans (List.length_filter_le _ _) (Nat.le_trans (List.length_filter_le _ _) h1)
theorem G4w {g:Lng}(h:LgS g)(R:Entr→List Rf):LgS (lgR R g) where
 segs:=h.segs
 rules:=h.rules
 steps:=h.steps
 final:=h.final
 lex:=by show(g.lex.map (reR R)).length≤100;rw [List.length_map];exact h.lex
 sens e he:=by obtain⟨x,hx,rfl⟩:=List.mem_map.1 he;exact h.sens x hx
 alts e he:=by obtain⟨x,hx,rfl⟩:=List.mem_map.1 he;exact h.alts x hx
 forms e he:=by obtain⟨x,hx,rfl⟩:=List.mem_map.1 he;exact h.forms x hx
theorem vLgS {p:Prj}{v:Vwr}(F:PrjF p):LgS (L6 p v):=by
 rw [X5];exact G4w (B0o F.V.w.lang _) _
theorem vlex {p:Prj}{v:Vwr}(F:PrjF p):(L6 p v).lex.length≤5:=by
 rw [X5]
 show(((p.lang.lex.filter fun e=>hasI (L8 p v) e.id).map (R9 (L8 p v))).map (reR (vR p v))).length≤5
 rw [List.length_map,List.length_map]
 exact Nat.le_trans (List.length_filter_le _ _) F.L.lex
theorem C0s {p:Prj}{v:Vwr}{r:Rf}{d:Doc}(hd:docF p.docs r.rcd=some d)(h:K7 p v r=true):Q7 d (D4 p.rgts d.rc v) r.note=true∧(D4 p.rgts d.rc v).length≠0:=by
 unfold K7 at h
 rw [hd] at h
 refine⟨h,fun e=>?_⟩
 have:D4 p.rgts d.rc v=[]:=List.eq_nil_of_length_eq_zero e
 dsimp only at h
 rw [this,B1p] at h
 cases h
theorem D7o {p:Prj}{v:Vwr}(F:PrjF p)(M:MorF p){id:Int}(h:∃ e∈(L6 p v).lex,e.id=id):(V2 (L7 p v) (L6 p v) id).length≠0:=by
 obtain⟨e0,he0,rfl⟩:=h
 have hsome:((L6 p v).lex.find? fun x=>decide (x.id=e0.id)).isSome=true:=List.find?_isSome.2 ⟨e0,he0,decide_eq_true rfl⟩
 obtain⟨e1,he1⟩:=Option.isSome_iff_exists.1 hsome
 have hge:getE (L6 p v).lex e0.id=some e1:=he1
 have hid:e1.id=e0.id:=by have:=List.find?_some he1;simpa using this
 have hm:=List.mem_of_find?_eq_some he1
 rw [X5] at hm
 obtain⟨e,he,rfl⟩:=List.mem_map.1 hm
 have hatt:=C8k he
 unfold A0k at hatt
 rw [List.any_eq_true] at hatt
 obtain⟨r,hr,hb⟩:=hatt
 rw [Bool.and_eq_true] at hb
 obtain⟨hsee,hat⟩:=hb
 unfold attP at hat
 rw [Bool.and_eq_true] at hat
 obtain⟨_,hcall⟩:=hat
 have hid':e.id=e0.id:=hid
 unfold B0b at hcall
 cases hd:docF p.docs r.rcd with
 | none=>rw [hd] at hcall;cases hcall
 | some d=>
  rw [hd] at hcall
  dsimp only at hcall
  cases hn:getN d.notes r.note with
  | none=>rw [hn] at hcall;cases hcall
  | some n=>
   rw [hn] at hcall
   dsimp only at hcall
   have htr:n.tier=H9 d.tiers 2:=Decidable.not_not.mp fun e=>by rw [if_pos e] at hcall;cases hcall
   rw [if_neg (fun e=>e htr)] at hcall
   have hrd:(A3s (K8 p.lang (L8 p v)).ortho.units n.text).2.2=0:=Decidable.not_not.mp fun e=>by rw [if_pos e] at hcall;cases hcall
   rw [if_neg (fun e=>e hrd)] at hcall
   dsimp only at hcall
   obtain⟨hsn,hsp⟩:=C0s hd hsee
   have hdm:=B9g hd
   have hnm:=H3 hn
   have I:=vD_I (v:=v) F M hdm
   have hgd:=F.V.w.docs d hdm
   have hin:n∈(redF d (D4 p.rgts d.rc v)).notes:=G3e hgd hnm.1 (by rw [hnm.2];exact hsn)
   have hin2:=I.word n hin htr
   have hgn:getN (vD p v d).notes r.note=some n:=by
    rw [← hnm.2]
    exact T1 (g:=fun y:Note=>y.id) I.g.ids hin2
   have hdv:=G4i F hd hsp
   have hti:(vD p v d).tiers=d.tiers:=I.tiers
   have hcv:B0b (L7 p v) (L6 p v) r=some (A3s (K8 p.lang (L8 p v)).ortho.units n.text).1:=by
    unfold B0b
    rw [hdv]
    dsimp only
    rw [hgn]
    dsimp only
    rw [hti,if_neg (fun e=>e htr)]
    show(if (A3s (K8 p.lang (L8 p v)).ortho.units n.text).2.2≠0 then none else some (A3s (K8 p.lang (L8 p v)).ortho.units n.text).1)=_
    rw [if_neg (fun e=>e hrd)]
   have hmem:r∈V2 (L7 p v) (L6 p v) e0.id:=by
    unfold V2
    rw [hge]
    refine List.mem_filter.2 ⟨?_,?_⟩
    ·show r∈remF p v (L7 p v) e.refs
     refine List.mem_filter.2 ⟨List.mem_filter.2 ⟨hr,hsee⟩,?_⟩
     unfold A0p
     rw [hdv]
     dsimp only
     rw [hgn];rfl
    ·unfold attP
     rw [hcv,Bool.and_eq_true]
     refine⟨by unfold hasE;rw [hge];rfl,?_⟩
     show A3m (L6 p v) _ e0.id=true
     rw [X5,D5r,← hid']
     exact hcall
   exact fun e=>by
    have:=List.eq_nil_of_length_eq_zero e
    rw [this] at hmem
    cases hmem
theorem C1l {p:Prj}{v:Vwr}{id:Int}{r:Rf}(h:r∈V2 (L7 p v) (L6 p v) id):K7 p v r=true:=by
 unfold V2 at h
 have h1:=(List.mem_filter.1 h).1
 cases hg:getE (L6 p v).lex id with
 | none=>rw [hg] at h1;cases h1
 | some e=>
  rw [hg] at h1
  have hm:=List.mem_of_find?_eq_some hg
  rw [X5] at hm
  obtain⟨x,_,rfl⟩:=List.mem_map.1 hm
  exact(List.mem_filter.1 (List.mem_filter.1 (show r∈remF p v (L7 p v) x.refs from h1)).1).2
theorem C7a {p:Prj}{v:Vwr}(F:PrjF p)(id:Int):(V2 (L7 p v) (L6 p v) id).length≤12:=by
 unfold V2
 refine Nat.le_trans (List.length_filter_le _ _) ?_
 cases hg:getE (L6 p v).lex id with
 | none=>exact Nat.zero_le _
 | some e=>exact C2z F e (List.mem_of_find?_eq_some hg)
theorem B7v {g : Lng}{x : Int} : ∀ (l : List Entr) (st : List Int × List Tx), x ∈ (l.foldl (ordS g) st).1 → x ∈ st.1 ∨ ∃ e ∈ l, e.id = x
 | [],_,h=>.inl h
 | e :: r, st, h => by
  rw [List.foldl_cons] at h
  rcases B7v r _ h with h|⟨y,hy,rfl⟩
  ·unfold ordS at h
   dsimp only at h
   rcases List.mem_append.1 h with h|h
   ·exact .inl (List.mem_of_mem_take h)
   ·rcases List.mem_cons.1 h with rfl|h
    ·exact .inr ⟨e,List.mem_cons_self ..,rfl⟩
    ·exact .inl (List.mem_of_mem_drop h)
  ·exact .inr ⟨y,List.mem_cons_of_mem _ hy,rfl⟩
theorem D6q {g:Lng}{x:Int}(h:x∈ordE g):∃ e∈g.lex,e.id=x:=by
 rcases B7v g.lex ([],[]) h with h|h
 ·cases h
 ·exact h
theorem B7w {g:Lng}:∀(l:List Entr) (st:List Int × List Tx),(l.foldl (ordS g) st).1.length=st.1.length+l.length
 | [],_=>rfl
 | e::r,st=>by
  rw [List.foldl_cons,B7w r,(B7x st e).1,List.length_cons];omega
theorem D6r (g:Lng):(ordE g).length=g.lex.length:=by
 unfold ordE
 rw [B7w];simp
theorem C9q {x r:Rf}{out:List Rf}(h:x∈numR out r):x∈out∨x=r:=by
 unfold numR at h
 split at h
 ·exact .inl h
 ·rcases List.mem_append.1 h with h|h
  ·exact .inl h
  ·exact .inr (List.mem_singleton.1 h)
theorem B2e {x:Rf}:∀(l out:List Rf),x∈l.foldl numR out→x∈out∨x∈l
 | [],_,h=>.inl h
 | r :: q, out, h => by
  rw [List.foldl_cons] at h
  rcases B2e q _ h with h|h
  ·rcases C9q h with h|rfl
   ·exact .inl h
   ·exact .inr (List.mem_cons_self ..)
  ·exact .inr (List.mem_cons_of_mem _ h)
theorem B2g {x:Rf}:∀(l:List Pnt) (out:List Rf),x∈l.foldl numP out→x∈out∨∃ q∈l,x∈q.refs
 | [],_,h=>.inl h
 | q :: l, out, h => by
  rw [List.foldl_cons] at h
  rcases B2g l _ h with h|⟨y,hy,h⟩
  ·rcases B2e q.refs out h with h|h
   ·exact .inl h
   ·exact .inr ⟨q,List.mem_cons_self ..,h⟩
  ·exact .inr ⟨y,List.mem_cons_of_mem _ hy,h⟩
theorem B2h:∀(l:List Pnt) (out:List Rf),(∀ q∈l,q.refs.length≤1000)→(l.foldl numP out).length≤out.length+l.length*1000
 | [],_,_=>Nat.le_refl _
 | q::l,out,h=>by
  have h1:=B2h l (numP out q) fun y hy=>h y (List.mem_cons_of_mem _ hy)
  have h2:(numP out q).length≤out.length+q.refs.length:=B2f q.refs out
  have h3:=h q (List.mem_cons_self ..)
  rw [List.foldl_cons,List.length_cons];omega
theorem D9i {p:Prj}{v:Vwr}{q:Pnt}(h:q∈(P1 p v).pnts):∃ y∈p.pnts,q.refs=remF p v (L7 p v) y.refs:=by
 have h1:=(List.mem_filter.1 h).1
 obtain⟨y,hy,rfl⟩:=List.mem_map.1 h1
 exact⟨y,hy,rfl⟩
theorem C3f {p:Prj}{v:Vwr}(F:PrjF p):(P1 p v).pnts.length≤4∧∀ q∈(P1 p v).pnts,q.refs.length≤1000:=by
 refine⟨?_,fun q hq=>?_⟩
 ·show((p.pnts.map (vPnt p v)).filter fun x=>decide (x.refs.length≠0)).length≤4
  refine Nat.le_trans (List.length_filter_le _ _) ?_
  rw [List.length_map];exact F.np
 ·obtain⟨y,hy,e⟩:=D9i hq
  rw [e]
  exact Nat.le_trans (List.length_filter_le _ _) (Nat.le_trans (List.length_filter_le _ _) (F.V.prefs y hy))
theorem C9p {p:Prj}{v:Vwr}{r:Rf}(h:r∈numF (P1 p v).pnts):K7 p v r=true:=by
 rcases B2g _ _ h with h|⟨q,hq,h⟩
 ·cases h
 ·obtain⟨y,_,e⟩:=D9i hq
  rw [e] at h
  exact(List.mem_filter.1 (List.mem_filter.1 h).1).2
theorem D6t {p:Prj}{v:Vwr}(F:PrjF p):(numF (P1 p v).pnts).length≤4000:=by
 obtain⟨h1,h2⟩:=C3f (v:=v) F
 have:=B2h (P1 p v).pnts [] h2
 unfold numF
 simp only [List.length_nil] at this
 omega
theorem D1c {p:Prj}{v:Vwr}(F:PrjF p)(M:MorF p){x:Doc}(h:x∈L7 p v){ids:List Int}{t:Hit}(ht:t∈ids.filterMap (hitF x))(hk:t.key≠[]):K7 p v t.ref=true:=by
 obtain⟨id,_,hi⟩:=List.mem_filterMap.1 ht
 unfold hitF at hi
 cases hn:getN x.notes id with
 | none=>rw [hn] at hi;cases hi
 | some n=>
  rw [hn,Option.map_some] at hi
  cases hi
  have hm:=H3 hn
  have:=C0g F M h hm.1 hk
  rw [hm.2] at this
  exact this
theorem vlgw {p:Prj}{v:Vwr}(M:MorF p):LgW (L6 p v):=⟨M.lgw.units,M.lgw.nu,M.lgw.names,M.lgw.ns⟩
theorem vforms {p:Prj}{v:Vwr}(F:PrjF p):∀ e∈(L6 p v).lex,e.form.length≤1000:=fun e he=>((vLgS (v:=v) F).forms e he e.form (List.mem_cons_self ..)).1
theorem C8c:∀ {l:List (List Tx)} {x:List Tx},x∈l→x.length≤ttl l
 | [],_,h=>by cases h
 | y::r,x,h=>by
  rw [B7d]
  rcases List.mem_cons.1 h with rfl|h
  ·omega
  ·have:=C8c h;omega
theorem vorw {p:Prj}{v:Vwr}(M:MorF p)(hS:PrjS p):OrW (L6 p v).ortho:=⟨M.nl,fun l hl=>Nat.le_trans (C8c hl) hS.lang.s5⟩
theorem G3h {d:Doc}(hg:GD d)(K:Nat)(t:Int):(ofR d K t).length≤14:=by
 unfold ofR
 rw [List.length_map,S0]
 exact Nat.le_trans (List.length_filter_le _ _) hg.nn
end
section
open Go.RowKit Go.En Go.Dl Go.Tp
attribute [local irreducible] X XL XW XG XK Val LS Fp Fo Calls bodyPost Code.wp
theorem law4 (p:Prj)(v:Vwr)(hS:PrjS p):Fp Tryz.prog 4 [.g (prjC p),.g (vwrC v)] (dB true):=by
 have e5:=c5 p hS
 cases hL:prjL p with
 | false=>
  rw [hL] at e5
  refine fXw Tryz.func4 Tryz.ntmps4 fun c hM=>?_
  (repeat' (first|refine cDw en5 e5 ?_|refine cDw en6 c6 ?_|refine Wz ?_|fail))
  all_goals (try exact oMw)
  all_goals exact rXw hM
 | true=>
 rw [hL] at e5
 have F:=C0y hL
 have M:=G3n hL
 have hrg:=F.V.w.rg
 have hGr:GrS p.rgts.groups:=⟨hS.subs,hrg.grps,hrg.ppl⟩
 have hru:=hrg.ruls
 have c1:=c10 p v F.V
 have hlx:=vlex (v:=v) F
 have c2:=c11 (L6 p v) (vlgw M) (vorw M hS) oEw (vforms F)
 have hpl:=C3f (v:=v) F
 have c3:=c12o (P1 p v).pnts oEw hpl.2
 have hnum:=fun r hr=>C9p (p:=p) (v:=v) (r:=r) hr
 have hnl:=D6t (v:=v) F
 have hI0:∀ x∈ordE (L6 p v),(V2 (L7 p v) (L6 p v) x).length≠0:=fun x hx=>D7o F M (D6q hx)
 have hE0:=fun x r hr=>C1l (p:=p) (v:=v) (id:=x) (r:=r) hr
 have hEl:=C7a (v:=v) F
 have hgd:=vGD (v:=v) F M
 have htx:=vtext (v:=v) F M
 have hdl:=vlen (v:=v) F
 have c13a:=fun x=>c13 (L7 p v) (L6 p v) x (vLgS F) F.V.w.orth (fun d hd n hn=>(htx d hd n hn).1) (fun e he=>by have:=C2z F e he;omega)
 have hhit:=fun d hd ids t ht hk=>D1c (v:=v) F M (x:=d) hd (ids:=ids) (t:=t) ht hk
 have hIl:=D6r (L6 p v)
 have hlang:(P1 p v).lang=L6 p v:=rfl
 have hdocs:(P1 p v).docs=L7 p v:=rfl
 obtain⟨Q,hQ⟩:∃ Q,P1 p v=Q:=⟨_,rfl⟩
 rw [hQ] at c1 c3 hnum hnl hlang hdocs
 rw [← hlang] at c2 hI0 hE0 hEl c13a hIl hlx
 rw [← hdocs] at hI0 hE0 hEl c13a hgd htx hdl hhit
 clear hlang hdocs hQ hpl
 obtain⟨I,hI⟩:∃ I,ordE Q.lang=I:=⟨_,rfl⟩
 rw [hI] at c2 hI0 hIl
 obtain⟨Nm,hN⟩:∃ Nm,numF Q.pnts=Nm:=⟨_,rfl⟩
 rw [hN] at c3 hnum hnl
 refine fXw Tryz.func4 Tryz.ntmps4 fun c hM=>?_
 (repeat' (first|refine cDw en5 e5 ?_|refine cDw en10 c1 ?_|refine cDw en11 c2 ?_|refine G_c (B4 [(904,904)] (c3) Z Z Z Z tRw en12) Z Z Z ?_|refine Wz ?_|fail))
 all_goals (try exact oMw)
 refine X_lp (ι:=Nat × List Rf × Nat) 9007194959774608 [904] (fun s=>[(7,.o 904 s.2.2),(8,.d (dI s.1))]) (fun s=>[(904,.ls 77 2 s.2.2 (s.2.1.map rfC))]) (fun s=>s.1≤I.length∧(∀ r∈s.2.1,K7 p v r=true)∧s.2.1.length≤4000+s.1*12) (fun s=>I.length-s.1) ((0,Nm,Nm.length)) ?_ ?_
 ·exact⟨zLw,hnum,oDw⟩
 rintro⟨i,L,u⟩ ⟨hi,hL1,hl⟩
 dsimp only at hi hL1 hl ⊢
 by_cases hlt:i<I.length
 ·obtain⟨x,hx⟩:=gex hlt
  have hne:=hI0 x (List.mem_of_getElem? hx)
  have c4:=c13a x
  have hs:=hE0 x
  have hel:=hEl x
  obtain⟨E,hE⟩:∃ E,V2 Q.docs Q.lang x=E:=⟨_,rfl⟩
  rw [hE] at hne c4 hs hel
  (repeat' (first|refine iDw (gm hx) ?_|refine cDw en13 c4 ?_|refine Wz ?_|refine Wb fun hb=>?_|apply Wd <;>intro hh))
  all_goals (try exact oMw)
  exact A0 (i+1,L++E,u+1) ⟨oDw,fun r hr=>(List.mem_append.1 hr).elim (hL1 r) (hs r),by dsimp only;rw [List.length_append];omega⟩ (oDw) (hh:=A1 (by dsimp only;rw [List.map_append];rfl) (A4 _)) (hh':=hSw)
 have hz:i=I.length:=oEw
 subst hz
 (repeat' (first|refine Wz ?_|refine Wb fun hb=>?_|apply Wd <;>intro hh))
 all_goals (try exact oMw)
 refine X_lp (ι:=Nat × List Rf × Nat) 5070602400912908598787558096000 [904] (fun s=>[(7,.o 904 s.2.2),(10,.d (dI s.1))]) (fun s=>[(904,.ls 77 2 s.2.2 (s.2.1.map rfC))]) (fun s=>s.1≤Q.docs.length∧(∀ r∈s.2.1,K7 p v r=true)∧s.2.1.length≤4060+s.1*14) (fun s=>Q.docs.length-s.1) ((0,L,u)) ?_ ?_
 ·exact⟨zLw,hL1,oDw⟩
 rintro⟨k,L2,u2⟩ ⟨hk,hL2,hl2⟩
 dsimp only at hk hL2 hl2 ⊢
 by_cases hkl:k<Q.docs.length
 ·obtain⟨d,hd⟩:=gex hkl
  have hdm:=List.mem_of_getElem? hd
  have ct:=c14 d.tiers 2
  obtain⟨t,ht⟩:∃ t,ixF (fun x:Tier=>decide ((2:Int)≠0)&&decide (x.role=2)) d.tiers 0=t:=⟨_,rfl⟩
  rw [ht] at ct
  by_cases htn:t<0
  ·(repeat' (first|refine iDw (gm hd) ?_|refine cDw en14 ct ?_|refine Wz ?_|refine Wb fun hb=>?_|apply Wd <;>intro hh))
   all_goals (try exact oMw)
   exact A0 (k+1,L2,u2) ⟨oDw,hL2,oDw⟩ (oDw) (hh':=hSw)
  have c5':=c16 d t (hgd d hdm) (fun n hn=>(htx d hdm n hn).2)
  have hol:=G3h (hgd d hdm) 20 t
  obtain⟨O,hO⟩:∃ O,ofR d 20 t=O:=⟨_,rfl⟩
  rw [hO] at c5' hol
  have c6':=c15 d O (hgd d hdm) oEw
  have hhs:=hhit d hdm O
  have hHl:=List.length_filterMap_le (hitF d) O
  obtain⟨Hs,hHs⟩:∃ Hs,O.filterMap (hitF d)=Hs:=⟨_,rfl⟩
  rw [hHs] at c6' hhs hHl
  (repeat' (first|refine iDw (gm hd) ?_|refine cDw en14 ct ?_|refine cDw en16 c5' ?_|refine cDw en15 c6' ?_|refine Wz ?_|refine Wb fun hb=>?_|apply Wd <;>intro hh))
  all_goals (try exact oMw)
  refine X_lp (ι:=Nat × List Rf × Nat) 5070597565209639147470114005120 [904] (fun s=>[(7,.o 904 s.2.2),(13,.d (dI s.1))]) (fun s=>[(904,.ls 77 2 s.2.2 (s.2.1.map rfC))]) (fun s=>s.1≤Hs.length∧(∀ r∈s.2.1,K7 p v r=true)∧s.2.1.length≤4060+k*14+s.1) (fun s=>Hs.length-s.1) ((0,L2,u2)) ?_ ?_
  ·exact⟨zLw,hL2,oDw⟩
  rintro⟨j,L3,u3⟩ ⟨hj,hL3,hl3⟩
  dsimp only at hj hL3 hl3 ⊢
  by_cases hjl:j<Hs.length
  ·obtain⟨y,hy⟩:=gex hjl
   have hyk:=hhs y (List.mem_of_getElem? hy)
   by_cases hkey:y.key=[]
   ·(repeat' (first|refine iDw (gm hy) ?_|refine Wz ?_|refine Wb fun hb=>?_|apply Wd <;>intro hh))
    all_goals (first|(exfalso;omega)|(exfalso;exact absurd hkey (by assumption))|skip)
    exact A0 (j+1,L3,u3) ⟨oDw,hL3,oDw⟩ (oDw) (hh':=hSw)
   ·(repeat' (first|refine iDw (gm hy) ?_|refine Wz ?_|refine Wb fun hb=>?_|apply Wd <;>intro hh))
    all_goals (first|(exfalso;omega)|(exfalso;simp_all;done)|skip)
    exact A0 (j+1,L3++[y.ref],u3+1) ⟨oDw,fun r hr=>(List.mem_append.1 hr).elim (hL3 r) (fun e=>by rw [List.mem_singleton.1 e];exact hyk hkey),by dsimp only;rw [List.length_append];simp only [List.length_cons,List.length_nil];omega⟩ (oDw) (hh:=A1 (by dsimp only;rw [List.map_append];rfl) (A4 _)) (hh':=hSw)
  ·have hz:j=Hs.length:=oEw
   subst hz
   (repeat' (first|refine Wz ?_|refine Wb fun hb=>?_|apply Wd <;>intro hh))
   all_goals (try exact oMw)
   exact A0 (k+1,L3,u3) ⟨oDw,hL3,oDw⟩ (oDw) (hh':=hSw)
 have hz:k=Q.docs.length:=oEw
 subst hz
 (repeat' ((fail_if_success (refine H7 (x:=(Code.region 24 _ _)) ?_));first|refine Wz ?_|refine Wb fun hb=>?_|refine Wd (fun hh=>?_) fun hh=>?_))
 all_goals (try exact oMw)
 apply B0h 7
 ·exact rfl
 ·exact rfl
 ·(rw [List.length_map];omega)
 (repeat' (first|refine Wz ?_|fail))
 refine X_lp (ι:=Nat) 374144419156711147055072714774455535425931918688272 [] (fun i=>[(14,.d (dI i))]) (fun _=>[]) (fun i=>i≤L2.length) (fun i=>L2.length-i) (0) ?_ ?_
 ·exact zLw
 rintro m hm
 by_cases hml:m<L2.length
 ·obtain⟨r,hr⟩:=gex hml
  obtain⟨d,s,h1,h2,h3,h4,h5,h6⟩:=D6d M (hL2 r (List.mem_of_getElem? hr))
  have k1:=c17 p.docs r F.V.w.docs
  rw [h2] at k1
  have k2:=c18 p.docs r.rcd
  rw [show(p.docs.find? fun x=>decide (x.rc.id=r.rcd))=some d from h1] at k2
  have k3:=c19 p.rgts d.rc s v hrg
  rw [h3] at k3
  have k4:=c20 p.rgts d.rc s v hGr hru
  rw [h4] at k4
  (repeat' (first|refine iDw (gm hr) ?_|refine cDw en17 k1 ?_|refine cDw en18 k2 ?_|refine cDw en19 k3 ?_|refine cDw en20 k4 ?_|refine Wz ?_|refine Wb fun hb=>?_|apply Wd <;>intro hh))
  all_goals (try exact oMw)
  exact A0 (m+1) oEw oEw (hh':=hSw)
 ·(repeat' (first|refine cDw en6 c6 ?_|refine Wz ?_|refine Wb fun hb=>?_|apply Wd <;>intro hh))
  all_goals (try exact oMw)
  exact rXw hM
end
end Go.Proofs.YtojadfppncgphaaGreatDoor