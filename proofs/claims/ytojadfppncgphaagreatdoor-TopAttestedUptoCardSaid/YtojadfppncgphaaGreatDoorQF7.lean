/- Own text. -/
import Derived.Test.YtojadfppncgphaaGreatDoorQY2
set_option linter.all false
set_option maxHeartbeats 16000000
set_option maxRecDepth 8000
namespace Go.Proofs.YtojadfppncgphaaGreatDoor
open Go.RowKit Go.En Go.Dl Go.Tp
structure PrV (p:Prj):Prop where
 w:PrW p
 x:LgX p.lang
 refs:∀ e∈p.lang.lex,e.refs.length≤1000
 prefs:∀ q∈p.pnts,q.refs.length≤1000
 ents:∀ q∈p.pnts,q.entries.length≤1000
 nd:p.docs.length≤100000
 nc:p.dcns.length≤100000
 np:p.pnts.length≤100000
theorem D4q {d:Doc}(hg:GD d)(sp:List Spn):GD (redF d sp):=by
 refine D4p hg _ ?_ ?_ ?_
 rotate_right
 ·have e:((d.notes.filter fun n=>hasI (A6m d sp) n.id).map (redN d sp)).map (·.id)=(d.notes.filter fun n=>hasI (A6m d sp) n.id).map (·.id):=by
   rw [List.map_map]
   congr 1
   funext n
   show(redN d sp n).id=n.id
   unfold redN
   split <;> rfl
  rw [e]
  exact A9g hg.ids _
 ·rw [List.length_map];exact List.length_filter_le _ _
 ·intro n hn
  obtain⟨m,hm,rfl⟩:=List.mem_map.mp hn
  refine⟨m,(List.mem_filter.mp hm).1,?_⟩
  unfold redN
  split <;> exact⟨rfl,rfl,rfl⟩
theorem D6z {α:Type}{l:List α}{f:α→α}{i:Nat}{e:α}(h:l[i]?=some e):((l.take i).map f++l.drop i)[i]?=some e:=by
 have hl:i<l.length:=(List.getElem?_eq_some_iff.mp h).1
 have h1:((l.take i).map f).length=i:=by rw [List.length_map,List.length_take];omega
 rw [List.getElem?_append_right oEw,h1,Nat.sub_self,drp h];rfl
theorem D6y {α:Type}{l:List α}{f:α→α}{i:Nat}{e:α}(h:l[i]?=some e):((l.take i).map f++l.drop i).set i (f e)=(l.take (i+1)).map f++l.drop (i+1):=by
 have hl:i<l.length:=(List.getElem?_eq_some_iff.mp h).1
 have h1:((l.take i).map f).length=i:=by rw [List.length_map,List.length_take];omega
 rw [List.set_append_right _ _ oEw,h1,Nat.sub_self,drp h,List.set_cons_zero,List.take_add_one,h];simp
theorem C6o {g:Lng}(h:∀ e∈g.lex,e.refs.length≤1000)(s:List Int):∀ e∈(K8 g s).lex,e.refs.length≤1000:=by
 intro e he
 obtain⟨a,ha,rfl⟩:=List.mem_map.mp (show e∈(g.lex.filter fun e=>hasI s e.id).map (R9 s) from he)
 exact h a (List.mem_filter.mp ha).1
theorem C7s (p:Prj)(v:Vwr){S:List Int}{g:Lng}{D:List Doc}(hS:L8 p v=S)(hg:K8 p.lang S=g)(hD:((p.docs.filter fun d=>decide ((D4 p.rgts d.rc v).length≠0)).map fun d=>clrF p S (redF d (D4 p.rgts d.rc v)))=D) :
  P1 p v={ lang:={ g with lex:=g.lex.map fun e=>{ e with refs:=remF p v D e.refs } },docs:=D,dcns:=p.dcns.filter fun d=>decide ((remF p v D [d.ref]).length≠0)&&T6 d.pick S,pnts:=(p.pnts.map fun x=>{ x with refs:=remF p v D x.refs,entries:=x.entries.filter fun i=>hasI S i }).filter fun x=>decide (x.refs.length≠0),rgts:=p.rgts }:=by
 subst hS;subst hg;subst hD;rfl
abbrev vwB (g:Lng)(r:Rgts)(l dd dc pp:Lf):Ob:=.box 47 (((lngC g).take 8).map .d++[l,dd,dc,pp]++(V7 r).map .d)
abbrev nilL:Lf:=.d (.v (.slice none 0 0))
attribute [local irreducible] X XL XW XG XK Val LS Fp Fo Calls bodyPost Code.wp
theorem c10 (p:Prj)(v:Vwr)(hp:PrV p):Fp Tryz.prog 10 [.g (prjC p),.g (vwrC v)] (.g (prjC (P1 p v))):=by
 have c1:=c39 p v hp.w hp.x
 obtain⟨S,hS⟩:∃ S,L8 p v=S:=⟨_,rfl⟩
 have c2:=c40o p.lang S (by have:=hp.w.lang.lex;omega) hp.x.links
 have hgr:=C6o hp.refs S
 have hgl:=B0o hp.w.lang S
 rw [hS] at c1
 obtain⟨g,hg⟩:∃ g,K8 p.lang S=g:=⟨_,rfl⟩
 rw [hg] at c2 hgr hgl
 have hgn:=hgl.lex
 have hnd:=hp.nd
 have hnc:=hp.nc
 have hnp:=hp.np
 obtain⟨q,hq⟩:∃ q:Doc→Bool,q=fun d=>decide ((D4 p.rgts d.rc v).length≠0):=⟨_,rfl⟩
 obtain⟨f,hf⟩:∃ f:Doc→Doc,f=fun d=>clrF p S (redF d (D4 p.rgts d.rc v)):=⟨_,rfl⟩
 obtain⟨D,hD⟩:∃ D,(p.docs.filter q).map f=D:=⟨_,rfl⟩
 have hD2:=hD
 rw [hq,hf] at hD2
 rw [C7s p v hS hg hD2]
 clear hD2
 obtain⟨fE,hfE⟩:∃ fE:Entr→Entr,fE=fun e=>{ e with refs:=remF p v D e.refs }:=⟨_,rfl⟩
 obtain⟨q3,hq3⟩:∃ q3:Dcn→Bool,q3=fun d=>decide ((remF p v D [d.ref]).length≠0)&&T6 d.pick S:=⟨_,rfl⟩
 obtain⟨f4,hf4⟩:∃ f4:Pnt→Pnt,f4=fun x=>{ x with refs:=remF p v D x.refs,entries:=x.entries.filter fun i=>hasI S i }:=⟨_,rfl⟩
 obtain⟨q4,hq4⟩:∃ q4:Pnt→Bool,q4=fun x=>decide (x.refs.length≠0):=⟨_,rfl⟩
 rw [← hfE,← hq3,← hf4,← hq4]
 refine fXw Tryz.func10 Tryz.ntmps10 fun c hM=>?_
 (repeat' (first|refine G_c (B4 [(15,905)] (c1) Z Z Z Z tRw en39) Z Z Z ?_|refine G_c (B4 [(1000,905),(5,906)] (c2) Z Z Z Z tRw en40) Z Z Z ?_|refine Wz ?_|refine Wb fun hb=>?_))
 all_goals (try exact oMw)
 refine A4w 6 9 901 62 7 Z Z Z Z Z ?_
 refine X_lp (ι:=Nat × Nat) 18014396361999104 [6,901] (fun s=>[(31,.d (dI s.1))]) (fun s=>[(6,vwB g p.rgts (.o 906 g.lex.length) (.o 901 s.2) nilL nilL),(901,.ls 62 7 s.2 ((((p.docs.take s.1).filter q).map f).map docC))]) (fun s=>s.1≤p.docs.length) (fun s=>p.docs.length-s.1) ((0,0)) ?_ ?_
 ·exact zLw
 rintro⟨i,m⟩ hi
 dsimp only at hi ⊢
 by_cases hlt:i<p.docs.length
 ·obtain⟨d,hx⟩:=gex hlt
  have c4:=c41 p v d hp.w.rg
  have hgd:=hp.w.docs d (List.mem_of_getElem? hx)
  have hsl:=A2u hp.w.rg d.rc v
  have hqd:q d=decide ((D4 p.rgts d.rc v).length≠0):=by rw [hq]
  have hfd:f d=clrF p S (redF d (D4 p.rgts d.rc v)):=by rw [hf]
  obtain⟨sp,hsp⟩:∃ sp,D4 p.rgts d.rc v=sp:=⟨_,rfl⟩
  rw [hsp] at c4 hsl hqd hfd
  by_cases h0:sp.length=0
  ·have hbq:q d=false:=by rw [hqd];simp [h0]
   (repeat' (first|refine iDw (gm hx) ?_|refine cDw en41 c4 ?_|refine Wz ?_|refine Wb fun hb=>?_|apply Wd <;>intro hh))
   all_goals (try exact oMw)
   exact A0 (i+1,m) (oDw) (oDw) (hh:=A1 Z (A1 (by dsimp only;rw [G1 hx hbq];rfl) (A4 _))) (hh':=hSw)
  ·have hbq:q d=true:=by rw [hqd];simp [h0]
   have c5:=c43 d sp hgd hsl
   have c6:=c42 p S (redF d sp) (D4q hgd sp)
   rw [← hfd] at c6
   have hrow:(((p.docs.take (i+1)).filter q).map f).map docC=(((p.docs.take i).filter q).map f).map docC++[docC (f d)]:=by rw [D9 hx hbq];simp
   have hle:((p.docs.take i).filter q).length≤i:=Nat.le_trans (List.length_filter_le _ _) (by rw [List.length_take];omega)
   (repeat' (first|refine iDw (gm hx) ?_|refine cDw en41 c4 ?_|refine cDw en43 c5 ?_|refine G_c (B4 [(1000,905)] (c6) Z Z Z Z tRw en42) Z Z Z ?_|refine Wz ?_|refine Wb fun hb=>?_|apply Wd <;>intro hh))
   all_goals (try exact oMw)
   exact A0 (i+1,m+1) (oDw) (oDw) (hh:=A1 Z (A1 (by dsimp only;rw [hrow];rfl) (A4 _))) (hh':=hSw)
 have hz:i=p.docs.length:=oEw
 subst hz
 rw [List.take_length,hD]
 have hDl:D.length≤p.docs.length:=by rw [← hD,List.length_map];exact List.length_filter_le _ _
 (repeat' (first|refine Wz ?_|apply Wd <;>intro hh))
 all_goals (try exact oMw)
 refine A0b 6 9 Z Z Z (by rw [List.length_map];omega) ?_
 refine X_lp (ι:=Nat) 1208925531384253022995456 [906] (fun i=>[(58,.d (dI i))]) (fun i=>[(906,.ls 99 8 g.lex.length (((g.lex.take i).map fE++g.lex.drop i).map entC))]) (fun i=>i≤g.lex.length) (fun i=>g.lex.length-i) (0) ?_ ?_
 ·exact zLw
 rintro i hi
 by_cases hlt:i<g.lex.length
 ·obtain⟨e,hx⟩:=gex hlt
  have hm:=D6z (f:=fE) hx
  have hms:=D6y (f:=fE) hx
  have c4:=c44 p v D e.refs hp.w (hgr e (List.mem_of_getElem? hx))
  have hml:((g.lex.take i).map fE++g.lex.drop i).length=g.lex.length:=by rw [List.length_append,List.length_map,List.length_take,List.length_drop];omega
  have hfe:fE e={ e with refs:=remF p v D e.refs }:=by rw [hfE]
  obtain⟨M,hM2⟩:∃ M,(g.lex.take i).map fE++g.lex.drop i=M:=⟨_,rfl⟩
  rw [hM2] at hm hms hml ⊢
  (repeat' (first|refine G_x (A8 (m:=i) Z Z Z Z (by first|rfl|omega) lOw) Z Z ?_|refine G_x (M6 (m:=i) (j:=7) Z Z Z Z (by first|rfl|omega) (gm hm) rfl) Z Z ?_|refine cDw en44 c4 ?_|refine G_s (N1 (m:=i) (j:=7) (q':={ e with refs:=remF p v D e.refs }) Z Z Z Z Z Z (by first|rfl|omega) hm (by decide) rfl) Z Z Z ?_|refine Wz ?_|refine Wb fun hb=>?_|apply Wd <;>intro hh))
  all_goals (try exact oMw)
  exact A0 (i+1) oEw oEw (hh:=A1 (by rw [← hms,hfe];rfl) (A4 _)) (hh':=hSw)
 have hz:i=g.lex.length:=oEw
 subst hz
 rw [List.take_length,List.drop_eq_nil_of_le (Nat.le_refl _),List.append_nil]
 (repeat' (first|refine Wz ?_|refine Wb fun hb=>?_|apply Wd <;>intro hh))
 all_goals (try exact oMw)
 refine A0b 6 8 Z Z Z (by rw [List.length_map,List.length_map];omega) ?_
 refine A4w 6 10 902 127 4 Z Z Z Z Z ?_
 refine X_lp (ι:=Nat × Nat) 1298074204962300350215590684659712 [6,902] (fun s=>[(83,.d (dI s.1))]) (fun s=>[(6,vwB g p.rgts (.d (.s 8 ((g.lex.map fE).map entC))) (.d (docs D)) (.o 902 s.2) nilL),(902,.ls 127 4 s.2 (((p.dcns.take s.1).filter q3).map dcnC))]) (fun s=>s.1≤p.dcns.length) (fun s=>p.dcns.length-s.1) ((0,0)) ?_ ?_
 ·exact zLw
 rintro⟨i,m⟩ hi
 dsimp only at hi ⊢
 by_cases hlt:i<p.dcns.length
 ·obtain⟨d,hx⟩:=gex hlt
  have c4:=c44 p v D [d.ref] hp.w (by rw [List.length_singleton];decide)
  have c5:=c45 d.pick S
  have hqd:q3 d=(decide ((remF p v D [d.ref]).length≠0)&&T6 d.pick S):=by rw [hq3]
  obtain⟨rs,hrs⟩:∃ rs,remF p v D [d.ref]=rs:=⟨_,rfl⟩
  rw [hrs] at c4 hqd
  have hle:((p.dcns.take i).filter q3).length≤i:=Nat.le_trans (List.length_filter_le _ _) (by rw [List.length_take];omega)
  by_cases h0:rs.length=0
  ·have hbq:q3 d=false:=by rw [hqd];simp [h0]
   (repeat' (first|refine iDw (gm hx) ?_|refine cDw en44 c4 ?_|refine Wz ?_|refine Wb fun hb=>?_|apply Wd <;>intro hh))
   all_goals (try exact oMw)
   exact A0 (i+1,m) (oDw) (oDw) (hh:=A1 Z (A1 (by dsimp only;rw [G1 hx hbq];rfl) (A4 _))) (hh':=hSw)
  cases hu:T6 d.pick S with
  | false=>
   rw [hu] at c5 hqd
   have hbq:q3 d=false:=by rw [hqd,Bool.and_false]
   (repeat' (first|refine iDw (gm hx) ?_|refine cDw en44 c4 ?_|refine G_c (B4 [(1000,905)] (c5) Z Z Z Z tRw en45) Z Z Z ?_|refine Wz ?_|refine Wb fun hb=>?_|apply Wd <;>intro hh))
   all_goals (try exact oMw)
   exact A0 (i+1,m) (oDw) (oDw) (hh:=A1 Z (A1 (by dsimp only;rw [G1 hx hbq];rfl) (A4 _))) (hh':=hSw)
  | true=>
   rw [hu] at c5 hqd
   have hbq:q3 d=true:=by rw [hqd];simp [h0]
   have hrow:((p.dcns.take (i+1)).filter q3).map dcnC=((p.dcns.take i).filter q3).map dcnC++[dcnC d]:=by rw [D9 hx hbq];simp
   (repeat' (first|refine iDw (gm hx) ?_|refine cDw en44 c4 ?_|refine G_c (B4 [(1000,905)] (c5) Z Z Z Z tRw en45) Z Z Z ?_|refine Wz ?_|refine Wb fun hb=>?_|apply Wd <;>intro hh))
   all_goals (try exact oMw)
   exact A0 (i+1,m+1) (oDw) (oDw) (hh:=A1 Z (A1 (by dsimp only;rw [hrow];rfl) (A4 _))) (hh':=hSw)
 have hz:i=p.dcns.length:=oEw
 subst hz
 rw [List.take_length]
 have hcl:=List.length_filter_le q3 p.dcns
 (repeat' (first|refine Wz ?_|refine Wb fun hb=>?_|apply Wd <;>intro hh))
 all_goals (try exact oMw)
 refine A0b 6 10 Z Z Z (by rw [List.length_map];omega) ?_
 refine A4w 6 11 903 112 5 Z Z Z Z Z ?_
 refine X_lp (ι:=Nat × Nat) 11417981541637294454749218100338900098403713024 [6,903] (fun s=>[(113,.d (dI s.1))]) (fun s=>[(6,vwB g p.rgts (.d (.s 8 ((g.lex.map fE).map entC))) (.d (docs D)) (.d (.s 4 ((p.dcns.filter q3).map dcnC))) (.o 903 s.2)),(903,.ls 112 5 s.2 ((((p.pnts.take s.1).map f4).filter q4).map pntC))]) (fun s=>s.1≤p.pnts.length) (fun s=>p.pnts.length-s.1) ((0,0)) ?_ ?_
 ·exact zLw
 rintro⟨i,m⟩ hi
 dsimp only at hi ⊢
 have hle:(((p.pnts.take i).map f4).filter q4).length≤i:=Nat.le_trans (List.length_filter_le _ _) (by rw [List.length_map,List.length_take];omega)
 by_cases hlt:i<p.pnts.length
 rotate_left
 ·have hz:i=p.pnts.length:=oEw
  subst hz
  rw [List.take_length] at hle ⊢
  (repeat' ((fail_if_success (refine H7 (x:=(Code.region 36 _ _)) ?_));first|refine Wz ?_|refine Wd (fun hh=>?_) fun hh=>?_))
  all_goals (try exact oMw)
  refine A0b 6 11 Z Z Z (by rw [List.length_map];omega) ?_
  (repeat' (first|refine Wz ?_|fail))
  exact rXw hM
 obtain⟨x,hx⟩:=gex hlt
 have hxm:=List.mem_of_getElem? hx
 have c4:=c44 p v D x.refs hp.w (hp.prefs x hxm)
 have hel:=hp.ents x hxm
 have hfx:f4 x={ x with refs:=remF p v D x.refs,entries:=x.entries.filter fun i=>hasI S i }:=by rw [hf4]
 obtain⟨rs,hrs⟩:∃ rs,remF p v D x.refs=rs:=⟨_,rfl⟩
 obtain⟨Q,hQ⟩:∃ Q:Int→Bool,Q=fun i=>hasI S i:=⟨_,rfl⟩
 rw [hrs,← hQ] at hfx
 rw [hrs] at c4
 have hqx:q4 (f4 x)=decide (rs.length≠0):=by rw [hq4,hfx]
 have htk:(p.pnts.take (i+1)).map f4=(p.pnts.take i).map f4++[f4 x]:=by rw [List.take_add_one,hx];simp
 (repeat' (first|refine iDw (gm hx) ?_|refine cDw en44 c4 ?_|refine Wz ?_|refine Wb fun hb=>?_|apply Wd <;>intro hh))
 all_goals (try exact oMw)
 refine D0 15 15 3 1 Z Z ?_
 refine X_lp (ι:=Nat × Nat) 1393456292541243007882519017433090826076160 [15] (fun s=>[(15,.o 15 s.2),(128,.d (dI s.1))]) (fun s=>[(15,.ls 3 1 s.2 (((x.entries.take s.1).filter Q).map iC))]) (fun s=>s.1≤x.entries.length) (fun s=>x.entries.length-s.1) ((0,0)) ?_ ?_
 ·exact zLw
 rintro⟨j,u⟩ hj
 dsimp only at hj ⊢
 have hle2:((x.entries.take j).filter Q).length≤1000:=Nat.le_trans (List.length_filter_le _ _) (by rw [List.length_take];omega)
 by_cases hjl:j<x.entries.length
 ·obtain⟨y,hy⟩:=gex hjl
  have hml:=O5 y S
  have hQy:Q y=hasI S y:=by rw [hQ]
  rw [← hQy] at hml
  cases hb2:Q y with
  | false=>
   rw [hb2] at hml
   (repeat' (first|refine iDw (gm hy) ?_|refine G_x (B0 (ky:=.i (y)) Z Z Z Z Z Z Z (by exact(hml))) Z Z ?_|refine Wz ?_|refine Wb fun hb=>?_|apply Wd <;>intro hh))
   all_goals (try exact oMw)
   exact A0 (j+1,u) (oDw) (oDw) (hh:=A1 (by dsimp only;rw [G1 hy hb2];rfl) (A4 _)) (hh':=hSw)
  | true=>
   rw [hb2] at hml
   have hrow2:((x.entries.take (j+1)).filter Q).map iC=((x.entries.take j).filter Q).map iC++[iC y]:=by rw [D9 hy hb2];simp
   (repeat' (first|refine iDw (gm hy) ?_|refine G_x (B0 (ky:=.i (y)) Z Z Z Z Z Z Z (by exact(hml))) Z Z ?_|refine Wz ?_|refine Wb fun hb=>?_|apply Wd <;>intro hh))
   all_goals (try exact oMw)
   exact A0 (j+1,u+1) (oDw) (oDw) (hh:=A1 (by dsimp only;rw [hrow2];rfl) (A4 _)) (hh':=hSw)
 have hz:j=x.entries.length:=oEw
 subst hz
 rw [List.take_length] at hle2 ⊢
 by_cases h0:rs.length=0
 ·have hbq:q4 (f4 x)=false:=by rw [hqx];simp [h0]
  (repeat' (first|(refine K6 140 Z Z (by rw [List.length_map];omega) ?_)|refine Wz ?_|refine Wb fun hb=>?_|apply Wd <;>intro hh))
  all_goals (try exact oMw)
  exact A0 (i+1,m) (oDw) (oDw) (hh:=A1 Z (A1 (by dsimp only;rw [htk,List.filter_append,List.filter_cons,hbq,List.filter_nil,if_neg (by decide),List.append_nil];rfl) (A4 _))) (hh':=hSw)
 ·have hbq:q4 (f4 x)=true:=by rw [hqx];simp [h0]
  have hrow:(((p.pnts.take (i+1)).map f4).filter q4).map pntC=(((p.pnts.take i).map f4).filter q4).map pntC++[pntC { x with refs:=rs,entries:=x.entries.filter Q }]:=by rw [htk,List.filter_append,List.filter_cons,hbq,List.filter_nil,if_pos rfl,List.map_append,hfx];rfl
  (repeat' (first|(refine K6 140 Z Z (by rw [List.length_map];omega) ?_)|refine Wz ?_|refine Wb fun hb=>?_|apply Wd <;>intro hh))
  all_goals (try exact oMw)
  exact A0 (i+1,m+1) (oDw) (oDw) (hh:=A1 Z (A1 (by dsimp only;rw [hrow];rfl) (A4 _))) (hh':=hSw)
end Go.Proofs.YtojadfppncgphaaGreatDoor
