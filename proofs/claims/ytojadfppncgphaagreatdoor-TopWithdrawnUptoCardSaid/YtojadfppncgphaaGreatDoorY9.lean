/- Own text. -/
import Derived.Test.YtojadfppncgphaaGreatDoorY8
import Derived.Test.YtojadfppncgphaaGreatDoorL7
set_option linter.all false
set_option maxHeartbeats 16000000
set_option maxRecDepth 8000
namespace Go.Proofs.YtojadfppncgphaaGreatDoor
section
open Go.RowKit Go.En Go.Dl Go.Tp
theorem A8t (k : Doc → Bool) : ∀ (l : List Doc), (l.map (·.rc.id)).Pairwise (· < ·) → ∀ id, docF (l.filter k) id = match docF l id with | some d => if k d then some d else none | none => none
 | [],_,_=>rfl
 | a :: r, h, id => by
  rw [List.map_cons,List.pairwise_cons] at h
  have ih:=A8t k r h.2 id
  unfold docF at ih ⊢
  rw [List.filter_cons,List.find?_cons]
  by_cases e:a.rc.id=id
  ·rw [decide_eq_true e]
   dsimp only
   cases hk:k a with
   | true=>rw [if_pos rfl,if_pos rfl,List.find?_cons,decide_eq_true e]
   | false=>
    rw [if_neg (by decide),if_neg (by decide)]
    rw [List.find?_eq_none]
    intro x hx
    have h1:=h.1 _ (List.mem_map_of_mem (List.mem_filter.mp hx).1)
    simp;omega
  ·rw [decide_eq_false e]
   dsimp only
   cases hk:k a with
   | true=>rw [if_pos rfl,List.find?_cons,decide_eq_false e];exact ih
   | false=>rw [if_neg (by decide)];exact ih
theorem B7i {l:List Doc} {id:Int} {d:Doc} (h:docF l id=some d):d∈l:=List.mem_of_find?_eq_some h
theorem B0k (d:Doc) (id:Int):Z8 d [] id=false:=by
 unfold Z8
 cases A6k d id with
 | none=>rfl
 | some s=>
  show covP [] s=false
  unfold covP
  have:uniP []=[]:=rfl
  rw [this];simp
def cutP (p:Prj) (k:Doc→Bool):Prj:={ p with docs:=p.docs.filter k }
structure Cut (p:Prj) (v:Vwr) (k:Doc→Bool):Prop where
 ids:(p.docs.map (·.rc.id)).Pairwise (·<·)
 out:∀ d∈p.docs,k d=false→H5 p.rgts d.rc v=[]
section
variable {p : Prj} {v : Vwr} {k : Doc → Bool} (h : Cut p v k)
include h
theorem B5t (r:Rf):O1 (cutP p k) v r=O1 p v r:=by
 unfold O1
 show(match docF (p.docs.filter k) r.rcd with|some d=>Z8 d (H5 p.rgts d.rc v) r.note|none=>false)=_
 rw [A8t k p.docs h.ids r.rcd]
 cases hd:docF p.docs r.rcd with
 | none=>rfl
 | some d=>
  dsimp only
  cases hk:k d with
  | true=>rfl
  | false=>
   rw [if_neg (by decide),h.out d (B7i hd) hk,B0k]
theorem D5j (g : Lng) (id : Int) (r : Rf) (hs : O1 p v r = true) : attP (cutP p k).docs g id r = attP p.docs g id r := by
 have hd:docF (cutP p k).docs r.rcd=docF p.docs r.rcd:=by
  show docF (p.docs.filter k) r.rcd=_
  rw [A8t k p.docs h.ids r.rcd]
  unfold O1 at hs
  cases hd:docF p.docs r.rcd with
  | none=>rfl
  | some d=>
   dsimp only
   cases hk:k d with
   | true=>rfl
   | false=>
    rw [hd] at hs
    dsimp only at hs
    rw [h.out d (B7i hd) hk,B0k] at hs
    cases hs
 unfold attP B7q
 rw [hd]
theorem D1k (g:Lng) (e:Entr):A3x (cutP p k) v g e=A3x p v g e:=by
 unfold A3x
 congr 1
 funext r
 rw [B5t h r]
 cases hs:O1 p v r with
 | false=>rfl
 | true=>rw [D5j h g e.id r hs]
theorem D4c (st:List Int):rndF (cutP p k) v st=rndF p v st:=by
 rw [C0s,C0s]
 show(L7 p.lang st).lex.foldl (rndU (cutP p k) v (L7 p.lang st)) st=_
 congr 1
 funext s e
 unfold rndU
 rw [D1k h]
theorem B0g:∀(n:Nat) (st:List Int),A1t (cutP p k) v n st=A1t p v n st
 | 0,_=>rfl
 | n+1,st=>by
  rw [A1t,A1t]
  show(if (rndF (cutP p k) v (settle p.lang.lex (st.length+1) st)).length=st.length then rndF (cutP p k) v (settle p.lang.lex (st.length+1) st) else A1t (cutP p k) v n (rndF (cutP p k) v (settle p.lang.lex (st.length+1) st)))=_
  rw [D4c h,B0g n]
theorem A2w:R9 (cutP p k) v=R9 p v:=B0g h _ _
theorem B3r (ds:List Doc) (l:List Rf):remF (cutP p k) v ds l=remF p v ds l:=by
 unfold remF A7b
 congr 1
 congr 1
 funext r
 exact B5t h r
theorem A8s:A1s (cutP p k) v=A1s p v:=by
 unfold A1s
 rw [A2w h]
 show((p.docs.filter k).filter fun d=>decide ((H5 p.rgts d.rc v).length≠0)).map (fun d=>clrF (cutP p k) (R9 p v) (redF d (H5 p.rgts d.rc v)))=_
 have e:(p.docs.filter k).filter (fun d=>decide ((H5 p.rgts d.rc v).length≠0))=p.docs.filter fun d=>decide ((H5 p.rgts d.rc v).length≠0):=by
  rw [List.filter_filter]
  apply List.filter_congr
  intro d hd
  cases hk:k d with
  | true=>rw [Bool.and_true]
  | false=>rw [h.out d hd hk];rfl
 rw [e]
 rfl
theorem C5n:Q4 (cutP p k) v=Q4 p v:=by
 have hL:B5g (cutP p k) v=B5g p v:=by
  unfold B5g
  rw [A2w h,A8s h]
  show({ L7 p.lang (R9 p v) with lex:=(L7 p.lang (R9 p v)).lex.map fun e=>{ e with refs:=remF (cutP p k) v (A1s p v) e.refs } }:Lng)=_
  simp only [B3r h]
 have hP:vPnt (cutP p k) v=vPnt p v:=by
  funext x
  unfold vPnt
  rw [B3r h,A8s h,A2w h]
 unfold Q4
 rw [hL,hP,A8s h,A2w h]
 show(⟨B5g p v,A1s p v,p.dcns.filter fun d=>decide ((remF (cutP p k) v (A1s p v) [d.ref]).length≠0)&&Q2 d.pick (R9 p v),(p.pnts.map (vPnt p v)).filter _,p.rgts⟩:Prj)=_
 congr 2
 funext d
 rw [B3r h]
end
end
section
open Go.RowKit Go.En Go.Dl Go.Tp
theorem C9e (l:List Cons) (d:Int):∀ k,gvN l d k≤k
 | 0=>Nat.le_refl _
 | k + 1 => by
  rw [gvN]
  split
  ·split
   ·exact Nat.le_succ_of_le (C9e l d k)
   ·exact Nat.le_refl _
  ·exact Nat.le_refl _
theorem B6x (l : List Cons) (d : Int) : ∀ k, ∀ j x, gvN l d k ≤ j → j < k → l[j]? = some x → d < x.day
 | 0,_,_,_,hj,_=>by omega
 | k + 1, j, x, h, hj, hx => by
  rw [gvN] at h
  cases hk:l[k]? with
  | none=>
   have h1:l.length≤k:=List.getElem?_eq_none_iff.mp hk
   rw [hk] at h
   dsimp only at h
   omega
  | some y=>
   rw [hk] at h
   dsimp only at h
   by_cases hd:d<y.day
   ·rw [if_pos hd] at h
    by_cases e:j=k
    ·subst e;rw [hk] at hx;cases hx;exact hd
    ·exact B6x l d k j x h (by omega) hx
   ·rw [if_neg hd] at h;omega
theorem C4l (l:List Cons) (c:Cons):(A5l l c).length=l.length+1:=by
 unfold A5l
 rw [List.length_append,List.length_cons,List.length_take,List.length_drop]
 have:=C9e l c.day l.length
 omega
theorem B1z {p r d:Int}:∀(l:List Cons) (k:Int),(∀ x∈l,d<x.day)→l.foldl (fun k c=>if cAt p r d c then c.kind else k) k=k
 | [],_,_=>rfl
 | a :: l, k, h => by
  have h1:=h a (List.mem_cons_self ..)
  have h2:cAt p r d a=false:=by
   unfold cAt
   have:decide (a.day≤d)=false:=decide_eq_false (by omega)
   simp [this]
  rw [List.foldl_cons,h2,if_neg (by decide)]
  exact B1z l k fun x hx=>h x (List.mem_cons_of_mem _ hx)
theorem D1l (l:List Cons) (person rec day:Int):atR person rec day (A5l l ⟨person,0,day,0⟩)=0:=by
 unfold atR A5l
 rw [List.foldl_append,List.foldl_cons]
 have h2:cAt person rec day ⟨person,0,day,0⟩=true:=by unfold cAt;simp
 rw [if_pos h2]
 refine B1z _ _ fun x hx=>?_
 obtain⟨i,hi⟩:=List.mem_iff_getElem?.mp hx
 rw [List.getElem?_drop] at hi
 have hlt:=(List.getElem?_eq_some_iff.mp hi).1
 exact B6x l day l.length _ x (by dsimp only;omega) hlt hi
def Z5 (p:Prj) (person day:Int):Prj:={ p with rgts:={ p.rgts with consents:=A5l p.rgts.consents ⟨person,0,day,0⟩ } }
def spkB (person:Int) (d:Doc):Bool:=!(d.rc.sp.any fun s=>decide (s=person))
theorem B5s (p:Prj) (person:Int) (v:Vwr) (d:Doc) (h:spkB person d=false):H5 (Z5 p person v.day).rgts d.rc v=[]:=by
 unfold spkB at h
 rw [Bool.not_eq_false',List.any_eq_true] at h
 obtain⟨s,hs,he⟩:=h
 have he:=of_decide_eq_true he
 subst he
 have hb:B2j (Z5 p s v.day).rgts d.rc v≠0:=by
  intro hb
  unfold B2j at hb
  obtain⟨i,_,h1⟩:=Y5 hb hs
  have h2:atR s d.rc.id v.day (Z5 p s v.day).rgts.consents=0:=D1l _ _ _ _
  rw [if_pos h2] at h1
  exact absurd h1 (by decide)
 unfold H5
 rw [if_pos hb]
theorem C4x {p:Prj} (hp:PrjF p) (person:Int) (v:Vwr):Cut (Z5 p person v.day) v (spkB person) where
 ids:=hp.docs
 out:=fun d _ hk=>B5s p person v d hk
theorem C5e {p:Prj} (hp:PrjF p) (hc:p.rgts.consents.length≤12) (person day:Int):PrV (Z5 p person day):=by
 have h:=hp.V
 exact {
  w:={ rg:={ grps:=h.w.rg.grps,ppl:=h.w.rg.ppl,cons:=by show(A5l p.rgts.consents _).length≤1000;rw [C4l];omega,ruls:=h.w.rg.ruls },docs:=h.w.docs,texts:=h.w.texts,lang:=h.w.lang,orth:=h.w.orth }
  x:=h.x
  refs:=h.refs
  prefs:=h.prefs
  ents:=h.ents
  nd:=h.nd
  nc:=h.nc
  np:=h.np }
theorem D5z {p:Prj} (h:PrV p) (k:Doc→Bool):PrV (cutP p k):={
  w:={ rg:=h.w.rg,docs:=fun d hd=>h.w.docs d (List.mem_filter.mp hd).1,texts:=fun d hd=>h.w.texts d (List.mem_filter.mp hd).1,lang:=h.w.lang,orth:=h.w.orth }
  x:=h.x
  refs:=h.refs
  prefs:=h.prefs
  ents:=h.ents
  nd:=Nat.le_trans (List.length_filter_le _ _) h.nd
  nc:=h.nc
  np:=h.np }
theorem B8i {p:Prj} (hp:PrjF p) (person:Int) (v:Vwr):Q4 (cutP (Z5 p person v.day) (spkB person)) v=Q4 (Z5 p person v.day) v:=C5n (C4x hp person v)
end
section
open Go.RowKit Go.En Go.Dl Go.Tp
theorem jV0:PrV (jP []):=(B8z C8t).V
theorem jV1:PrV (jP [⟨5,2⟩]):=(B8z C8s).V
theorem jW:LgW (jG [⟨5,2⟩] [⟨5,2⟩]):=by
 constructor <;> decide
theorem jOr:OrW jO:=by
 constructor <;> decide
theorem k11:Fp Tryz.prog 11 [.g (lngC (jG [⟨5,2⟩] [⟨5,2⟩]))] (ints (ordE (jG [⟨5,2⟩] [⟨5,2⟩]))):=c11 _ jW jOr (by decide) (by decide)
theorem G4b:(ordE (jG [⟨5,2⟩] [⟨5,2⟩])).length=2:=by kernel_rfl
theorem k10:Fp Tryz.prog 10 [.g (prjC (jP [⟨5,2⟩])),.g (vwrC jV)] (.g (prjC (jP [⟨5,2⟩]))):=by
 have h:=c10 (jP [⟨5,2⟩]) jV jV1
 rw [j_q1] at h
 exact h
end
section
open Go.RowKit Go.En Go.Dl Go.Tp
def prjY (V:Prj) (x y z:Dt):List Dt:=[.s 2 (V.lang.segs.map phC),dS V.lang.ortho.name,.s 2 (V.lang.ortho.units.map untC),.s 1 (V.lang.ortho.letters.map fun l=>[txts l]),.s 6 (V.lang.rules.map rewC),dI V.lang.net.states,.s 3 (V.lang.net.steps.map stC),ints V.lang.net.final,x,y,z,pnts V.pnts,.s 3 (V.rgts.people.map L2),.s 4 (V.rgts.groups.map grpC),.s 4 (V.rgts.consents.map T1),.s 6 (V.rgts.rules.map rulC)]
theorem D4e (V:Prj) (d0:Doc) (h1:V.lang.lex=[]) (h2:V.docs=[d0]) (h3:V.dcns=[]):prjC V=prjY V (.s 8 []) (docs [d0]) (dcns []):=by
 unfold prjC prjY
 rw [h1,h2,h3]
 rfl
theorem k10a:∃(V:Prj) (d0:Doc),Fp Tryz.prog 10 [.g (prjC (jP [])),.g (vwrC jV)] (.g (prjY V (.s 8 []) (docs [d0]) (dcns []))):=by
 have h:=c10 (jP []) jV jV0
 obtain⟨h1,h2,h3⟩:=j_q0
 generalize Q4 (jP []) jV=V at h h1 h2 h3
 obtain⟨d0,hd⟩:=List.length_eq_one_iff.1 h3
 rw [D4e V d0 (List.eq_nil_of_length_eq_zero h1) hd (List.eq_nil_of_length_eq_zero h2)] at h
 exact⟨V,d0,h⟩
theorem k11l:∃ a b:Int,Fp Tryz.prog 11 [.g (lngC (jG [⟨5,2⟩] [⟨5,2⟩]))] (.s 1 [[dI a],[dI b]]):=by
 have h:=k11
 have h2:=G4b
 generalize ordE (jG [⟨5,2⟩] [⟨5,2⟩])=L at h h2
 match L,h2 with
 | [a,b],_=>exact⟨a,b,h⟩
attribute [local irreducible] X XL XW XG XK Val LS Fp Fo Calls bodyPost Code.wp
theorem c6:Fp Tryz.prog 6 [] (dB true):=by
 obtain⟨V,d0,c10a⟩:=k10a
 obtain⟨oa,ob,c11a⟩:=k11l
 have h1:([jE1 jrf,jE2 []]:List Entr)[1]?=some (jE2 []):=rfl
 have e0:([[dS [49,46,32,112,108,117,114,97,108]],[dS [32,32,40,49,41,32,91,53,46,50,93]],[dS [32,32,32,32,98,97,98,105]]]:List (List Dt))[0]?=some [dS [49,46,32,112,108,117,114,97,108]]:=rfl
 have e1:([[dS [49,46,32,112,108,117,114,97,108]],[dS [32,32,40,49,41,32,91,53,46,50,93]],[dS [32,32,32,32,98,97,98,105]]]:List (List Dt))[1]?=some [dS [32,32,40,49,41,32,91,53,46,50,93]]:=rfl
 have e2:([[dS [49,46,32,112,108,117,114,97,108]],[dS [32,32,40,49,41,32,91,53,46,50,93]],[dS [32,32,32,32,98,97,98,105]]]:List (List Dt))[2]?=some [dS [32,32,32,32,98,97,98,105]]:=rfl
 refine fXw Tryz.func6 Tryz.ntmps6 fun c hM=>?_
 (repeat' ((fail_if_success (refine J1 (x:=(Code.region 2 _ _)) ?_));first|refine G_c (B5 [(905,905)] (c25o) rfl rfl rfl rfl tRw en25) rfl rfl rfl ?_|refine Wz ?_|fail))
 refine T4 1 8 rfl rfl rfl (by decide) ?_
 (repeat' ((fail_if_success (refine J1 (x:=(Code.region 5 _ _)) ?_));first|refine G_x (A1 rfl rfl rfl en10 (c10a) (.eq rfl)) rfl rfl ?_|refine G_c (B5 [(905,906)] (c25o) rfl rfl rfl rfl tRw en25) rfl rfl rfl ?_|refine G_x (A7 (m:=1) rfl rfl rfl rfl (by first|rfl|omega) lOw) rfl rfl ?_|refine G_s (M1 (m:=1) (j:=7) (q':=jE2 jrf) rfl rfl rfl rfl rfl rfl (by first|rfl|omega) h1 (by decide) rfl) rfl rfl rfl ?_|refine Wz ?_|fail))
 refine T4 3 8 rfl rfl rfl (by decide) ?_
 (repeat' (first|refine G_x (A1 rfl rfl rfl en10 (k10) (.eq rfl)) rfl rfl ?_|refine G_x (A1 rfl rfl rfl en26 (c26) (.eq rfl)) rfl rfl ?_|refine G_x (A1 rfl rfl rfl en11 (c11a) (.eq rfl)) rfl rfl ?_|refine G_x (A2 (m:=0) rfl rfl rfl rfl e0) rfl rfl ?_|refine G_x (A2 (m:=1) rfl rfl rfl rfl e1) rfl rfl ?_|refine G_x (A2 (m:=2) rfl rfl rfl rfl e2) rfl rfl ?_|refine Wk ?_|fail))
 exact rXw hM
end
end Go.Proofs.YtojadfppncgphaaGreatDoor