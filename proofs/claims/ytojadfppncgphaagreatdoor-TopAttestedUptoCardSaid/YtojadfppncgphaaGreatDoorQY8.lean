/- Own text. -/
import Derived.Test.YtojadfppncgphaaGreatDoorQY7
import Derived.Test.YtojadfppncgphaaGreatDoorQY4
set_option linter.all false
set_option maxHeartbeats 16000000
set_option maxRecDepth 8000
namespace Go.Proofs.YtojadfppncgphaaGreatDoor
section
open Go.RowKit Go.En Go.Dl Go.Tp
theorem B9h (k : Doc → Bool) : ∀ (l : List Doc), (l.map (·.rc.id)).Pairwise (· < ·) → ∀ id, docF (l.filter k) id = match docF l id with | some d => if k d then some d else none | none => none
 | [],_,_=>rfl
 | a :: r, h, id => by
  rw [List.map_cons,List.pairwise_cons] at h
  have ih:=B9h k r h.2 id
  unfold docF at ih ⊢
  rw [List.filter_cons,List.find?_cons]
  by_cases e:a.rc.id=id
  ·rw [decide_eq_true e]
   dsimp only
   cases hk:k a with
   | true=>rw [if_pos rfl,if_pos rfl,List.find?_cons,decide_eq_true e]
   | false=>
    rw [if_neg (by decide),if_neg (by decide)]
    rw [List.find?_eq_none]
    intro x hx
    have h1:=h.1 _ (List.mem_map_of_mem (List.mem_filter.mp hx).1)
    simp;omega
  ·rw [decide_eq_false e]
   dsimp only
   cases hk:k a with
   | true=>rw [if_pos rfl,List.find?_cons,decide_eq_false e];exact ih
   | false=>rw [if_neg (by decide)];exact ih
theorem B9g {l:List Doc}{id:Int}{d:Doc}(h:docF l id=some d):d∈l:=List.mem_of_find?_eq_some h
theorem B1p (d:Doc)(id:Int):Q7 d [] id=false:=by
 unfold Q7
 cases A0l d id with
 | none=>rfl
 | some s=>
  show covP [] s=false
  unfold covP
  have:uniP []=[]:=rfl
  rw [this];simp
structure Cut (p:Prj)(v:Vwr)(k:Doc→Bool):Prop where
 ids:(p.docs.map (·.rc.id)).Pairwise (·<·)
 out:∀ d∈p.docs,k d=false→D4 p.rgts d.rc v=[]
section
variable {p : Prj}{v : Vwr}{k : Doc → Bool}(h : Cut p v k)
include h
end
end
section
open Go.RowKit Go.En Go.Dl Go.Tp
end
section
open Go.RowKit Go.En Go.Dl Go.Tp
theorem jV0:PrV (jP []):=(C0y D0q).V
theorem jV1:PrV (jP [⟨5,2⟩]):=(C0y D0p).V
theorem jW:LgW (jG [⟨5,2⟩] [⟨5,2⟩]):=by
 constructor <;> decide
theorem jOr:OrW jO:=by
 constructor <;> decide
theorem k11:Fp Tryz.prog 11 [.g (lngC (jG [⟨5,2⟩] [⟨5,2⟩]))] (ints (ordE (jG [⟨5,2⟩] [⟨5,2⟩]))):=c11 _ jW jOr (by decide) (by decide)
theorem G6n:(ordE (jG [⟨5,2⟩] [⟨5,2⟩])).length=2:=by kernel_rfl
theorem k10:Fp Tryz.prog 10 [.g (prjC (jP [⟨5,2⟩])),.g (vwrC jV)] (.g (prjC (jP [⟨5,2⟩]))):=by
 have h:=c10 (jP [⟨5,2⟩]) jV jV1
 rw [j_q1] at h
 exact h
end
section
open Go.RowKit Go.En Go.Dl Go.Tp
def prjY (V:Prj)(x y z:Dt):List Dt:=[.s 2 (V.lang.segs.map phC),dS V.lang.ortho.name,.s 2 (V.lang.ortho.units.map untC),.s 1 (V.lang.ortho.letters.map fun l=>[txts l]),.s 6 (V.lang.rules.map rewC),dI V.lang.net.states,.s 3 (V.lang.net.steps.map stC),ints V.lang.net.final,x,y,z,pnts V.pnts,.s 3 (V.rgts.people.map M5),.s 4 (V.rgts.groups.map grpC),.s 4 (V.rgts.consents.map Y7),.s 6 (V.rgts.rules.map rulC)]
theorem D6j (V:Prj)(d0:Doc)(h1:V.lang.lex=[])(h2:V.docs=[d0])(h3:V.dcns=[]):prjC V=prjY V (.s 8 []) (docs [d0]) (dcns []):=by
 unfold prjC prjY
 rw [h1,h2,h3]
 rfl
theorem k10a:∃(V:Prj) (d0:Doc),Fp Tryz.prog 10 [.g (prjC (jP [])),.g (vwrC jV)] (.g (prjY V (.s 8 []) (docs [d0]) (dcns []))):=by
 have h:=c10 (jP []) jV jV0
 obtain⟨h1,h2,h3⟩:=j_q0
 generalize P1 (jP []) jV=V at h h1 h2 h3
 obtain⟨d0,hd⟩:=List.length_eq_one_iff.1 h3
 rw [D6j V d0 (List.eq_nil_of_length_eq_zero h1) hd (List.eq_nil_of_length_eq_zero h2)] at h
 exact⟨V,d0,h⟩
theorem k11l:∃ a b:Int,Fp Tryz.prog 11 [.g (lngC (jG [⟨5,2⟩] [⟨5,2⟩]))] (.s 1 [[dI a],[dI b]]):=by
 have h:=k11
 have h2:=G6n
 generalize ordE (jG [⟨5,2⟩] [⟨5,2⟩])=L at h h2
 match L,h2 with
 | [a,b],_=>exact⟨a,b,h⟩
attribute [local irreducible] X XL XW XG XK Val LS Fp Fo Calls bodyPost Code.wp
theorem c6:Fp Tryz.prog 6 [] (dB true):=by
 obtain⟨V,d0,c10a⟩:=k10a
 obtain⟨oa,ob,c11a⟩:=k11l
 have h1:([jE1 jrf,jE2 []]:List Entr)[1]?=some (jE2 []):=rfl
 have e0:([[dS [49,46,32,112,108,117,114,97,108]],[dS [32,32,40,49,41,32,91,53,46,50,93]],[dS [32,32,32,32,98,97,98,105]]]:List (List Dt))[0]?=some [dS [49,46,32,112,108,117,114,97,108]]:=rfl
 have e1:([[dS [49,46,32,112,108,117,114,97,108]],[dS [32,32,40,49,41,32,91,53,46,50,93]],[dS [32,32,32,32,98,97,98,105]]]:List (List Dt))[1]?=some [dS [32,32,40,49,41,32,91,53,46,50,93]]:=rfl
 have e2:([[dS [49,46,32,112,108,117,114,97,108]],[dS [32,32,40,49,41,32,91,53,46,50,93]],[dS [32,32,32,32,98,97,98,105]]]:List (List Dt))[2]?=some [dS [32,32,32,32,98,97,98,105]]:=rfl
 refine fXw Tryz.func6 Tryz.ntmps6 fun c hM=>?_
 (repeat' ((fail_if_success (refine H7 (x:=(Code.region 2 _ _)) ?_));first|refine G_c (B4 [(905,905)] (c25o) Z Z Z Z tRw en25) Z Z Z ?_|refine Wz ?_|fail))
 refine A0b 1 8 Z Z Z (by decide) ?_
 (repeat' ((fail_if_success (refine H7 (x:=(Code.region 5 _ _)) ?_));first|refine G_x (A3 Z Z Z en10 (c10a) (.eq rfl)) Z Z ?_|refine G_c (B4 [(905,906)] (c25o) Z Z Z Z tRw en25) Z Z Z ?_|refine G_x (A8 (m:=1) Z Z Z Z (by first|rfl|omega) lOw) Z Z ?_|refine G_s (N1 (m:=1) (j:=7) (q':=jE2 jrf) Z Z Z Z Z Z (by first|rfl|omega) h1 (by decide) rfl) Z Z Z ?_|refine Wz ?_|fail))
 refine A0b 3 8 Z Z Z (by decide) ?_
 (repeat' (first|refine G_x (A3 Z Z Z en10 (k10) (.eq rfl)) Z Z ?_|refine G_x (A3 Z Z Z en26 (c26) (.eq rfl)) Z Z ?_|refine G_x (A3 Z Z Z en11 (c11a) (.eq rfl)) Z Z ?_|refine G_x (A2 (m:=0) Z Z Z Z e0) Z Z ?_|refine G_x (A2 (m:=1) Z Z Z Z e1) Z Z ?_|refine G_x (A2 (m:=2) Z Z Z Z e2) Z Z ?_|refine Wk ?_|fail))
 exact rXw hM
end
end Go.Proofs.YtojadfppncgphaaGreatDoor