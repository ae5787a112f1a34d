/- Own text. -/
import Derived.Test.YtojadfppncgphaaGreatDoorQY6
import Derived.Test.YtojadfppncgphaaGreatDoorQF7
set_option linter.all false
set_option maxHeartbeats 16000000
set_option maxRecDepth 8000
namespace Go.Proofs.YtojadfppncgphaaGreatDoor
section
open Go.RowKit Go.En Go.Dl Go.Tp
theorem jtp:∀(i:Nat) (t:Tier),jD.tiers[i]?=some t→t.kind≠0→0≤t.parent∧t.parent<(i:Int)
 | 0,_,h,hk=>by cases h;exact absurd rfl hk
 | 1,_,h,_=>by cases h;decide
 | 2,_,h,_=>by cases h;decide
 | 3,_,h,_=>by cases h;decide
 | _+4,_,h,_=>by cases h
theorem jGD:GD jD:=⟨by decide,by decide,by decide,by decide,jtp,by decide⟩
abbrev jN1:Note:=⟨1,0,0,0,900,0,[]⟩
abbrev jN2:Note:=⟨2,1,1,0,400,0,[98,97,98,105]⟩
theorem D0o:Fp Tryz.prog 119 [.g (docC jD),dI 2] (.t [.g (C4 jN2),dB true]):=n119 jD 2
theorem G3v:Fp Tryz.prog 119 [.g (docC jD),dI 1] (.t [.g (C4 jN1),dB true]):=n119 jD 1
theorem G3w:Fp Tryz.prog 119 [.g (docC jD),dI 0] (.t [.g (C4 L9),dB false]):=n119 jD 0
theorem k112:Fp Tryz.prog 112 [.g (docC jD),dI 1] (ints [2]):=c112 jD jGD 7 1 (by decide) (by decide) (by decide)
theorem G3z:Fp Tryz.prog 112 [.g (docC jD),dI (-1)] (ints []):=c112 jD jGD 7 (-1) (by decide) (by decide) (by decide)
theorem G3y:Fp Tryz.prog 113 [.s 4 (jD.tiers.map A0g),dI 2] (dI 1):=n113 jD.tiers 2
theorem G3x:Fp Tryz.prog 113 [.s 4 (jD.tiers.map A0g),dI 5] (dI (-1)):=n113 jD.tiers 5
theorem G3u:Fp Tryz.prog 129 [.g (docC jD),dI 2,dI 2] (ints []):=c129 jD 2 2 jGD
theorem k190:Fp Tryz.prog 190 [ints [2,1],dI 2] (dB true):=c190 [2,1] 2
theorem k187:Fp Tryz.prog 187 [.g (docC jD),dI 2] (.t [.g (C4 jN2),dB true]):=c187 jD 2
theorem k186:Fp Tryz.prog 186 [.g (docC jD)] (dB true):=c186 jD
attribute [local irreducible] X XL XW XG XK Val LS Fp Fo Calls bodyPost Code.wp
theorem c259:Fp Tryz.prog 259 [.g (docC jD),dI 2] (ints [2,1]):=by
 refine fXw Tryz.func259 Tryz.ntmps259 fun c hM=>?_
 (repeat' (first|refine G_n Z Z (T9 900 Z Z) Z ?_|refine G_n Z Z (T9 901 Z Z) Z ?_|refine G_n Z Z (T9 902 Z Z) Z ?_|refine G_n Z Z (A9c Z Z Z Z Z Z (by decide) (by decide)) Z ?_|refine G_nd Z Z (V9 _ Z Z Z Z Z (by decide) (by decide)) Z ?_|refine G_x (A3 Z Z Z M7 (D0o) (.eq rfl)) Z Z ?_|refine G_x (A3 Z Z Z M7 (G3v) (.eq rfl)) Z Z ?_|refine G_x (A3 Z Z Z M7 (G3w) (.eq rfl)) Z Z ?_|refine Wk ?_|fail))
 refine B9 4 Z Z (by decide) ?_
 exact rXw hM
theorem c217:Fp Tryz.prog 217 [.g (docC jD),dI 2] (ints [2]):=by
 have h0:([[dI 2]]:List (List Dt))[0]?=some [dI 2]:=rfl
 refine fXw Tryz.func217 Tryz.ntmps217 fun c hM=>?_
 (repeat' (first|refine G_nd Z Z (V9 _ Z Z Z Z Z (by decide) (by decide)) Z ?_|refine G_x (A3 Z Z Z A4s (G3y) (.eq rfl)) Z Z ?_|refine G_x (A3 Z Z Z C5b (k112) (.eq rfl)) Z Z ?_|refine G_x (A2 (m:=0) Z Z Z Z h0) Z Z ?_|refine G_x (A3 Z Z Z G8e (c259) (.eq rfl)) Z Z ?_|refine G_x (A3 Z Z Z A9r (k190) (.eq rfl)) Z Z ?_|refine Wk ?_|fail))
 refine B9 4 Z Z (by decide) ?_
 exact rXw hM
theorem c219:Fp Tryz.prog 219 [.s 1 [],dS [45]] (dS []):=by
 refine fXw Tryz.func219 Tryz.ntmps219 fun c hM=>?_
 (repeat' (first|refine Wk ?_|fail))
 exact rXw hM
theorem c218:Fp Tryz.prog 218 [.g (docC jD),dI 2] (.t [.s 1 [],.s 1 []]):=by
 refine fXw Tryz.func218 Tryz.ntmps218 fun c hM=>?_
 (repeat' (first|refine G_x (A3 Z Z Z C4t (k187) (.eq rfl)) Z Z ?_|refine G_x (A3 Z Z Z B9b (k186) (.eq rfl)) Z Z ?_|refine G_x (A3 Z Z Z C4s (c188 jD) (.eq rfl)) Z Z ?_|refine G_x (A3 Z Z Z B3t (G3u) (.eq rfl)) Z Z ?_|refine Wk ?_|fail))
 exact rXw hM
theorem c147:Fp Tryz.prog 147 [.g (docC jD),dI 2] rwB:=by
 have h0:([[dI 2]]:List (List Dt))[0]?=some [dI 2]:=rfl
 have e0:([[dS [98,97,98,105]],[dS []],[dS []]]:List (List Dt))[0]?=some [dS [98,97,98,105]]:=rfl
 have e1:([[dS [98,97,98,105]],[dS []],[dS []]]:List (List Dt))[1]?=some [dS []]:=rfl
 have e2:([[dS [98,97,98,105]],[dS []],[dS []]]:List (List Dt))[2]?=some [dS []]:=rfl
 refine fXw Tryz.func147 Tryz.ntmps147 fun c hM=>?_
 (repeat' (first|(refine K6 82 Z Z (by decide) ?_)|(refine K6 88 Z Z (by decide) ?_)|refine G_x (M2 (b:=1) Z Z Z Z (by decide)) Z Z ?_|refine G_x (A3 Z Z Z M7 (D0o) (.eq rfl)) Z Z ?_|refine G_x (A3 Z Z Z G9b (c217) (.eq rfl)) Z Z ?_|refine G_x (A3 Z Z Z G9a (c218) (.eq rfl)) Z Z ?_|refine G_x (A3 Z Z Z G8z (c219) (.eq rfl)) Z Z ?_|refine G_n Z Z (B8e 920 3 Z Z Z Z Z Z Z (by decide) (by decide)) Z ?_|refine G_n Z Z (T9 900 Z Z) Z ?_|refine G_n Z Z (T9 901 Z Z) Z ?_|refine G_x (A2 (m:=0) Z Z Z Z h0) Z Z ?_|refine G_x (A2 (m:=0) Z Z Z Z e0) Z Z ?_|refine G_x (A2 (m:=1) Z Z Z Z e1) Z Z ?_|refine G_x (A2 (m:=2) Z Z Z Z e2) Z Z ?_|refine G_x (A8 (m:=0) Z Z Z Z Z (by decide)) Z Z ?_|refine G_x (A8 (m:=1) Z Z Z Z Z (by decide)) Z Z ?_|refine G_x (A8 (m:=2) Z Z Z Z Z (by decide)) Z Z ?_|refine G_x (M6 (m:=0) (j:=0) Z Z Z Z Z Z Z) Z Z ?_|refine G_x (M6 (m:=1) (j:=0) Z Z Z Z Z Z Z) Z Z ?_|refine G_x (M6 (m:=2) (j:=0) Z Z Z Z Z Z Z) Z Z ?_|refine G_n Z Z (V9 910 Z Z Z Z Z (by decide) (by decide)) Z ?_|refine G_n Z Z (V9 911 Z Z Z Z Z (by decide) (by decide)) Z ?_|refine G_n Z Z (V9 912 Z Z Z Z Z (by decide) (by decide)) Z ?_|refine G_s (M1 (m:=0) (j:=0) Z Z Z Z Z Z Z Z (by decide)) Z Z Z ?_|refine G_s (M1 (m:=1) (j:=0) Z Z Z Z Z Z Z Z (by decide)) Z Z Z ?_|refine G_s (M1 (m:=2) (j:=0) Z Z Z Z Z Z Z Z (by decide)) Z Z Z ?_|refine Wk ?_|fail))
 exact rXw hM
instance kt77:KtOK Tryz.prog 77 2:=ktP C8b
def eqR (x y:Rf):Bool:=decide (x.rcd=y.rcd)&&decide (x.note=y.note)
def inR (out:List Rf)(r:Rf):Bool:=out.any fun x=>eqR x r
def numR (out:List Rf)(r:Rf):List Rf:=if inR out r then out else out++[r]
def numP (out:List Rf)(p:Pnt):List Rf:=p.refs.foldl numR out
def numF (l:List Pnt):List Rf:=l.foldl numP []
abbrev kR (r:Rf):Ky:=.p r.rcd r.note
def esN:Nat→List Rf→List (Ky × Dt)
 | _,[]=>[]
 | i,r::q=>(kR r,dI ((i:Int)+1))::esN (i+1) q
theorem D9p (x r:Rf):(kR x=kR r)↔eqR x r=true:=by
 unfold eqR
 rw [Bool.and_eq_true,decide_eq_true_iff,decide_eq_true_iff]
 constructor
 ·intro h
  unfold kR at h
  rw [Ky.p.injEq] at h
  exact h
 ·rintro⟨h1,h2⟩;unfold kR;rw [h1,h2]
theorem D9u (r:Rf):∀(i:Nat) (out:List Rf),inR out r=false→mget (esN i out) (kR r)=none∧∀ y,mset (esN i out) (kR r) y=esN i out++[(kR r,y)]
 | _,[],_=>⟨rfl,fun _=>rfl⟩
 | i,x::q,h=>by
  unfold inR at h
  rw [List.any_cons,Bool.or_eq_false_iff] at h
  have hk:¬ kR x=kR r:=fun e=>by rw [D9p] at e;rw [h.1] at e;cases e
  obtain⟨h1,h2⟩:=D9u r (i+1) q h.2
  refine⟨by rw [esN,mget,if_neg hk];exact h1,fun y=>by rw [esN,mset,if_neg hk,h2];rfl⟩
theorem D1u (r : Rf) : ∀ (i : Nat) (out : List Rf), inR out r = true → ∃ k : Nat, i ≤ k ∧ mget (esN i out) (kR r) = some (dI ((k : Int) + 1))
 | _,[],h=>by cases h
 | i,x::q,h=>by
  unfold inR at h
  rw [List.any_cons,Bool.or_eq_true] at h
  by_cases hk:kR x=kR r
  ·exact⟨i,Nat.le_refl _,by rw [esN,mget,if_pos hk]⟩
  ·have hn:inR q r=true:=by
    rcases h with h|h
    ·exact absurd ((D9p x r).2 h) hk
    ·exact h
   obtain⟨k,h1,h2⟩:=D1u r (i+1) q hn
   exact⟨k,oEw,by rw [esN,mget,if_neg hk];exact h2⟩
theorem D1v (r:Rf):∀(i:Nat) (out:List Rf),esN i (out++[r])=esN i out++[(kR r,dI (((i+out.length:Nat):Int)+1))]
 | i,[]=>rfl
 | i,x::q=>by
  rw [List.cons_append,esN,D1v r (i+1) q,esN,List.length_cons,List.cons_append,show i+1+q.length=i+(q.length+1) by omega]
theorem C9r (out:List Rf)(r:Rf):(numR out r).length≤out.length+1:=by
 unfold numR
 split
 ·omega
 ·rw [List.length_append];exact Nat.le_refl _
theorem B2f:∀(l out:List Rf),(l.foldl numR out).length≤out.length+l.length
 | [],_=>Nat.le_refl _
 | r::q,out=>by
  have h1:=B2f q (numR out r)
  have h2:=C9r out r
  rw [List.foldl_cons,List.length_cons];omega
theorem c48o (l:List Pnt)(hl:l.length≤1000)(hr:∀ p∈l,p.refs.length≤1000):Fo Tryz.prog 48 [.d (pnts l)] [] (.t [.o 4 (numF l).length,.m 10]) [(4,.ls 77 2 (numF l).length ((numF l).map rfC)),(10,.mp 2 (esN 0 (numF l)))]:=by
 refine fo_X (n:=40) Tryz.func48 rfl Tryz.ntmps48 rfl fun c hM=>?_
 (repeat' (first|refine G_nd Z Z (Z6 _ 2 rfl) Z ?_|refine Wz ?_|refine Wb fun hb=>?_))
 refine D0 4 4 77 2 Z Z ?_
 refine X_lp (ι:=Nat × List Rf × Nat) 274877899408 [4,10] (fun s=>[(4,.o 4 s.2.2),(13,.d (dI s.1))]) (fun s=>[(4,.ls 77 2 s.2.2 (s.2.1.map rfC)),(10,.mp 2 (esN 0 s.2.1))]) (fun s=>s.1≤l.length∧(l.take s.1).foldl numP []=s.2.1∧s.2.2=s.2.1.length∧s.2.1.length≤s.1*1000) (fun s=>l.length-s.1) ((0,[],0)) ?_ ?_
 ·exact⟨zLw,rfl,rfl,zLw⟩
 rintro⟨i,out,v⟩ ⟨hi,hq,hv,hol⟩
 dsimp only at hi hq hv hol ⊢
 by_cases hlt:i<l.length
 rotate_left
 ·have hz:i=l.length:=oEw
  subst hz
  rw [List.take_length] at hq
  rw [show numF l=out from hq]
  subst hv
  (repeat' (first|refine Wz ?_|apply Wd <;>intro hh))
  all_goals (try exact oMw)
  (first|exact A9 hM Z Z Z tRw Z Z|exact C0 (A9 hM Z Z Z tRw Z Z))
 obtain⟨p,hx⟩:=gex hlt
 have hrl:=hr p (List.mem_of_getElem? hx)
 have hnx:(l.take (i+1)).foldl numP []=p.refs.foldl numR out:=by rw [List.take_add_one,hx,List.foldl_append,hq];rfl
 (repeat' (first|refine iDw (gm hx) ?_|refine Wz ?_|refine Wb fun hb=>?_|apply Wd <;>intro hh))
 all_goals (try exact oMw)
 refine X_lp (ι:=Nat × List Rf × Nat) 137437905424 [4,10] (fun s=>[(4,.o 4 s.2.2),(20,.d (dI s.1))]) (fun s=>[(4,.ls 77 2 s.2.2 (s.2.1.map rfC)),(10,.mp 2 (esN 0 s.2.1))]) (fun s=>s.1≤p.refs.length∧(p.refs.take s.1).foldl numR out=s.2.1∧s.2.2=s.2.1.length∧s.2.1.length≤out.length+s.1) (fun s=>p.refs.length-s.1) ((0,out,v)) ?_ ?_
 ·exact⟨zLw,rfl,hv,Nat.le_refl _⟩
 rintro⟨j,o2,u⟩ ⟨hj,hq2,hu,hol2⟩
 dsimp only at hj hq2 hu hol2 ⊢
 by_cases hjl:j<p.refs.length
 rotate_left
 ·have hz:j=p.refs.length:=oEw
  subst hz
  rw [List.take_length] at hq2
  (repeat' (first|refine Wz ?_|apply Wd <;>intro hh))
  all_goals (try exact oMw)
  exact A0 (i+1,o2,u) ⟨oDw,by dsimp only;rw [hnx,hq2],hu,oDw⟩ (oDw) (hh':=hSw)
 obtain⟨r,hy⟩:=gex hjl
 have hny:(p.refs.take (j+1)).foldl numR out=numR o2 r:=by rw [List.take_add_one,hy,List.foldl_append,hq2];rfl
 cases hb:inR o2 r with
 | true=>
  obtain⟨k,hk1,hk2⟩:=D1u r 0 o2 hb
  have hn:numR o2 r=o2:=by unfold numR;rw [if_pos hb]
  rw [hn] at hny
  have hlk:(mget (esN 0 o2) (.p r.rcd r.note)).getD (dI 0)=dI ((k:Int)+1):=by rw [hk2];rfl
  (repeat' (first|refine iDw (gm hy) ?_|refine G_x (B0 (ky:=.p r.rcd r.note) Z Z Z Z Z Z Z (by exact hlk)) Z Z ?_|refine Wz ?_|apply Wd <;>intro hh))
  all_goals (try exact oMw)
  exact A0 (j+1,o2,u) ⟨oDw,hny,hu,oDw⟩ (oDw) (hh':=hSw)
 | false=>
  obtain⟨hk1,hk2⟩:=D9u r 0 o2 hb
  have hn:numR o2 r=o2++[r]:=by unfold numR;rw [hb];rfl
  rw [hn] at hny
  have hlk:(mget (esN 0 o2) (.p r.rcd r.note)).getD (dI 0)=dI 0:=by rw [hk1];rfl
  have e1:mset (esN 0 o2) (.p r.rcd r.note) (dI ((((o2.map rfC)++[rfC r]).length:Nat):Int))=esN 0 (o2++[r]):=by
   rw [hk2,D1v,List.length_append,List.length_map]
   simp
  (repeat' (first|refine iDw (gm hy) ?_|refine G_x (B0 (ky:=.p r.rcd r.note) Z Z Z Z Z Z Z (by exact hlk)) Z Z ?_|refine G_s (N2 (ky:=.p r.rcd r.note) Z Z Z Z Z Z Z Z) Z Z Z ?_|refine Wz ?_|apply Wd <;>intro hh))
  all_goals (first|(exfalso;omega)|(exfalso;simp_all;done)|skip)
  exact A0 (j+1,o2++[r],u+1) ⟨oDw,hny,by dsimp only;rw [List.length_append,hu];rfl,by dsimp only;rw [List.length_append];simp only [List.length_cons,List.length_nil];omega⟩ (oDw) (hh:=A1 (by dsimp only;rw [List.map_append];rfl) (A1 (by dsimp only;rw [← e1];rfl) (A4 _))) (hh':=hSw)
theorem c289 (n:Nat)(s:Tx)(hn:n<10)(hs:(([48,49,50,51,52,53,54,55,56,57,97,98,99,100,101,102,103,104,105,106,107,108,109,110,111,112,113,114,115,116,117,118,119,120,121,122]:Tx).take (n+1)).drop n=s):Fp Tryz.prog 289 [dI n] (dS s):=by
 subst hs
 refine fXw Tryz.func289 Tryz.ntmps289 fun c hM=>?_
 (repeat' (first|refine G_x (A7 fun _=>N8 (a:=n) (b:=n+1) Z Z Z Z Z oEw oEw (by simp;omega)) Z Z ?_|refine Wz ?_|apply Wd <;>intro hh))
 all_goals (try exact oMw)
 exact rXw hM
theorem c258 (n:Nat)(s:Tx)(hn:n<10)(hs:(([48,49,50,51,52,53,54,55,56,57,97,98,99,100,101,102,103,104,105,106,107,108,109,110,111,112,113,114,115,116,117,118,119,120,121,122]:Tx).take (n+1)).drop n=s):Fp Tryz.prog 258 [dI n,dI 10] (dS s):=by
 have c1:=c289 n s hn hs
 refine fXw Tryz.func258 Tryz.ntmps258 fun c hM=>?_
 (repeat' (first|refine cDw G7r c1 ?_|refine Wz ?_|apply Wd <;>intro hh))
 all_goals (first|(exfalso;omega)|(exfalso;simp_all;done)|skip)
 exact rXw hM
theorem c66 (n:Nat)(s:Tx)(hn:n<10)(hs:(([48,49,50,51,52,53,54,55,56,57,97,98,99,100,101,102,103,104,105,106,107,108,109,110,111,112,113,114,115,116,117,118,119,120,121,122]:Tx).take (n+1)).drop n=s):Fp Tryz.prog 66 [dI n] (dS s):=by
 have c1:=c258 n s hn hs
 have c2:Fp Tryz.prog 216 [dI n] (dS s):=by
  refine fXw Tryz.func216 Tryz.ntmps216 fun c hM=>?_
  (repeat' (first|refine cDw G8f c1 ?_|refine Wz ?_|fail))
  exact rXw hM
 have c3:Fp Tryz.prog 146 [dI n] (dS s):=by
  refine fXw Tryz.func146 Tryz.ntmps146 fun c hM=>?_
  (repeat' (first|refine cDw G9c c2 ?_|refine Wz ?_|fail))
  exact rXw hM
 refine fXw Tryz.func66 Tryz.ntmps66 fun c hM=>?_
 (repeat' (first|refine cDw H0i c3 ?_|refine Wz ?_|fail))
 exact rXw hM
theorem G6m:Fp Tryz.prog 66 [dI 1] (dS [49]):=c66 1 [49] (by decide) rfl
theorem G6l:Fp Tryz.prog 66 [dI 2] (dS [50]):=c66 2 [50] (by decide) rfl
theorem G6k:Fp Tryz.prog 66 [dI 5] (dS [53]):=c66 5 [53] (by decide) rfl
theorem k148:Fp Tryz.prog 148 [rwB,dI 40] (.s 1 [[dS [98,97,98,105]]]):=c148 u222
theorem c67:Fp Tryz.prog 67 [.g (docC jD),dI 2,dI 40] (.s 1 [[dS [98,97,98,105]]]):=by
 refine fXw Tryz.func67 Tryz.ntmps67 fun c hM=>?_
 (repeat' (first|(refine D4o Z Z Z Z Z (fun b hb=>?_);cases b)|refine G_x (A3 Z Z Z H0h (c147) (.eq rfl)) Z Z ?_|refine G_x (A3 Z Z Z H0g (k148) (.eq rfl)) Z Z ?_|refine G_x (A3 Z Z Z A4s (G3x) (.eq rfl)) Z Z ?_|refine G_x (A3 Z Z Z C5b (G3z) (.eq rfl)) Z Z ?_|refine Wk ?_|fail))
 all_goals (first|(exfalso;revert hb;decide)|skip)
 all_goals exact rXw hM
theorem c68:Fp Tryz.prog 68 [dS [98,97,98,105]] (dS [32,32,32,32,98,97,98,105]):=by
 refine fXw Tryz.func68 Tryz.ntmps68 fun c hM=>?_
 (repeat' (first|refine G_x (A7 fun _=>B4p Z Z Z (by decide)) Z Z ?_|refine Wz ?_|apply Wd <;>intro hh))
 all_goals (first|(exfalso;simp_all;done)|skip)
 exact rXw hM
end
section
open Go.RowKit Go.En Go.Dl Go.Tp
theorem k53:Fp Tryz.prog 53 [docs [jD],dI 5] (.t [.g (docC jD),dB true]):=n53 [jD] 5
theorem k48:Fo Tryz.prog 48 [.d (pnts [jPt])] [] (.t [.o 4 1,.m 10]) [(4,.ls 77 2 1 [[dI 5,dI 2]]),(10,.mp 2 [(.p 5 2,dI 1)])]:=c48o [jPt] (by decide) (by decide)
attribute [local irreducible] X XL XW XG XK Val LS Fp Fo Calls bodyPost Code.wp
theorem c26:Fp Tryz.prog 26 [docs [jD],pnts [jPt],dI 40] (.s 1 [[dS [49,46,32,112,108,117,114,97,108]],[dS [32,32,40,49,41,32,91,53,46,50,93]],[dS [32,32,32,32,98,97,98,105]]]):=by
 have h0:([jPt].map pntC)[0]?=some (pntC jPt):=rfl
 have h1:([[dI 5,dI 2]]:List (List Dt))[0]?=some [dI 5,dI 2]:=rfl
 have h2:([[dS [98,97,98,105]]]:List (List Dt))[0]?=some [dS [98,97,98,105]]:=rfl
 refine fXw Tryz.func26 Tryz.ntmps26 fun c hM=>?_
 (repeat' (first|refine G_nd Z Z (V9 _ Z Z Z Z Z (by decide) (by decide)) Z ?_|refine G_n Z Z (A9c Z Z Z Z Z Z (by decide) (by decide)) Z ?_|refine G_c (B4 [(4,904),(10,910)] (k48) Z Z Z Z tRw en48) Z Z Z ?_|refine G_x (A3 Z Z Z en66 (G6m) (.eq rfl)) Z Z ?_|refine G_x (A3 Z Z Z en66 (G6k) (.eq rfl)) Z Z ?_|refine G_x (A3 Z Z Z en66 (G6l) (.eq rfl)) Z Z ?_|refine G_x (A3 Z Z Z en53 (k53) (.eq rfl)) Z Z ?_|refine G_x (A3 Z Z Z en67 (c67) (.eq rfl)) Z Z ?_|refine G_x (A3 Z Z Z en68 (c68) (.eq rfl)) Z Z ?_|refine G_x (A7 fun _=>B4p Z Z Z (by decide)) Z Z ?_|refine G_x (A2 (m:=0) Z Z Z Z h0) Z Z ?_|refine G_x (A2 (m:=0) Z Z Z Z h1) Z Z ?_|refine G_x (A2 (m:=0) Z Z Z Z h2) Z Z ?_|refine G_x (B0 (ky:=.p 5 2) Z Z Z Z Z Z Z Z) Z Z ?_|refine Wk ?_|fail))
 refine B9 6 Z Z (by decide) ?_
 exact rXw hM
end
section
open Go.RowKit Go.En Go.Dl Go.Tp
theorem orE0 {a b:Int}(h:orE a b=0):a=0∧b=0:=by
 unfold orE at h
 split at h
 ·contradiction
 ·rename_i h1;exact⟨Decidable.not_not.mp h1,h⟩
theorem A9h {α : Type}{f : Nat → α → Int} : ∀ {l : List α} {k : Nat}, fstE f k l = 0 → ∀ i x, l[i]? = some x → f (k + i) x = 0
 | [],_,_,i,x,hx=>by simp at hx
 | a :: r, k, h, i, x, hx => by
  rw [fstE] at h
  split at h
  ·contradiction
  ·rename_i h1
   cases i with
   | zero=>cases hx;exact Decidable.not_not.mp h1
   | succ i=>
    have:=A9h h i x (by simpa using hx)
    rwa [show k+1+i=k+(i+1) by omega] at this
theorem Q6 {α:Type}{f:Nat→α→Int}{l:List α}(h:fstE f 0 l=0){x:α}(hx:x∈l):∃ i,l[i]?=some x∧f i x=0:=by
 obtain⟨i,hi⟩:=List.mem_iff_getElem?.mp hx
 have:=A9h h i x hi
 rw [Nat.zero_add] at this
 exact⟨i,hi,this⟩
theorem if0 {p:Prop}[Decidable p]{a b:Int}(ha:a≠0)(h:(if p then a else b)=0):¬ p∧b=0:=by
 split at h
 ·exact absurd h ha
 ·rename_i h1;exact⟨h1,h⟩
theorem B5e {α:Type}{g:α→Int}{l:List α}(h:∀ i x,l[i]?=some x→prvB (fun y=>decide (g x≤g y)) l i=false):(l.map g).Pairwise (·<·):=by
 have step:∀ i a b,l[i]?=some a→l[i+1]?=some b→g a<g b:=fun i a b ha hb=>by
  have:=h (i+1) b hb
  simp only [prvB,ha] at this
  have:=of_decide_eq_false this
  omega
 have far:∀ k i a b,l[i]?=some a→l[i+1+k]?=some b→g a<g b:=by
  intro k
  induction k with
  | zero=>intro i a b ha hb;exact step i a b ha hb
  | succ k ih=>
   intro i a b ha hb
   have hlt:=(List.getElem?_eq_some_iff.mp hb).1
   have hc:l[i+1+k]?=some (l[i+1+k]'(by omega)):=List.getElem?_eq_getElem (by omega)
   have h1:=ih i a _ ha hc
   have h2:=step (i+1+k) _ b hc (by rw [show i+1+k+1=i+1+(k+1) by omega];exact hb)
   omega
 rw [List.pairwise_iff_getElem]
 intro i j hi hj hij
 rw [List.length_map] at hi hj
 rw [List.getElem_map,List.getElem_map]
 obtain⟨k,rfl⟩:∃ k,j=i+1+k:=⟨j-i-1,by omega⟩
 exact far k i _ _ (List.getElem?_eq_getElem hi) (List.getElem?_eq_getElem hj)
theorem A7x:∀ {l:List Int},upB l=true→l.Pairwise (·<·)
 | [],_=>List.Pairwise.nil
 | [a],_=>by simp
 | a::b::r,h=>by
  rw [upB,Bool.and_eq_true] at h
  have h1:=of_decide_eq_true h.1
  have h2:=A7x h.2
  refine List.pairwise_cons.mpr ⟨fun x hx=>?_,h2⟩
  rcases List.mem_cons.mp hx with rfl|hx
  ·exact h1
  ·have:=(List.pairwise_cons.mp h2).1 x hx;omega
theorem A2w {l:List Int}(h:l.Pairwise (·<·)):l.Nodup:=h.imp fun {a b} hab e=>by omega
theorem A8w:∀ {l m:List Int},l.Nodup→(∀ x∈l,x∈m)→l.length≤m.length
 | [],_,_,_=>Nat.zero_le _
 | a :: r, m, h, hs => by
  rw [List.nodup_cons] at h
  have ham:=hs a (List.mem_cons_self ..)
  have h1:=A8w (l:=r) (m:=m.erase a) h.2 (fun x hx=>by
   have hxa:x≠a:=fun e=>h.1 (e▸hx)
   exact(List.mem_erase_of_ne hxa).mpr (hs x (List.mem_cons_of_mem _ hx)))
  have h2:=List.length_erase_of_mem ham
  have h3:0<m.length:=List.length_pos_of_mem ham
  rw [List.length_cons];omega
theorem T1 {α:Type}{g:α→Int}{l:List α}(h:(l.map g).Pairwise (·<·)){x:α}(hx:x∈l):l.find? (fun y=>decide (g y=g x))=some x:=by
 induction l with
 | nil=>cases hx
 | cons a r ih=>
  rw [List.map_cons,List.pairwise_cons] at h
  rw [List.find?_cons]
  by_cases e:g a=g x
  ·rw [decide_eq_true e]
   rcases List.mem_cons.mp hx with rfl|hx
   ·rfl
   ·have:=h.1 (g x) (List.mem_map_of_mem hx);omega
  ·rw [decide_eq_false e]
   rcases List.mem_cons.mp hx with rfl|hx
   ·exact absurd rfl e
   ·exact ih h.2 hx
end
section
open Go.RowKit Go.En Go.Dl Go.Tp
theorem C8h {s:Tx}(h:A5z s=0):s.length≤200:=by
 unfold A5z at h
 have:=(if0 (by decide) h).1
 omega
theorem C8f {l:List Tier}{i:Nat}{t:Tier}(h:A2i l i t=0)(hk:t.kind≠0):0≤t.parent∧t.parent<(i:Int):=by
 unfold A2i at h
 obtain⟨_,h⟩:=if0 (by decide) h
 obtain⟨_,h⟩:=if0 (by decide) h
 obtain⟨_,h⟩:=if0 (by decide) h
 obtain⟨_,h⟩:=if0 (by decide) h
 obtain⟨_,h⟩:=if0 (by decide) h
 obtain⟨h1,_⟩:=if0 (by decide) h
 have h2:¬ (t.parent<0∨(i:Int)≤t.parent):=fun e=>h1 (.inr ⟨hk,e⟩)
 omega
structure DocF (d:Doc):Prop where
 tiers:∀(i:Nat) (t:Tier),d.tiers[i]?=some t→t.kind≠0→0≤t.parent∧t.parent<(i:Int)
 ids:(d.notes.map (·.id)).Pairwise (·<·)
 pos:∀ n∈d.notes,1≤n.id
 tr:∀ n∈d.notes,0≤n.tier∧n.tier<(d.tiers.length:Int)
 txt:∀ n∈d.notes,n.text.length≤200
 root:∀ n∈d.notes,(tAt d.tiers n.tier).kind=0→n.parent=0
 over:∀ n∈d.notes,(tAt d.tiers n.tier).kind≠0→∃ m,getN d.notes n.parent=some m∧m.tier=(tAt d.tiers n.tier).parent
theorem B5u {d : Doc}(h : docE d = 0) : DocF d := by
 unfold docE at h
 obtain⟨ht,h⟩:=orE0 h
 obtain⟨_,h⟩:=if0 (by decide) h
 obtain⟨_,h⟩:=if0 (by decide) h
 obtain⟨hn,_⟩:=orE0 h
 unfold A8e at ht
 obtain⟨_,ht⟩:=if0 (by decide) ht
 have hN:∀ i n,d.notes[i]?=some n→(1≤n.id∧prvB (fun h=>decide (n.id≤h.id)) d.notes i=false∧(0≤n.tier∧n.tier<(d.tiers.length:Int))∧n.text.length≤200∧Z3 d n=0):=fun i n hx=>by
  have:=A9h hn i n hx
  rw [Nat.zero_add] at this
  unfold A8v at this
  obtain⟨a1,this⟩:=if0 (by decide) this
  obtain⟨a2,this⟩:=if0 (by decide) this
  obtain⟨a3,this⟩:=if0 (by decide) this
  obtain⟨a4,a5⟩:=orE0 this
  exact⟨by omega,by simpa using a2,by omega,C8h a4,a5⟩
 have hM:∀ n∈d.notes,∃ i,d.notes[i]?=some n:=fun n hn=>List.mem_iff_getElem?.mp hn
 have hP:∀ n∈d.notes,((tAt d.tiers n.tier).kind=0→n.parent=0)∧((tAt d.tiers n.tier).kind≠0→∃ m,getN d.notes n.parent=some m∧m.tier=(tAt d.tiers n.tier).parent):=fun n hn=>by
  obtain⟨i,hi⟩:=hM n hn
  have h1:=(hN i n hi).2.2.2.2
  unfold Z3 at h1
  obtain⟨h2,_⟩:=if0 (by decide) h1
  rw [Bool.not_eq_true,Bool.or_eq_false_iff] at h2
  refine⟨fun hk=>?_,fun hk=>?_⟩
  ·have:=h2.1
   rw [decide_eq_true hk,Bool.true_and] at this
   exact Decidable.not_not.mp (of_decide_eq_false this)
  ·have:=h2.2
   rw [decide_eq_true hk,Bool.true_and,Bool.or_eq_false_iff] at this
   obtain⟨g1,g2⟩:=this
   cases hg:getN d.notes n.parent with
   | none=>rw [hg] at g1;cases g1
   | some m=>
    refine⟨m,rfl,?_⟩
    have:=Decidable.not_not.mp (of_decide_eq_false g2)
    unfold getD at this
    rw [hg] at this
    exact this
 exact {
  tiers:=fun i t hx hk=>by
   have:=A9h ht i t hx
   rw [Nat.zero_add] at this
   exact C8f this hk
  ids:=B5e fun i x hx=>(hN i x hx).2.1
  pos:=fun n hn=>by obtain⟨i,hi⟩:=hM n hn;exact(hN i n hi).1
  tr:=fun n hn=>by obtain⟨i,hi⟩:=hM n hn;exact(hN i n hi).2.2.1
  txt:=fun n hn=>by obtain⟨i,hi⟩:=hM n hn;exact(hN i n hi).2.2.2.1
  root:=fun n hn=>(hP n hn).1
  over:=fun n hn=>(hP n hn).2 }
theorem C0q {l:List Tier}{t:Int}(h0:0≤t)(h1:t<(l.length:Int)):∃ i x,t=((i:Nat):Int)∧l[i]?=some x∧tAt l t=x:=by
 obtain⟨i,rfl⟩:∃ i:Nat,t=(i:Int):=⟨t.toNat,by omega⟩
 obtain⟨x,hx⟩:=gex (l:=l) (i:=i) (by omega)
 refine⟨i,x,rfl,hx,?_⟩
 unfold tAt
 rw [Int.toNat_natCast,hx];rfl
theorem H1e {d : Doc}(h : docL d = true) : GD d := by
 unfold docL at h
 rw [Bool.and_eq_true,Bool.and_eq_true,Bool.and_eq_true] at h
 obtain⟨h1,h2,_,h4⟩:=h
 have F:=B5u (of_decide_eq_true h4)
 exact {
  nn:=of_decide_eq_true h1
  nt:=of_decide_eq_true h2
  tr:=F.tr
  up := fun n hn m hm e => by
   have ht:=F.tr n hn
   obtain⟨i,x,e1,e2,e3⟩:=C0q ht.1 ht.2
   by_cases hk:(tAt d.tiers n.tier).kind=0
   ·have:=F.root n hn hk
    have:=F.pos m hm
    omega
   ·obtain⟨m',g1,g2⟩:=F.over n hn hk
    have g3:getN d.notes n.parent=some m:=by
     rw [e]
     exact T1 (g:=fun y:Note=>y.id) F.ids hm
    rw [g3] at g1
    cases g1
    have:=F.tiers i x e2 (by rw [← e3];exact hk)
    rw [g2,e3];omega
  tp:=F.tiers
  ids:=F.ids }
end
section
open Go.RowKit Go.En Go.Dl Go.Tp
theorem Y9 {α:Type}{p:α→Bool}{l:List α}(h:l.allB p=true):∀ x∈l,p x=true:=by
 rw [B6d,List.all_eq_true] at h;exact h
theorem C2b {n:Nat}{w:List Int}(h:X2 n w=0)(hn:n≤60):w.length≤24∧∀ x∈w,1≤x∧x≤60:=by
 unfold X2 at h
 obtain⟨_,h⟩:=if0 (by decide) h
 obtain⟨h1,h⟩:=if0 (by decide) h
 obtain⟨h2,_⟩:=if0 (by decide) h
 rw [Bool.not_eq_false] at h2
 refine⟨by omega,fun x hx=>?_⟩
 have:=Y9 h2 x hx
 unfold K0 at this
 rw [Bool.and_eq_true] at this
 have a:=of_decide_eq_true this.1
 have b:=of_decide_eq_true this.2
 omega
structure EntF (e:Entr):Prop where
 sens:e.senses.length≤5
 alts:e.alts.length≤3
 links:e.links.length≤12
 refs:e.refs.length≤12
 forms:∀ f∈A5n e,f.length≤24∧∀ x∈f,1≤x∧x≤60
theorem D7q {n : Nat}{e : Entr}(h : entE n e = 0)(hn : n ≤ 60) : EntF e := by
 unfold entE at h
 obtain⟨hw,h⟩:=orE0 h
 obtain⟨hs,h⟩:=orE0 h
 obtain⟨hl,hr⟩:=orE0 h
 unfold B4e at hw
 obtain⟨_,hw⟩:=if0 (by decide) hw
 obtain⟨hf,hw⟩:=orE0 hw
 obtain⟨_,hw⟩:=if0 (by decide) hw
 obtain⟨ha,hw⟩:=if0 (by decide) hw
 unfold A7d at hs
 obtain⟨_,hs⟩:=if0 (by decide) hs
 obtain⟨_,hs⟩:=if0 (by decide) hs
 obtain⟨hs,_⟩:=if0 (by decide) hs
 unfold B5k at hl
 obtain⟨hl,_⟩:=if0 (by decide) hl
 unfold B7n at hr
 obtain⟨hr,_⟩:=if0 (by decide) hr
 exact {
  sens:=by omega
  alts:=by omega
  links:=by omega
  refs:=by omega
  forms := fun f hfm => by
   rcases List.mem_cons.mp hfm with rfl|hfm
   ·exact C2b hf hn
   ·obtain⟨i,_,h1⟩:=Q6 hw hfm
    have h2:X2 n f=0:=by
     by_cases e0:X2 n f=0
     ·exact e0
     ·rw [if_pos e0] at h1;exact absurd h1 e0
    exact C2b h2 hn }
structure LngF (g:Lng):Prop where
 S:LgS g
 X:LgX g
 O:OrS g.ortho
 refs:∀ e∈g.lex,e.refs.length≤12
 lex:g.lex.length≤5
 ids:(g.lex.map (·.id)).Pairwise (·<·)
 mains:∀ e∈g.lex,e.main≠0→hasE g.lex e.main=true
 links:∀ e∈g.lex,∀ x∈e.links,hasE g.lex x.to=true
theorem G3s {g:Lng}(h:A4h g=true):LngF g:=by
 unfold A4h at h
 split at h
 ·cases h
 rename_i hsz
 have hsz:¬ 8<g.segs.length∧A5e g.lex≠false:=⟨fun e=>hsz (.inl e),fun e=>hsz (.inr (.inr (.inr (.inr (.inr (.inr e))))))⟩
 rw [Bool.and_eq_true] at h
 have hE:=of_decide_eq_true h.2
 unfold A9d at hE
 obtain⟨hp,hE⟩:=orE0 hE
 obtain⟨ho,hE⟩:=orE0 hE
 obtain⟨hr,hE⟩:=orE0 hE
 obtain⟨hn,hE⟩:=orE0 hE
 obtain⟨hl,_⟩:=orE0 hE
 have hseg:g.segs.length≤60:=by omega
 unfold lexE at hl
 obtain⟨_,hl⟩:=if0 (by decide) hl
 obtain⟨hl,hl2⟩:=orE0 hl
 have hlex:g.lex.length≤5:=by
  have:=hsz.2
  unfold A5e at this
  split at this
  ·exact absurd rfl this
  ·omega
 have hEnt:∀ i e,g.lex[i]?=some e→EntF e∧prvB (fun h=>decide (e.id≤h.id)) g.lex i=false:=fun i e hx=>by
  have h1:=A9h hl i e hx
  rw [Nat.zero_add] at h1
  by_cases e0:entE g.segs.length e=0
  ·rw [if_neg (fun q=>q e0)] at h1
   obtain⟨h2,_⟩:=if0 (by decide) h1
   exact⟨D7q e0 hseg,by simpa using h2⟩
  ·rw [if_pos e0] at h1;exact absurd h1 e0
 have hEm:∀ e∈g.lex,EntF e:=fun e he=>by
  obtain⟨i,hi⟩:=List.mem_iff_getElem?.mp he
  exact(hEnt i e hi).1
 have hids:(g.lex.map (·.id)).Pairwise (·<·):=B5e fun i x hx=>(hEnt i x hx).2
 unfold netE at hn
 obtain⟨hn1,hn⟩:=if0 (by decide) hn
 obtain⟨_,hn⟩:=if0 (by decide) hn
 obtain⟨hst,hfi⟩:=orE0 hn
 obtain⟨_,hfi⟩:=if0 (by decide) hfi
 obtain⟨hfi,_⟩:=if0 (by decide) hfi
 rw [Bool.not_eq_false] at hfi
 have hq:∀ q,stB g.net q=true→0≤q∧q<32:=fun q hq=>by
  unfold stB at hq
  rw [Bool.and_eq_true] at hq
  have a:=of_decide_eq_true hq.1
  have b:=of_decide_eq_true hq.2
  omega
 unfold B5b at hr
 obtain⟨_,hr⟩:=if0 (by decide) hr
 unfold B7u at ho
 obtain⟨_,ho⟩:=if0 (by decide) ho
 obtain⟨_,ho⟩:=if0 (by decide) ho
 obtain⟨hu,_⟩:=orE0 ho
 have hU:∀ u∈g.ortho.units,u.graph.length≤32∧u.segs.length≤3:=fun u hum=>by
  obtain⟨i,_,h1⟩:=Q6 hu hum
  unfold A7z at h1
  obtain⟨h2,h1⟩:=if0 (by decide) h1
  obtain⟨_,h1⟩:=if0 (by decide) h1
  obtain⟨h3,_⟩:=if0 (by decide) h1
  rw [Bool.not_eq_false] at h2
  unfold A9e H2 at h2
  simp only [Bool.and_eq_true] at h2
  have:=of_decide_eq_true h2.2.2.2.2
  exact⟨by omega,by omega⟩
 exact {
  S:={
   segs:=hseg
   rules:=fun r hrm=>by
    obtain⟨i,_,h1⟩:=Q6 hr hrm
    unfold rewE at h1
    obtain⟨h2,h1⟩:=if0 (by decide) h1
    obtain⟨_,h1⟩:=orE0 h1
    obtain⟨_,h1⟩:=if0 (by decide) h1
    obtain⟨h3,_⟩:=if0 (by decide) h1
    exact { til:=Decidable.not_not.mp fun e=>h2 (.inr e),left:=by omega,right:=by omega }
   steps:=fun x hx=>by
    obtain⟨i,_,h1⟩:=Q6 hst hx
    obtain⟨h2,_⟩:=if0 (by decide) h1
    have a:=hq x.frm (by rw [← Bool.not_eq_false];exact fun e=>h2 (.inl e))
    have b:=hq x.til (by rw [← Bool.not_eq_false];exact fun e=>h2 (.inr e))
    exact⟨a.1,a.2,b.1,b.2⟩
   final:=fun q hqm=>hq q (Y9 hfi q hqm)
   lex:=by omega
   sens:=fun e he=>by have:=(hEm e he).sens;omega
   alts:=fun e he=>by have:=(hEm e he).alts;omega
   forms:=fun e he f hf=>by
    have:=(hEm e he).forms f hf
    exact⟨by omega,fun x hx=>by have:=this.2 x hx;omega⟩ }
  X:={ links:=fun e he=>by have:=(hEm e he).links;omega,ids:=A2w hids }
  O:={ graph:=fun u hu=>by have:=hU u hu;omega,segs:=fun u hu=>by have:=hU u hu;omega }
  refs:=fun e he=>(hEm e he).refs
  lex:=hlex
  ids:=hids
  mains:=fun e he hm=>by
   obtain⟨i,_,h1⟩:=Q6 hl2 he
   obtain⟨h2,_⟩:=if0 (by decide) h1
   rw [← Bool.not_eq_false]
   exact fun q=>h2 ⟨hm,q⟩
  links:=fun e he x hx=>by
   obtain⟨i,_,h1⟩:=Q6 hl2 he
   obtain⟨_,h1⟩:=if0 (by decide) h1
   obtain⟨h2,_⟩:=if0 (by decide) h1
   rw [Bool.not_eq_false] at h2
   exact Y9 h2 x hx }
theorem D1g {l:List Entr}{x:Int}(h:hasE l x=true):x∈l.map (·.id):=by
 unfold hasE getE at h
 cases hf:l.find? fun e=>decide (e.id=x) with
 | none=>rw [hf] at h;cases h
 | some e=>
  have h1:=List.mem_of_find?_eq_some hf
  have h2:=List.find?_some hf
  have h3:e.id=x:=by simpa using h2
  rw [← h3];exact List.mem_map_of_mem h1
theorem G4t {a : Rgts}{recs : List Rc}(h : A0o a recs = true) : RgS a := by
 unfold A0o at h
 split at h
 ·cases h
 rename_i hsz
 have hE:=of_decide_eq_true h
 unfold B1u at hE
 obtain⟨_,hE⟩:=orE0 hE
 obtain⟨_,hE⟩:=orE0 hE
 obtain⟨hg,_⟩:=orE0 hE
 unfold C4h at hg
 obtain⟨_,hg⟩:=if0 (by decide) hg
 obtain⟨hg,_⟩:=orE0 hg
 exact {
  grps:=by omega
  ppl := fun g hgm => by
   obtain⟨i,_,h1⟩:=Q6 hg hgm
   unfold grpE at h1
   obtain⟨_,h1⟩:=if0 (by decide) h1
   obtain⟨_,h1⟩:=if0 (by decide) h1
   obtain⟨_,h1⟩:=if0 (by decide) h1
   obtain⟨h2,h1⟩:=if0 (by decide) h1
   obtain⟨h3,_⟩:=if0 (by decide) h1
   rw [Bool.not_eq_false] at h2 h3
   have h4:=A8w (m:=a.people.map (·.id)) (A2w (A7x h2)) fun x hx=>by
    have h5:=Y9 h3 x hx
    unfold perF at h5
    cases hf:a.people.find? fun y=>decide (y.id=x) with
    | none=>rw [hf] at h5;cases h5
    | some y=>
     have h6:=List.mem_of_find?_eq_some hf
     have h7:=List.find?_some hf
     have h8:y.id=x:=by simpa using h7
     rw [← h8];exact List.mem_map_of_mem h6
   rw [List.length_map] at h4
   omega
  cons:=by omega
  ruls:=by omega }
theorem D7w {a:Rgts}{recs:List Rc}(h:A0o a recs=true):a.consents.length≤12:=by
 unfold A0o at h
 split at h
 ·cases h
 ·rename_i hsz;omega
structure PrjF (p:Prj):Prop where
 V:PrV p
 L:LngF p.lang
 D:∀ d∈p.docs,DocF d
 nd:p.docs.length≤2
 nc:p.dcns.length≤6
 np:p.pnts.length≤4
 cons:p.rgts.consents.length≤12
 docs:(p.docs.map (·.rc.id)).Pairwise (·<·)
theorem C0y {p:Prj}(h:prjL p=true):PrjF p:=by
 unfold prjL at h
 split at h
 ·cases h
 rename_i hsz
 have h1:prjE p=0:=Decidable.not_not.mp fun e=>hsz (.inl e)
 have h2:A4h p.lang=true:=by rw [← Bool.not_eq_false];exact fun e=>hsz (.inr (.inl e))
 have h3:A0o p.rgts (p.docs.map (·.rc))=true:=by rw [← Bool.not_eq_false];exact fun e=>hsz (.inr (.inr (.inr (.inr (.inr e)))))
 have hL:=G3s h2
 unfold prjE at h1
 obtain⟨_,h1⟩:=orE0 h1
 obtain⟨_,h1⟩:=if0 (by decide) h1
 obtain⟨hd,h1⟩:=orE0 h1
 obtain⟨_,h1⟩:=orE0 h1
 obtain⟨hp,_⟩:=orE0 h1
 have hD:∀ i d,p.docs[i]?=some d→docE d=0∧prvB (fun h=>decide (d.rc.id≤h.rc.id)) p.docs i=false:=fun i d hx=>by
  have h4:=A9h hd i d hx
  rw [Nat.zero_add] at h4
  by_cases e0:docE d=0
  ·rw [if_neg (fun q=>q e0)] at h4
   obtain⟨h5,_⟩:=if0 (by decide) h4
   exact⟨e0,by simpa using h5⟩
  ·rw [if_pos e0] at h4;exact absurd h4 e0
 have hDm:∀ d∈p.docs,DocF d:=fun d hdm=>by
  obtain⟨i,hi⟩:=List.mem_iff_getElem?.mp hdm
  exact B5u (hD i d hi).1
 unfold C3e at hp
 obtain⟨_,hp⟩:=if0 (by decide) hp
 have hPt:∀ q∈p.pnts,q.refs.length≤12∧q.entries.length≤5:=fun q hqm=>by
  obtain⟨i,_,h4⟩:=Q6 hp hqm
  obtain⟨_,h4⟩:=if0 (by decide) h4
  obtain⟨_,h4⟩:=if0 (by decide) h4
  unfold pntE at h4
  obtain⟨_,h4⟩:=if0 (by decide) h4
  obtain⟨_,h4⟩:=orE0 h4
  obtain⟨h5,h4⟩:=if0 (by decide) h4
  obtain⟨h6,h4⟩:=if0 (by decide) h4
  obtain⟨h7,_⟩:=if0 (by decide) h4
  rw [Bool.not_eq_false] at h5 h6
  have h8:=A8w (m:=p.lang.lex.map (·.id)) (A2w (A7x h5)) fun x hx=>D1g (Y9 h6 x hx)
  rw [List.length_map] at h8
  have:=hL.lex
  exact⟨by omega,by omega⟩
 exact {
  V:={
   w:={ rg:=G4t h3,docs:=fun d hdm=>H1e (Y9 h d hdm),texts:=fun d hdm n hn=>by have:=(hDm d hdm).txt n hn;omega,lang:=hL.S,orth:=hL.O }
   x:=hL.X
   refs:=fun e he=>by have:=hL.refs e he;omega
   prefs:=fun q hq=>by have:=hPt q hq;omega
   ents:=fun q hq=>by have:=hPt q hq;omega
   nd:=by omega
   nc:=by omega
   np:=by omega }
  L:=hL
  D:=hDm
  nd:=by omega
  nc:=by omega
  np:=by omega
  cons:=D7w h3
  docs:=B5e fun i x hx=>(hD i x hx).2 }
end
end Go.Proofs.YtojadfppncgphaaGreatDoor