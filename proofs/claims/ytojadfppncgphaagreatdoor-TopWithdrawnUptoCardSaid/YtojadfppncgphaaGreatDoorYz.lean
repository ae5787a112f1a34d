/- Own text. -/
import Derived.Test.YtojadfppncgphaaGreatDoorYy
set_option linter.all false
set_option maxHeartbeats 16000000
set_option maxRecDepth 8000
namespace Go.Proofs.YtojadfppncgphaaGreatDoor
section
open Go.RowKit Go.En Go.Dl Go.Tp
attribute [local irreducible] X XL XW XG XK Val LS Fp Fo Calls bodyPost Code.wp
abbrev lt278 (x y:Spn):Bool:=decide (cmpI x.frm y.frm<0)
theorem c278 (l:List Spn) (n:Nat) (hl:l.length≤1000):Fo Tryz.prog 278 [.o 1000 n,.d (dI 0),.d (dI l.length),.d (.v (.func (.func 210) #[] #[]))] [(1000,.ls 82 2 n (l.map spnC))] (.t []) [(1000,.ls 82 2 n ((isrt lt278 l).map spnC))]:=by
 refine fo_X (n:=53) Tryz.func278 rfl Tryz.ntmps278 rfl fun c hM=>?_
 (repeat' (first|refine Wz ?_|fail))
 refine X_lp (ι:=Nat × List Spn) 9007199254737664 [1000] (fun s=>[(8,.d (dI s.1))]) (fun s=>[(1000,.ls 82 2 n (s.2.map spnC))]) (fun s=>1≤s.1∧(s.1≤l.length∨s.1=1)∧s.2=isrt lt278 (l.take s.1)++l.drop s.1) (fun s=>l.length-s.1) ((1,l)) ?_ ?_
 ·exact⟨Nat.le_refl _,.inr rfl,by rw [B6u,List.take_append_drop]⟩
 rintro⟨i,D⟩ ⟨hi1,hi,hD⟩
 dsimp only at hi1 hi hD ⊢
 obtain⟨pre,hpre⟩:∃ pre,isrt lt278 (l.take i)=pre:=⟨_,rfl⟩
 rw [hpre] at hD
 by_cases hlt:i<l.length
 rotate_left
 ·(repeat' (first|refine Wz ?_|refine Wd (fun hh=>?_) fun hh=>?_))
  all_goals (try exact oMw)
  rw [hD,← hpre,List.take_of_length_le (by omega),List.drop_eq_nil_of_le (by omega),List.append_nil]
  (first|exact A9 hM rfl rfl rfl tRw Z Z|exact C0 (A9 hM rfl rfl rfl tRw Z Z))
 obtain⟨x,hx⟩:=gex hlt
 have hpl:pre.length=i:=by rw [← hpre,W9,List.length_take];omega
 rw [B0f hx hpl] at hD
 have hnx:=B1t lt278 hx
 rw [hpre] at hnx
 obtain⟨rest,hrest⟩:∃ rest,l.drop (i+1)=rest:=⟨_,rfl⟩
 rw [hrest] at hD
 have hrl:rest.length=l.length-(i+1):=by rw [← hrest,List.length_drop]
 subst hD
 (repeat' (first|refine Wz ?_|refine Wd (fun hh=>?_) fun hh=>?_))
 all_goals (try exact oMw)
 refine X_lp (ι:=Nat) 9007199254479360 [1000] (fun j=>[(9,.d (dI j))]) (fun j=>[(1000,.ls 82 2 n ((swp pre x rest j).map spnC))]) (fun j=>j≤i∧insN (lt278 x) pre pre.length=insN (lt278 x) pre j) (fun j=>j) (i) ?_ ?_
 ·exact⟨Nat.le_refl _,by rw [hpl]⟩
 rintro j ⟨hj,hins⟩
 have hfin:∀ k,insN (lt278 x) pre pre.length=k→insL lt278 pre x++rest=isrt lt278 (l.take (i+1))++l.drop (i+1):=fun k _=>by rw [hnx,hrest]
 cases j with
 | zero=>
  (repeat' (first|refine Wz ?_|refine Wd (fun hh=>?_) fun hh=>?_))
  all_goals (try exact oMw)
  rw [A6a lt278 (show insN (lt278 x) pre pre.length=0 from hins)]
  skip
  exact A0 (i+1,insL lt278 pre x++rest) ⟨by dsimp only;omega,.inl (by dsimp only;omega),hfin _ hins⟩ (by dsimp only;omega)
 | succ j=>
  obtain⟨y,hy⟩:=gex (l:=pre) (i:=j) (by omega)
  have hsl:(swp pre x rest (j+1)).length=l.length:=by rw [C0l,hrl,hpl];omega
  have h1:=D6j (pre:=pre) (x:=x) (rest:=rest) (j:=j+1) (by omega)
  have h2:=D6i (x:=x) (rest:=rest) hy
  obtain⟨D,hDD⟩:∃ D,swp pre x rest (j+1)=D:=⟨_,rfl⟩
  have hnext:=B5n (x:=x) (rest:=rest) hy
  have hend:=A6a (rest:=rest) lt278 (pre:=pre) (x:=x) (j:=j+1)
  rw [hDD] at hsl h1 h2 hnext hend ⊢
  have cc:=c210 x y
  obtain⟨z,hz⟩:∃ z,cmpI x.frm y.frm=z:=⟨_,rfl⟩
  rw [hz] at cc
  by_cases hc:z<0
  ·have hi2:=A7z (p:=lt278 x) hy (by show decide (cmpI x.frm y.frm<0)=true;rw [hz];exact decide_eq_true hc)
   have h3:(D.set (j+1) y)[j]?=some y:=by rw [List.getElem?_set_ne (by omega)];exact h2
   (repeat' (first|refine G_x (A7 (m:=j+1) rfl rfl rfl rfl (by first|rfl|omega) lOw) rfl rfl ?_|refine G_x (A7 (m:=j) rfl rfl rfl rfl (by first|rfl|omega) lOw) rfl rfl ?_|refine G_x (J7 (m:=j+1) rfl rfl rfl rfl (by first|rfl|omega) (gm h1)) rfl rfl ?_|refine G_x (J7 (m:=j) rfl rfl rfl rfl (by first|rfl|omega) (gm h2)) rfl rfl ?_|refine G_x (G8 rfl rfl rfl rfl D8i (cc)) rfl rfl ?_|refine G_s (M1 (m:=j+1) (j:=0) (q':=y) rfl rfl rfl rfl rfl rfl (by first|rfl|omega) h1 (by decide) rfl) rfl rfl rfl ?_|refine G_s (M1 (m:=j) (j:=0) (q':=x) rfl rfl rfl rfl rfl rfl (by first|rfl|omega) h3 (by decide) rfl) rfl rfl rfl ?_|refine Wz ?_|refine Wd (fun hh=>?_) fun hh=>?_))
   all_goals (try exact oMw)
   rw [hnext]
   exact A0 j ⟨by omega,by rw [hins,hi2]⟩ (by omega) (hf:=A6 (congrArg (fun z:Int=>some (Lf.d (dI z))) (by omega)) (B9 _))
  ·have hi2:=B4a (p:=lt278 x) hy (by show decide (cmpI x.frm y.frm<0)=false;rw [hz];exact decide_eq_false hc)
   (repeat' (first|refine G_x (A7 (m:=j+1) rfl rfl rfl rfl (by first|rfl|omega) lOw) rfl rfl ?_|refine G_x (A7 (m:=j) rfl rfl rfl rfl (by first|rfl|omega) lOw) rfl rfl ?_|refine G_x (J7 (m:=j+1) rfl rfl rfl rfl (by first|rfl|omega) (gm h1)) rfl rfl ?_|refine G_x (J7 (m:=j) rfl rfl rfl rfl (by first|rfl|omega) (gm h2)) rfl rfl ?_|refine G_x (G8 rfl rfl rfl rfl D8i (cc)) rfl rfl ?_|refine Wz ?_|refine Wd (fun hh=>?_) fun hh=>?_))
   all_goals (try exact oMw)
   rw [hend (hins.trans hi2)]
   exact A0 (i+1,insL lt278 pre x++rest) ⟨by dsimp only;omega,.inl (by dsimp only;omega),hfin _ (hins.trans hi2)⟩ (by dsimp only;omega)
end
section
open Go.RowKit Go.En Go.Dl Go.Tp
attribute [local irreducible] X XL XW XG XK Val LS Fp Fo Calls bodyPost Code.wp
theorem G8x (l:List Spn):Fp Tryz.prog 205 [spnD l,.v (.func (.func 208) #[] #[])] (dI (ixF (fun x=>!A8 x) l 0)):=by
 refine fXw Tryz.func205 Tryz.ntmps205 fun c hM=>?_
 (repeat' (first|refine Wz ?_|refine Wb fun hb=>?_))
 refine X_lp (ι:=Nat) 524080 [] (fun i=>[(8,.d (dI i))]) (fun _=>[]) (fun i=>i≤l.length∧ixF (fun x=>!A8 x) l 0=ixF (fun x=>!A8 x) (l.drop i) i) (fun i=>l.length-i) (0) ?_ ?_
 ·exact⟨Nat.zero_le _,rfl⟩
 rintro i ⟨hi,hq⟩
 by_cases hlt:i<l.length
 ·obtain⟨n,hn⟩:=gex hlt
  have cl:=c208 n
  obtain⟨b,hb⟩:∃ b,(!A8 n)=b:=⟨_,rfl⟩
  rw [hb] at cl
  rw [drp hn,ixF,hb] at hq
  cases b
  all_goals (
   (repeat' (first|refine iDw (gm hn) ?_|refine G_x (G8 rfl rfl rfl rfl D0h (cl)) rfl rfl ?_|refine Wz ?_|refine Wd (fun hh=>?_) fun hh=>?_))
   all_goals (try exact oMw)
   all_goals (first|exact A0 (i+1) ⟨by omega,by rw [hq];rfl⟩ (by omega)|(refine rEw hM ?_;rw [hq];rfl)))
 ·(repeat' (first|refine Wz ?_|refine Wd (fun hh=>?_) fun hh=>?_))
  all_goals (try exact oMw)
  rw [hq,List.drop_eq_nil_of_le (by omega)]
  refine rEw hM ?_
  rfl
end
section
open Go.RowKit Go.En Go.Dl Go.Tp
attribute [local irreducible] X XL XW XG XK Val LS Fp Fo Calls bodyPost Code.wp
def blen (n:Nat):Int:=[0,1,2,2,3,3,3,3,4,4,4,4,4].getD n 0
theorem c287 (n:Nat) (hn:n≤12):Fp Tryz.prog 287 [.v (.int .u64 (n:Int))] (dI (blen n)):=by
 have h:n=0∨n=1∨n=2∨n=3∨n=4∨n=5∨n=6∨n=7∨n=8∨n=9∨n=10∨n=11∨n=12:=by omega
 rcases h with rfl|rfl|rfl|rfl|rfl|rfl|rfl|rfl|rfl|rfl|rfl|rfl|rfl
 all_goals (
  refine fXw Tryz.func287 Tryz.ntmps287 fun c hM=>?_
  (repeat' (first|refine G_x (A5 fun _=>C0f Z Z Z) Z Z ?_|refine G_x (A5 fun _=>O9 Z Z (by decide) (by decide)) Z Z ?_|refine G_x (A5 fun _=>D9 Z Z Z Z Z) Z Z ?_|refine G_x (A5 fun _=>C0g (k:=.i64) Z Z Z (by decide) (by decide)) Z Z ?_|refine Wz ?_|fail))
  exact rXw hM)
theorem c254 (n:Nat) (hn:n≤12):Fp Tryz.prog 254 [.v (.int .u64 (n:Int))] (dI (blen n)):=by
 refine fXw Tryz.func254 Tryz.ntmps254 fun c hM=>?_
 (repeat' (first|refine cDw G5g (c287 n hn) ?_|refine Wz ?_|fail))
 exact rXw hM
theorem c253 (l:List Spn) (n:Nat) (z:Int) (hl:l.length≤12):Fo Tryz.prog 253 [.o 1000 n,.d (dI 0),.d (dI l.length),.d (dI z),.d (.v (.func (.func 210) #[] #[]))] [(1000,.ls 82 2 n (l.map spnC))] (.t []) [(1000,.ls 82 2 n ((isrt lt278 l).map spnC))]:=by
 refine fo_X (n:=148) Tryz.func253 rfl Tryz.ntmps253 rfl fun c hM=>?_
 (repeat' (first|refine Wz ?_|fail))
 refine X_un ?_
 (repeat' (first|refine G_c (B5 [(1000,1000)] (c278 l n (by omega)) rfl rfl rfl rfl tRw G5h) rfl rfl rfl ?_|refine Wz ?_|refine Wd (fun hh=>?_) fun hh=>?_))
 all_goals (try exact oMw)
 all_goals (first|exact A9 hM rfl rfl rfl tRw Z Z|exact C0 (A9 hM rfl rfl rfl tRw Z Z))
theorem c209 (l:List Spn) (n:Nat) (hl:l.length≤12):Fo Tryz.prog 209 [.o 1000 n,.d (.v (.func (.func 210) #[] #[]))] [(1000,.ls 82 2 n (l.map spnC))] (.t []) [(1000,.ls 82 2 n ((isrt lt278 l).map spnC))]:=by
 refine fo_X (n:=14) Tryz.func209 rfl Tryz.ntmps209 rfl fun c hM=>?_
 (repeat' (first|refine G_x (A5 fun _=>O9 (k':=.u64) Z Z (by show(0:Int)≤_;omega) (by show _≤(18446744073709551615:Int);omega)) Z Z ?_|refine G_x (A1 rfl rfl rfl G5v (c254 l.length hl)) Z Z ?_|refine G_c (B5 [(1000,1000)] (c253 l n _ hl) Z Z Z Z tRw G5w) Z Z Z ?_|refine Wz ?_|fail))
 all_goals (try exact oMw)
 all_goals (first|exact A9 hM rfl rfl rfl tRw Z Z|exact C0 (A9 hM rfl rfl rfl tRw Z Z))
theorem c207 (l:List Spn) (hl:l.length≤1000):Fo Tryz.prog 207 [.d (spnD l)] [] (.o 5 1) [(5,.ls 82 2 1 (l.map spnC))]:=by
 refine fo_X (n:=8) Tryz.func207 rfl Tryz.ntmps207 rfl fun c hM=>?_
 (repeat' (first|(refine D2o rfl rfl rfl rfl rfl (fun b hb=>?_);cases b)|refine G_nd rfl rfl (N4 _ rfl rfl rfl rfl rfl) rfl ?_|refine Wz ?_|fail))
 ·(first|exact A9 hM rfl rfl rfl tRw Z Z|exact C0 (A9 hM rfl rfl rfl tRw Z Z))
 ·have h0:l=[]:=by
   cases l with
   | nil=>rfl
   | cons x r=>exact absurd (hb (by simp)) (by simp)
  subst h0
  refine D5v 2 5 82 2 rfl rfl ?_
  refine C3h 2 rfl rfl ?_
  (first|exact A9 hM rfl rfl rfl tRw Z Z|exact C0 (A9 hM rfl rfl rfl tRw Z Z))
end
section
open Go.RowKit Go.En Go.Dl Go.Tp
theorem B1s {α:Type} (p:α→Bool):∀(l:List α) (k:Int),(ixF (fun x=>!p x) l k = -1∧l.filter p=l)∨∃(i:Nat) (x:α),ixF (fun x=>!p x) l k=k+(i:Int)∧l[i]?=some x∧p x=false∧(l.take i).filter p=l.take i
 | [],k=>.inl ⟨rfl,rfl⟩
 | x :: r, k => by
  cases hp:p x with
  | false=>exact .inr ⟨0,x,by rw [ixF,if_pos (by simp [hp])];simp,rfl,hp,rfl⟩
  | true=>
   rcases B1s p r (k+1) with⟨h1,h2⟩|⟨i,y,h1,h2,h3,h4⟩
   ·refine .inl ⟨by rw [ixF,if_neg (by simp [hp])];exact h1,by rw [List.filter_cons_of_pos hp,h2]⟩
   ·refine .inr ⟨i+1,y,by rw [ixF,if_neg (by simp [hp]),h1];omega,h2,h3,by rw [List.take_succ_cons,List.filter_cons_of_pos hp,h4]⟩
theorem G1 {α:Type} {p:α→Bool} {l:List α} {j:Nat} {x:α} (h:l[j]?=some x) (hp:p x=true):(l.take (j+1)).filter p=(l.take j).filter p++[x]:=by
 rw [List.take_add_one,h,List.filter_append];simp [hp]
theorem G3 {α:Type} {p:α→Bool} {l:List α} {j:Nat} {x:α} (h:l[j]?=some x) (hp:p x=false):(l.take (j+1)).filter p=(l.take j).filter p:=by
 rw [List.take_add_one,h,List.filter_append];simp [hp]
attribute [local irreducible] X XL XW XG XK Val LS Fp Fo Calls bodyPost Code.wp
theorem c206 (l : List Spn) (n : Nat) (hl : l.length ≤ 1000) : Fo Tryz.prog 206 [.o 1000 n, .d (.v (.func (.func 208) #[] #[]))] [(1000, .ls 82 2 n (l.map spnC))] (.o 1000 (n + 1)) [(1000, .ls 82 2 (n + 1) ((l.filter A8).map spnC))] := by
 have cix:=G8x l
 refine fo_X (n:=42) Tryz.func206 rfl Tryz.ntmps206 rfl fun c hM=>?_
 rcases B1s A8 l 0 with⟨h1,h2⟩|⟨k,x,h1,h2,h3,h4⟩
 ·rw [h1] at cix
  rw [h2]
  (repeat' (first|refine G_x (A0e (xs:=[spnD l,.v (.func (.func 208) #[] #[])]) [1000] rfl rfl ⟨_,_,rfl,⟨by simp,82,2,_,rfl,rfl,by rw [List.length_map];omega⟩,⟨_,_,rfl,rfl,rfl⟩⟩ rfl D0i cix) rfl rfl ?_|refine Wz ?_|refine Wd (fun hh=>?_) fun hh=>?_))
  all_goals (try exact oMw)
  refine C3h 4 rfl rfl ?_
  (first|exact A9 hM rfl rfl rfl tRw Z Z|exact C0 (A9 hM rfl rfl rfl tRw Z Z))
 rw [Int.zero_add] at h1
 rw [h1] at cix
 have hkl:=(List.getElem?_eq_some_iff.1 h2).1
 (repeat' (first|refine G_x (A0e (xs:=[spnD l,.v (.func (.func 208) #[] #[])]) [1000] rfl rfl ⟨_,_,rfl,⟨by simp,82,2,_,rfl,rfl,by rw [List.length_map];omega⟩,⟨_,_,rfl,rfl,rfl⟩⟩ rfl D0i cix) rfl rfl ?_|refine Wz ?_|refine Wd (fun hh=>?_) fun hh=>?_))
 all_goals (try exact oMw)
 refine X_lp (ι:=Nat × Nat × List Spn) 68719411424 [1000] (fun s=>[(5,.d (dI s.1)),(6,.d (dI s.2.1))]) (fun s=>[(1000,.ls 82 2 n (s.2.2.map spnC))]) (fun s=>s.2.1≤l.length∧s.1<s.2.1∧s.2.2.length=l.length∧s.2.2.take s.1=(l.take s.2.1).filter A8∧s.2.2.drop s.2.1=l.drop s.2.1) (fun s=>l.length-s.2.1) ((k,k+1,l)) ?_ ?_
 ·exact⟨by dsimp only;omega,Nat.lt_succ_self _,rfl,by dsimp only;rw [G3 h2 h3,h4],rfl⟩
 rintro⟨i,j,D⟩ ⟨hj,hij,hD,hpre,hrest⟩
 dsimp only at hj hij hD hpre hrest ⊢
 by_cases hlt:j<l.length
 ·obtain⟨x,hx⟩:=gex hlt
  have hxD:D[j]?=some x:=by
   have:=congrArg (fun q=>q[0]?) hrest
   simpa [List.getElem?_drop,hx] using this
  have hdr:D.drop (j+1)=l.drop (j+1):=by
   have:=congrArg (fun q=>q.drop 1) hrest
   simpa [List.drop_drop] using this
  obtain⟨y,hy⟩:=gex (l:=D) (i:=i) (by omega)
  cases hr:A8 x with
  | true=>
   have cl:Fp Tryz.prog 208 [.g (spnC x)] (dB false):=by have:=c208 x;rwa [hr] at this
   (repeat' (first|refine G_x (A7 (m:=j) rfl rfl rfl rfl (by first|rfl|omega) lOw) rfl rfl ?_|refine G_x (A7 (m:=i) rfl rfl rfl rfl (by first|rfl|omega) lOw) rfl rfl ?_|refine G_x (J7 (m:=j) rfl rfl rfl rfl (by first|rfl|omega) (gm hxD)) rfl rfl ?_|refine G_x (G8 rfl rfl rfl rfl D0h (cl)) rfl rfl ?_|refine G_s (M1 (m:=i) (j:=0) (q':=x) rfl rfl rfl rfl rfl rfl (by first|rfl|omega) hy (by decide) rfl) rfl rfl rfl ?_|refine Wz ?_|refine Wd (fun hh=>?_) fun hh=>?_))
   all_goals (try exact oMw)
   exact A0 (i+1,j+1,D.set i x) ⟨by dsimp only;omega,by dsimp only;omega,by dsimp only;rw [List.length_set];exact hD,by
    dsimp only
    rw [G1 hx hr,← hpre,List.take_add_one,List.getElem?_set_self (by omega),List.take_set_of_le (Nat.le_refl _)];rfl,by
    dsimp only
    rw [List.drop_set_of_lt (by omega)];exact hdr⟩ (by dsimp only;omega)
  | false=>
   have cl:Fp Tryz.prog 208 [.g (spnC x)] (dB true):=by have:=c208 x;rwa [hr] at this
   (repeat' (first|refine G_x (A7 (m:=j) rfl rfl rfl rfl (by first|rfl|omega) lOw) rfl rfl ?_|refine G_x (J7 (m:=j) rfl rfl rfl rfl (by first|rfl|omega) (gm hxD)) rfl rfl ?_|refine G_x (G8 rfl rfl rfl rfl D0h (cl)) rfl rfl ?_|refine Wz ?_|refine Wd (fun hh=>?_) fun hh=>?_))
   all_goals (try exact oMw)
   exact A0 (i,j+1,D) ⟨by dsimp only;omega,by dsimp only;omega,hD,by dsimp only;rw [G3 hx hr];exact hpre,hdr⟩ (by dsimp only;omega)
 ·have hjl:j=l.length:=by omega
  subst hjl
  rw [List.take_length] at hpre
  (repeat' (first|refine G_x (A3g (a:=i) rfl rfl rfl rfl rfl (by rw [List.length_map];omega)) rfl rfl ?_|refine G_s (C4f rfl rfl rfl rfl rfl (by rw [List.length_map];omega) (Nat.le_refl _)) rfl rfl rfl ?_|refine G_x (D4t (b:=i) rfl rfl rfl rfl rfl (by simp only [List.length_append,List.length_take,List.length_map,List.length_replicate,List.length_drop];omega)) rfl rfl ?_|refine Wz ?_|refine Wd (fun hh=>?_) fun hh=>?_))
  all_goals (try exact oMw)
  refine D5u 4 rfl rfl (by simp only [List.length_append,List.length_take,List.length_map,List.length_replicate,List.length_drop];omega) ?_
  rw [List.append_assoc,List.take_append_of_le_length (by rw [List.length_take,List.length_map];omega),List.take_take,Nat.min_self,← List.map_take,hpre]
  (first|exact A9 hM rfl rfl rfl tRw Z Z|exact C0 (A9 hM rfl rfl rfl tRw Z Z))
end
section
open Go.RowKit Go.En Go.Dl Go.Tp
theorem W8 {d:Doc} (hg:GD d) (id t:Int):(Q5 d id t).length≤14:=by
 unfold Q5
 rw [List.length_map,W9]
 exact Nat.le_trans (List.length_filter_le _ _) hg.nn
theorem A3r {α β:Type} {f:α→List β} {m:Nat} (h:∀ x,(f x).length≤m):∀ l:List α,(l.flatMap f).length≤m*l.length
 | []=>Nat.zero_le _
 | x::r=>by
  have h1:=A3r h r
  have h2:=h x
  rw [List.flatMap_cons,List.length_append,List.length_cons,Nat.mul_add,Nat.mul_one];omega
theorem B3u {d : Doc} (hg : GD d) : ∀ (k : Nat) (t : Int), (ofF d k t).length ≤ 14 ^ k
 | 0,_=>Nat.zero_le _
 | k + 1, t => by
  rw [ofF,Nat.pow_succ]
  have hp:1≤14 ^ k:=Nat.one_le_pow _ _ (by omega)
  split
  ·exact Nat.zero_le _
  ·split
   ·have:=W8 hg 0 t;omega
   ·have h1:=A3r (m:=14) (fun x=>W8 hg x t) (ofF d k (tAt d.tiers t).parent)
    have h2:=B3u hg k (tAt d.tiers t).parent
    omega
attribute [local irreducible] X XL XW XG XK Val LS Fp Fo Calls bodyPost Code.wp
theorem c248 (l:List Note) (n:Nat) (hl:l.length≤14):Fo Tryz.prog 248 [.o 1000 n,.d (dI l.length),.d (.v (.func (.func 201) #[] #[]))] [(1000,.ls 142 7 n (l.map D0))] (.t []) [(1000,.ls 142 7 n ((isrt lt275 l).map D0))]:=by
 refine fo_X (n:=63) Tryz.func248 rfl Tryz.ntmps248 rfl fun c hM=>?_
 (repeat' (first|refine X_un ?_|refine G_c (B5 [(1000,1000)] (c275 l n (by omega)) rfl rfl rfl rfl tRw G5j) rfl rfl rfl ?_|refine Wz ?_|refine Wd (fun hh=>?_) fun hh=>?_))
 all_goals (try exact oMw)
 (first|exact A9 hM rfl rfl rfl tRw Z Z|exact C0 (A9 hM rfl rfl rfl tRw Z Z))
theorem c200 (l:List Note) (n:Nat) (hl:l.length≤14):Fo Tryz.prog 200 [.o 1000 n,.d (.v (.func (.func 201) #[] #[]))] [(1000,.ls 142 7 n (l.map D0))] (.t []) [(1000,.ls 142 7 n ((isrt lt275 l).map D0))]:=by
 refine fo_X (n:=9) Tryz.func200 rfl Tryz.ntmps200 rfl fun c hM=>?_
 (repeat' (first|refine G_c (B5 [(1000,1000)] (c248 l n hl) rfl rfl rfl rfl tRw G5z) rfl rfl rfl ?_|refine Wz ?_|fail))
 (first|exact A9 hM rfl rfl rfl tRw Z Z|exact C0 (A9 hM rfl rfl rfl tRw Z Z))
theorem c129 (d:Doc) (id t:Int) (hg:GD d):Fp Tryz.prog 129 [.g (docC d),dI id,dI t] (ints (Q5 d id t)):=by
  obtain⟨K,hK⟩:∃ K:Note→Bool,K=fun n=>decide (n.tier=t)&&(decide (n.parent=id)&&(decide (0≤t)&&decide (t<(d.tiers.length:Int)))):=⟨_,rfl⟩
  have e:Q5 d id t=(isrt lt275 (d.notes.filter K)).map (·.id):=by rw [hK];rfl
  have hfl:=List.length_filter_le K d.notes
  have hnn:=hg.nn
  obtain⟨S,hS⟩:∃ S,isrt lt275 (d.notes.filter K)=S:=⟨_,rfl⟩
  have hSl:S.length≤14:=by rw [← hS,W9];omega
  rw [e,hS]
  refine fXw Tryz.func129 Tryz.ntmps129 fun c hM=>?_
  (repeat' (first|refine Wz ?_|refine Wb fun hb=>?_))
  refine D5 7 7 142 7 rfl rfl ?_
  refine X_lp (ι:=Nat × Nat) 70368744112768 [7] (fun s=>[(7,.o 7 s.2),(16,.d (dI s.1))]) (fun s=>[(7,.ls 142 7 s.2 (((d.notes.take s.1).filter K).map D0))]) (fun s=>s.1≤d.notes.length) (fun s=>d.notes.length-s.1) ((0,0)) ?_ ?_
  · exact Nat.zero_le _
  rintro⟨i,v⟩ hi
  dsimp only at hi ⊢
  by_cases hlt:i<d.notes.length
  · obtain⟨n,hn⟩:=gex hlt
    have hKn:K n=(decide (n.tier=t)&&(decide (n.parent=id)&&(decide (0≤t)&&decide (t<(d.tiers.length:Int))))):=by rw [hK]
    have hle:((d.notes.take i).filter K).length≤14:=Nat.le_trans (List.length_filter_le _ _) (by rw [List.length_take];omega)
    (repeat' (first|refine iDw (gm hn) ?_|refine Wz ?_|refine Wb fun hb=>?_|refine Wd (fun hh=>?_) fun hh=>?_))
    all_goals (try exact oMw)
    all_goals first
      | (have hy : K n = true := (by rw [hKn]; simp [*]; done)
         have hrow:((d.notes.take (i+1)).filter K).map D0=((d.notes.take i).filter K).map D0++[D0 n]:=(by rw [G1 hn hy];simp)
         exact A0 (i+1,v+1) (by dsimp only;omega) (by dsimp only;omega) (hh:=A3 (by dsimp only;rw [hrow];rfl) (A4 _)))
      | (have hf : K n = false := (by rw [hKn]; simp [*]; done)
         exact A0 (i+1,v) (by dsimp only;omega) (by dsimp only;omega) (hh:=A3 (by dsimp only;rw [G3 hn hf];rfl) (A4 _)))
  · have hz:i=d.notes.length:=by omega
    subst hz
    rw [List.take_length]
    have c2:=c200 (d.notes.filter K) v (by omega)
    rw [hS] at c2
    (repeat' (first|refine G_c (B5 [(1000,7)] (c2) rfl rfl rfl rfl tRw G7b) rfl rfl rfl ?_|refine Wz ?_|refine Wd (fun hh=>?_) fun hh=>?_))
    all_goals (try exact oMw)
    refine B4q 48 rfl rfl lOw ?_
    refine D5 10 10 3 1 rfl rfl ?_
    refine X_lp (ι:=Nat) 1151795604700009472 [10] (fun i=>[(10,.o 10 i),(50,.d (dI i))]) (fun i=>[(10,.ls 3 1 i (((S.take i).map (·.id)).map iC))]) (fun i=>i≤S.length) (fun i=>S.length-i) (0) ?_ ?_
    · exact Nat.zero_le _
    rintro i hi2
    by_cases hlt2:i<S.length
    · obtain⟨n,hn⟩:=gex hlt2
      have hrow:((S.take (i+1)).map (·.id)).map iC=((S.take i).map (·.id)).map iC++[iC n.id]:=by rw [List.take_add_one,hn];simp
      (repeat' (first|refine iDw (gm hn) ?_|refine Wz ?_|refine Wd (fun hh=>?_) fun hh=>?_))
      all_goals (try exact oMw)
      exact A0 (i+1) (by omega) (by omega) (hh:=A3 (by rw [hrow];rfl) (A4 _))
    · have hz:i=S.length:=by omega
      subst hz
      rw [List.take_length]
      (repeat' (first|refine Wz ?_|refine Wd (fun hh=>?_) fun hh=>?_))
      all_goals (try exact oMw)
      refine C3 6 rfl rfl lOw ?_
      exact rXw hM
theorem c112 (d:Doc) (hg:GD d):∀(k:Nat) (t:Int),k≤7→1≤k→(0≤t→t<(d.tiers.length:Int)→t<(k:Int))→Fp Tryz.prog 112 [.g (docC d),dI t] (ints (ofF d k t)):=by
 intro k
 induction k with
 | zero=>intro t _ h;omega
 | succ k ih=>
  intro t hk7 _ hk
  rw [ofF]
  by_cases h0:t<0∨(d.tiers.length:Int)≤t
  ·rw [if_pos h0]
   refine fXw Tryz.func112 Tryz.ntmps112 fun c hM=>?_
   (repeat' (first|refine Wz ?_|refine Wb fun hb=>?_|refine Wd (fun hh=>?_) fun hh=>?_))
   all_goals (try exact oMw)
   all_goals exact rXw hM
  rw [if_neg h0]
  have hkt:=hk (by omega) (by omega)
  obtain⟨j,hj⟩:∃ j:Nat,t=(j:Int):=⟨t.toNat,by omega⟩
  obtain⟨ti,hti⟩:=gex (l:=d.tiers) (i:=j) (by omega)
  have hta:tAt d.tiers t=ti:=by unfold tAt;rw [hj,Int.toNat_natCast,hti];rfl
  rw [hta]
  by_cases h1:ti.kind=0
  ·rw [if_pos h1]
   have c1:=c129 d 0 t hg
   refine fXw Tryz.func112 Tryz.ntmps112 fun c hM=>?_
   (repeat' (first|refine iDw (gm hti) ?_|refine cDw B7f c1 ?_|refine Wz ?_|refine Wb fun hb=>?_|refine Wd (fun hh=>?_) fun hh=>?_))
   all_goals (try exact oMw)
   all_goals exact rXw hM
  rw [if_neg h1]
  have htp:=hg.tp j ti hti h1
  have cr:=ih ti.parent (by omega) (by omega) (fun _ _=>by omega)
  have hol:=B3u hg k ti.parent
  have hpw:14 ^ k≤14 ^ 6:=Nat.pow_le_pow_right (by omega) (by omega)
  have h6:14 ^ 6=7529536:=rfl
  obtain⟨O,hO⟩:∃ O,ofF d k ti.parent=O:=⟨_,rfl⟩
  rw [hO] at cr hol ⊢
  have hOl:O.length≤7529536:=by omega
  clear hpw h6 hol
  refine fXw Tryz.func112 Tryz.ntmps112 fun c hM=>?_
  (repeat' (first|refine iDw (gm hti) ?_|refine cDw C2t cr ?_|refine Wz ?_|refine Wb fun hb=>?_|refine Wd (fun hh=>?_) fun hh=>?_))
  all_goals (try exact oMw)
  refine D5 5 5 3 1 rfl rfl ?_
  refine X_lp (ι:=Nat) 140668768878752 [5] (fun i=>[(5,.o 5 i),(36,.d (dI i))]) (fun i=>[(5,.ls 3 1 i (((O.take i).flatMap fun id=>Q5 d id t).map iC))]) (fun i=>i≤O.length) (fun i=>O.length-i) (0) ?_ ?_
  ·exact Nat.zero_le _
  rintro i hi
  have hfl:=A3r (m:=14) (fun x=>W8 hg x t) (O.take i)
  rw [List.length_take] at hfl
  by_cases hlt:i<O.length
  ·obtain⟨x,hx⟩:=gex hlt
   have cx:=c129 d x t hg
   have hkl:=W8 hg x t
   have hrow:((O.take (i+1)).flatMap fun id=>Q5 d id t).map iC=((O.take i).flatMap fun id=>Q5 d id t).map iC++(Q5 d x t).map iC:=by rw [List.take_add_one,hx];simp
   obtain⟨A,hA⟩:∃ A,((O.take i).flatMap fun id=>Q5 d id t)=A:=⟨_,rfl⟩
   rw [hA] at hfl hrow ⊢
   (repeat' (first|refine iDw (gm hx) ?_|refine cDw B7f cx ?_|refine Wz ?_|refine Wd (fun hh=>?_) fun hh=>?_))
   all_goals (try exact oMw)
   exact A0 (i+1) (by omega) (by omega) (hh:=A3 (by rw [hrow];rfl) (A4 _))
  ·have hz:i=O.length:=by omega
   subst hz
   rw [List.take_length] at hfl ⊢
   (repeat' (first|refine Wz ?_|refine Wd (fun hh=>?_) fun hh=>?_))
   all_goals (try exact oMw)
   refine C3 4 rfl rfl lOw ?_
   exact rXw hM
end
section
open Go.RowKit Go.En Go.Dl Go.Tp
theorem G1z (a b:Int):decide (cmpI a b<0)=decide (a<b):=by
 unfold cmpI
 by_cases h:a<b
 ·rw [if_pos h];simp [h]
 ·rw [if_neg h]
  split <;> simp [h]
theorem C0i (l:List Spn):uniP l=(isrt lt278 (l.filter A8)).foldl mrg []:=by
 have:lt278=fun a b=>decide (a.frm<b.frm):=by funext a b;exact G1z a.frm b.frm
 unfold uniP
 rw [this]
theorem D4m (s:Spn):mrg [] s=[s]:=rfl
theorem B6g {out:List Spn} {t s:Spn} {o:Nat} (h:out[o]?=some t) (hl:out.length=o+1):mrg out s=if s.frm≤t.til then out.set o ⟨t.frm,max t.til s.til⟩ else out++[s]:=by
 obtain⟨d,rfl⟩:∃ d,out=d++[t]:=by
  refine⟨out.take o,?_⟩
  have h1:out.take (o+1)=out.take o++[t]:=by rw [List.take_add_one,h];rfl
  rw [← h1,List.take_of_length_le (by omega)]
 have hd:d.length=o:=by simp at hl;exact hl
 unfold mrg
 rw [List.getLast?_concat]
 dsimp only
 rw [List.dropLast_concat]
 split
 ·subst hd
  rw [B3k]
 ·rfl
theorem D4n (out:List Spn) (s:Spn):(mrg out s).length≤out.length+1:=by
 cases h:out.length with
 | zero=>
  have:out=[]:=List.eq_nil_of_length_eq_zero h
  subst this;simp [D4m]
 | succ o=>
  obtain⟨t,ht⟩:=gex (l:=out) (i:=o) (by omega)
  rw [B6g ht h]
  split
  ·rw [List.length_set];omega
  ·rw [List.length_append];simp;omega
theorem B6f:∀(l out:List Spn),(l.foldl mrg out).length≤out.length+l.length
 | [],out=>by simp
 | s::r,out=>by
  have:=B6f r (mrg out s)
  have:=D4n out s
  rw [List.foldl_cons,List.length_cons];omega
theorem V5 (l:List Spn):(uniP l).length≤l.length:=by
 rw [C0i]
 have h1:=B6f (isrt lt278 (l.filter A8)) []
 rw [W9] at h1
 have h2:=List.length_filter_le A8 l
 simp at h1
 omega
attribute [local irreducible] X XL XW XG XK Val LS Fp Fo Calls bodyPost Code.wp
theorem c138 (l:List Spn) (hl:l.length≤12):Fp Tryz.prog 138 [spnD l] (spnD (uniP l)):=by
 rw [C0i]
 have hfl:=List.length_filter_le A8 l
 obtain⟨sl,hsl⟩:∃ sl,isrt lt278 (l.filter A8)=sl:=⟨_,rfl⟩
 have hsll:sl.length≤12:=by rw [← hsl,W9];omega
 have c9:=c209 (l.filter A8) 2 (by omega)
 rw [hsl] at c9 ⊢
 refine fXw Tryz.func138 Tryz.ntmps138 fun c hM=>?_
 (repeat' ((fail_if_success (refine J1 (x:=(Code.seq (Code.seq (Code.seq (Code.region 4 _ _) _) _) _)) ?_));first|refine G_c (B5 [(5,8)] (c207 l (by omega)) rfl rfl rfl rfl tRw G6x) rfl rfl rfl ?_|refine G_c (B5 [(1000,8)] (c206 l 1 (by omega)) rfl rfl rfl rfl tRw G6y) rfl rfl rfl ?_|refine G_c (B5 [(1000,8)] (c9) rfl rfl rfl rfl tRw G6w) rfl rfl rfl ?_|refine Wz ?_|fail))
 refine D5 3 3 82 2 rfl rfl ?_
 skip
 refine X_lp (ι:=Nat × Nat × List Spn) 4503599627354216 [3] (fun s=>[(3,.o 3 s.2.1),(14,.d (dI s.1))]) (fun s=>[(3,.ls 82 2 s.2.1 (s.2.2.map spnC))]) (fun s=>s.1≤sl.length∧s.2.2.length≤s.1∧(sl.drop s.1).foldl mrg s.2.2=sl.foldl mrg []) (fun s=>sl.length-s.1) ((0,0,[])) ?_ ?_
 ·exact⟨Nat.zero_le _,Nat.le_refl _,rfl⟩
 rintro⟨i,v,out⟩ ⟨hi,hol,hout⟩
 dsimp only at hi hol hout ⊢
 by_cases hlt:i<sl.length
 rotate_left
 ·have:i=sl.length:=by omega
  subst this
  rw [List.drop_length,List.foldl_nil] at hout
  (repeat' (first|refine Wz ?_|refine Wd (fun hh=>?_) fun hh=>?_))
  all_goals (try exact oMw)
  refine C3 2 rfl rfl lOw ?_
  refine rEw hM ?_
  rw [hout];rfl
 obtain⟨s,hs⟩:=gex hlt
 rw [drp hs,List.foldl_cons] at hout
 cases hn:out.length with
 | zero=>
  have hnil:out=[]:=List.eq_nil_of_length_eq_zero hn
  subst hnil
  (repeat' (first|refine G_x (A7 (m:=i) rfl rfl rfl rfl (by first|rfl|omega) lOw) rfl rfl ?_|refine G_x (J7 (m:=i) rfl rfl rfl rfl (by first|rfl|omega) (gm hs)) rfl rfl ?_|refine Wz ?_|refine Wd (fun hh=>?_) fun hh=>?_))
  all_goals (try exact oMw)
  exact A0 (i+1,v+1,[s]) ⟨by dsimp only;omega,by simp,hout⟩ (by dsimp only;omega)
 | succ o=>
  obtain⟨t,ht⟩:=gex (l:=out) (i:=o) (by omega)
  rw [B6g ht hn] at hout
  by_cases hc:s.frm≤t.til
  ·rw [if_pos hc] at hout
   (repeat' (first|(refine X5 ?_;first|refine G_x (A5 fun _=>zMx rfl rfl rfl) rfl rfl ?_)|refine G_x (A7 (m:=i) rfl rfl rfl rfl (by first|rfl|omega) lOw) rfl rfl ?_|refine G_x (J7 (m:=i) rfl rfl rfl rfl (by first|rfl|omega) (gm hs)) rfl rfl ?_|refine G_x (A7 (m:=o) rfl rfl rfl rfl (by first|rfl|omega) lOw) rfl rfl ?_|refine G_x (L6 (m:=o) (j:=1) rfl rfl rfl rfl (by first|rfl|omega) (gm ht) rfl) rfl rfl ?_|refine G_s (M1 (m:=o) (j:=1) (q':=⟨t.frm,max t.til s.til⟩) rfl rfl rfl rfl rfl rfl (by first|rfl|omega) ht (by decide) rfl) rfl rfl rfl ?_|refine Wz ?_|refine Wd (fun hh=>?_) fun hh=>?_))
   all_goals (try exact oMw)
   exact A0 (i+1,v,out.set o ⟨t.frm,max t.til s.til⟩) ⟨by dsimp only;omega,by dsimp only;rw [List.length_set];omega,hout⟩ (by dsimp only;omega)
  ·rw [if_neg hc] at hout
   (repeat' (first|refine G_x (A7 (m:=i) rfl rfl rfl rfl (by first|rfl|omega) lOw) rfl rfl ?_|refine G_x (J7 (m:=i) rfl rfl rfl rfl (by first|rfl|omega) (gm hs)) rfl rfl ?_|refine G_x (A7 (m:=o) rfl rfl rfl rfl (by first|rfl|omega) lOw) rfl rfl ?_|refine G_x (L6 (m:=o) (j:=1) rfl rfl rfl rfl (by first|rfl|omega) (gm ht) rfl) rfl rfl ?_|refine Wz ?_|refine Wd (fun hh=>?_) fun hh=>?_))
   all_goals (try exact oMw)
   exact A0 (i+1,v+1,out++[s]) ⟨by dsimp only;omega,by simp;omega,hout⟩ (by dsimp only;omega) (hh:=A3 (by rw [List.map_append];rfl) (A4 _))
theorem c57 (l:List Spn) (s:Spn) (hl:l.length≤12):Fp Tryz.prog 57 [spnD l,.g (spnC s)] (dB (covP l s)):=by
 have e:covP l s=(A8 s&&(uniP l).any (covQ s)):=rfl
 rw [e]
 obtain⟨b,hb⟩:∃ b,A8 s=b:=⟨_,rfl⟩;have cb:=c56 s;rw [hb] at cb
 obtain⟨d,hd⟩:∃ b,(uniP l).any (covQ s)=b:=⟨_,rfl⟩;have cd:=c137 (uniP l) s;rw [hd] at cd
 cases b
 all_goals (
  refine fXw Tryz.func57 Tryz.ntmps57 fun c hM=>?_
  (repeat' (first|refine cDw en56 cb ?_|refine cDw C2p (c138 l hl) ?_|refine G_c (B5 [(1000,3)] (cd) rfl rfl rfl rfl tRw G8d) rfl rfl rfl ?_|refine Wz ?_|fail))
  all_goals (try exact oMw)
  all_goals rw [hb,hd]
  all_goals exact rXw hM)
end
section
open Go.RowKit Go.En Go.Dl Go.Tp
theorem A2l (n:Nat) (b:List Spn):S4 n [] b=[]:=by cases n <;> rfl
theorem A0p (n:Nat) (a:List Spn):S4 n a []=[]:=by cases n <;> cases a <;> rfl
attribute [local irreducible] X XL XW XG XK Val LS Fp Fo Calls bodyPost Code.wp
theorem c212 (a b:List Spn) (ha:a.length≤12) (hb:b.length≤12):Fp Tryz.prog 212 [spnD a,spnD b] (spnD (C2x a b)):=by
 have hla:=V5 a
 have hlb:=V5 b
 have ca:=c138 a ha
 have cb:=c138 b hb
 unfold C2x
 obtain⟨A,hA⟩:∃ A,uniP a=A:=⟨_,rfl⟩
 obtain⟨B,hB⟩:∃ B,uniP b=B:=⟨_,rfl⟩
 rw [hA] at ca hla ⊢
 rw [hB] at cb hlb ⊢
 refine fXw Tryz.func212 Tryz.ntmps212 fun c hM=>?_
 (repeat' ((fail_if_success (refine J1 (x:=(Code.seq (Code.seq (Code.seq (Code.region 3 _ _) _) _) _)) ?_));first|refine G_x (A1 rfl rfl rfl C2p (ca) (.eq rfl)) rfl rfl ?_|refine G_x (A1 rfl rfl rfl C2p (cb) (.eq rfl)) rfl rfl ?_|refine Wz ?_|fail))
 refine D5 5 5 82 2 rfl rfl ?_
 skip
 refine X_lp (ι:=(Nat × Nat) × Nat × List Spn) 1180591620717411295712 [5] (fun s=>[(5,.o 5 s.2.1),(6,.d (dI s.1.1)),(7,.d (dI s.1.2))]) (fun s=>[(5,.ls 82 2 s.2.1 (s.2.2.map spnC))]) (fun s=>s.1.1≤A.length∧s.1.2≤B.length∧s.2.2.length≤s.1.1+s.1.2∧s.2.2++S4 (A.length+B.length-(s.1.1+s.1.2)) (A.drop s.1.1) (B.drop s.1.2)=S4 (A.length+B.length) A B) (fun s=>A.length+B.length-(s.1.1+s.1.2)) (((0,0),0,[])) ?_ ?_
 ·exact⟨Nat.zero_le _,Nat.zero_le _,Nat.le_refl _,rfl⟩
 rintro⟨⟨i,k⟩,v,out⟩ ⟨hi,hk,hol,hout⟩
 dsimp only at hi hk hol hout ⊢
 by_cases hli:i<A.length
 rotate_left
 ·rw [List.drop_eq_nil_of_le (show A.length≤i by omega),A2l,List.append_nil] at hout
  (repeat' (first|refine Wz ?_|refine Wb fun hb=>?_|refine Wd (fun hh=>?_) fun hh=>?_))
  all_goals (try exact oMw)
  refine C3 4 rfl rfl lOw ?_
  refine rEw hM ?_
  rw [hout];rfl
 by_cases hlk:k<B.length
 rotate_left
 ·rw [List.drop_eq_nil_of_le (show B.length≤k by omega),A0p,List.append_nil] at hout
  (repeat' (first|refine Wz ?_|refine Wb fun hb=>?_|refine Wd (fun hh=>?_) fun hh=>?_))
  all_goals (try exact oMw)
  refine C3 4 rfl rfl lOw ?_
  refine rEw hM ?_
  rw [hout];rfl
 obtain⟨x,hx⟩:=gex hli
 obtain⟨y,hy⟩:=gex hlk
 obtain⟨f,hf⟩:∃ f,A.length+B.length-(i+k)=f+1:=⟨A.length+B.length-(i+k)-1,by omega⟩
 rw [drp hx,drp hy,hf,S4,← drp hx,← drp hy,← List.append_assoc] at hout
 have hf1:A.length+B.length-(i+1+k)=f:=by omega
 have hf2:A.length+B.length-(i+(k+1))=f:=by omega
 by_cases h1:max x.frm y.frm<min x.til y.til
 all_goals by_cases h2:x.til<y.til
 ·rw [if_pos h1,if_pos h2] at hout
  (repeat' (first|(refine X5 ?_;first|refine G_x (A5 fun _=>zMn rfl rfl rfl) rfl rfl ?_|refine G_x (A5 fun _=>zMx rfl rfl rfl) rfl rfl ?_)|refine iDw (gm hx) ?_|refine iDw (gm hy) ?_|refine Wz ?_|refine Wb fun hb=>?_|refine Wd (fun hh=>?_) fun hh=>?_))
  all_goals (try exact oMw)
  exact A0 ((i+1,k),v+1,out++[⟨max x.frm y.frm,min x.til y.til⟩]) ⟨by dsimp only;omega,by dsimp only;omega,by simp;omega,by dsimp only;rw [hf1];exact hout⟩ (by dsimp only;omega) (hh:=A3 (by rw [List.map_append];rfl) (A4 _))
 ·rw [if_pos h1,if_neg h2] at hout
  (repeat' (first|(refine X5 ?_;first|refine G_x (A5 fun _=>zMn rfl rfl rfl) rfl rfl ?_|refine G_x (A5 fun _=>zMx rfl rfl rfl) rfl rfl ?_)|refine iDw (gm hx) ?_|refine iDw (gm hy) ?_|refine Wz ?_|refine Wb fun hb=>?_|refine Wd (fun hh=>?_) fun hh=>?_))
  all_goals (try exact oMw)
  exact A0 ((i,k+1),v+1,out++[⟨max x.frm y.frm,min x.til y.til⟩]) ⟨by dsimp only;omega,by dsimp only;omega,by simp;omega,by dsimp only;rw [hf2];exact hout⟩ (by dsimp only;omega) (hh:=A3 (by rw [List.map_append];rfl) (A4 _))
 ·rw [if_neg h1,if_pos h2,List.append_nil] at hout
  (repeat' (first|(refine X5 ?_;first|refine G_x (A5 fun _=>zMn rfl rfl rfl) rfl rfl ?_|refine G_x (A5 fun _=>zMx rfl rfl rfl) rfl rfl ?_)|refine iDw (gm hx) ?_|refine iDw (gm hy) ?_|refine Wz ?_|refine Wb fun hb=>?_|refine Wd (fun hh=>?_) fun hh=>?_))
  all_goals (try exact oMw)
  exact A0 ((i+1,k),v,out) ⟨by dsimp only;omega,by dsimp only;omega,by dsimp only;omega,by dsimp only;rw [hf1];exact hout⟩ (by dsimp only;omega)
 ·rw [if_neg h1,if_neg h2,List.append_nil] at hout
  (repeat' (first|(refine X5 ?_;first|refine G_x (A5 fun _=>zMn rfl rfl rfl) rfl rfl ?_|refine G_x (A5 fun _=>zMx rfl rfl rfl) rfl rfl ?_)|refine iDw (gm hx) ?_|refine iDw (gm hy) ?_|refine Wz ?_|refine Wb fun hb=>?_|refine Wd (fun hh=>?_) fun hh=>?_))
  all_goals (try exact oMw)
  exact A0 ((i,k+1),v,out) ⟨by dsimp only;omega,by dsimp only;omega,by dsimp only;omega,by dsimp only;rw [hf2];exact hout⟩ (by dsimp only;omega)
theorem A4n:∀(l:List Spn) (z:Int),(X2 z l).length=l.length+1
 | [],_=>rfl
 | s::r,z=>by rw [X2,List.length_cons,A4n r,List.length_cons]
theorem c141 (a b:List Spn) (ha:a.length≤12) (hb:b.length≤11):Fp Tryz.prog 141 [spnD a,spnD b] (spnD (B3w a b)):=by
 have hlb:=V5 b
 have cb:=c138 b (by omega)
 unfold B3w
 obtain⟨B,hB⟩:∃ B,uniP b=B:=⟨_,rfl⟩
 rw [hB] at cb hlb ⊢
 have cc:=c212 a (X2 0 B) ha (by rw [A4n];omega)
 refine fXw Tryz.func141 Tryz.ntmps141 fun c hM=>?_
 (repeat' (first|refine G_x (A1 rfl rfl rfl C2p (cb) (.eq rfl)) rfl rfl ?_|refine Wz ?_|refine Wb fun hb=>?_))
 refine D5 5 5 82 2 rfl rfl ?_
 refine X_lp (ι:=(Nat × Int) × Nat × List Spn) 67105120 [5] (fun s=>[(5,.o 5 s.2.1),(6,.d (dI s.1.2)),(12,.d (dI s.1.1))]) (fun s=>[(5,.ls 82 2 s.2.1 (s.2.2.map spnC))]) (fun s=>s.1.1≤B.length∧s.2.2.length≤s.1.1∧s.2.2++X2 s.1.2 (B.drop s.1.1)=X2 0 B) (fun s=>B.length-s.1.1) (((0,0),0,[])) ?_ ?_
 ·exact⟨Nat.zero_le _,Nat.le_refl _,rfl⟩
 rintro⟨⟨i,z⟩,v,out⟩ ⟨hi,hol,hout⟩
 dsimp only at hi hol hout ⊢
 by_cases hli:i<B.length
 rotate_left
 ·rw [List.drop_eq_nil_of_le (show B.length≤i by omega),X2] at hout
  have hd:out.map spnC++[spnC ⟨z,86400000⟩]=(X2 0 B).map spnC:=by rw [← hout,List.map_append];rfl
  (repeat' (first|(refine K5 31 rfl rfl (by simp only [List.length_map,List.length_append,List.length_cons,List.length_nil];omega) ?_)|refine G_x (A1 rfl rfl rfl G6u cc (.t1 (.eq rfl) (.t1 (.eq (congrArg (Dt.s 2) hd)) .t0))) rfl rfl ?_|refine Wz ?_|refine Wd (fun hh=>?_) fun hh=>?_))
  all_goals (try exact oMw)
  exact rXw hM
 obtain⟨s,hs⟩:=gex hli
 rw [drp hs,X2] at hout
 (repeat' (first|refine iDw (gm hs) ?_|refine Wz ?_|refine Wd (fun hh=>?_) fun hh=>?_))
 all_goals (try exact oMw)
 exact A0 ((i+1,s.til),v+1,out++[⟨z,s.frm⟩]) ⟨by dsimp only;omega,by simp;omega,by dsimp only;rw [← hout];simp⟩ (by dsimp only;omega) (hh:=A3 (by rw [List.map_append];rfl) (A4 _))
end
end Go.Proofs.YtojadfppncgphaaGreatDoor