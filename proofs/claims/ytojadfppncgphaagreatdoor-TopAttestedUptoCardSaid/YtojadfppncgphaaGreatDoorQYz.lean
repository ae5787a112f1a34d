/- Own text. -/
import Derived.Test.YtojadfppncgphaaGreatDoorQYy
set_option linter.all false
set_option maxHeartbeats 16000000
set_option maxRecDepth 8000
namespace Go.Proofs.YtojadfppncgphaaGreatDoor
section
open Go.RowKit Go.En Go.Dl Go.Tp
attribute [local irreducible] X XL XW XG XK Val LS Fp Fo Calls bodyPost Code.wp
def blen (n:Nat):Int:=[0,1,2,2,3,3,3,3,4,4,4,4,4].getD n 0
theorem c287 (n:Nat)(hn:n≤12):Fp Tryz.prog 287 [.v (.int .u64 (n:Int))] (dI (blen n)):=by
 have h:n=0∨n=1∨n=2∨n=3∨n=4∨n=5∨n=6∨n=7∨n=8∨n=9∨n=10∨n=11∨n=12:=oEw
 rcases h with rfl|rfl|rfl|rfl|rfl|rfl|rfl|rfl|rfl|rfl|rfl|rfl|rfl
 all_goals (
  refine fXw Tryz.func287 Tryz.ntmps287 fun c hM=>?_
  (repeat' (first|refine G_x (A7 fun _=>C2i Z Z Z) Z Z ?_|refine G_x (A7 fun _=>P8 Z Z (by decide) (by decide)) Z Z ?_|refine G_x (A7 fun _=>D8 Z Z Z Z Z) Z Z ?_|refine G_x (A7 fun _=>C2j (k:=.i64) Z Z Z (by decide) (by decide)) Z Z ?_|refine Wz ?_|fail))
  exact rXw hM)
theorem c254 (n:Nat)(hn:n≤12):Fp Tryz.prog 254 [.v (.int .u64 (n:Int))] (dI (blen n)):=by
 refine fXw Tryz.func254 Tryz.ntmps254 fun c hM=>?_
 (repeat' (first|refine cDw G7t (c287 n hn) ?_|refine Wz ?_|fail))
 exact rXw hM
theorem c253 (l:List Spn)(n:Nat)(z:Int)(hl:l.length≤12):Fo Tryz.prog 253 [.o 1000 n,.d (dI 0),.d (dI l.length),.d (dI z),.d (.v (.func (.func 210) #[] #[]))] [(1000,.ls 82 2 n (l.map spnC))] (.t []) [(1000,.ls 82 2 n ((isrt lt278 l).map spnC))]:=by
 refine fo_X (n:=148) Tryz.func253 rfl Tryz.ntmps253 rfl fun c hM=>?_
 (repeat' (first|refine Wz ?_|fail))
 refine X_un ?_
 (repeat' (first|refine G_c (B4 [(1000,1000)] (c278 l n oEw) Z Z Z Z tRw G7u) Z Z Z ?_|refine Wz ?_|apply Wd <;>intro hh))
 all_goals (try exact oMw)
 all_goals (first|exact A9 hM Z Z Z tRw Z Z|exact C0 (A9 hM Z Z Z tRw Z Z))
theorem c209 (l:List Spn)(n:Nat)(hl:l.length≤12):Fo Tryz.prog 209 [.o 1000 n,.d (.v (.func (.func 210) #[] #[]))] [(1000,.ls 82 2 n (l.map spnC))] (.t []) [(1000,.ls 82 2 n ((isrt lt278 l).map spnC))]:=by
 refine fo_X (n:=14) Tryz.func209 rfl Tryz.ntmps209 rfl fun c hM=>?_
 (repeat' (first|refine G_x (A7 fun _=>P8 (k':=.u64) Z Z (by show(0:Int)≤_;omega) (by show _≤(18446744073709551615:Int);omega)) Z Z ?_|refine G_x (A3 Z Z Z G8j (c254 l.length hl)) Z Z ?_|refine G_c (B4 [(1000,1000)] (c253 l n _ hl) Z Z Z Z tRw G8k) Z Z Z ?_|refine Wz ?_|fail))
 all_goals (try exact oMw)
 all_goals (first|exact A9 hM Z Z Z tRw Z Z|exact C0 (A9 hM Z Z Z tRw Z Z))
theorem c207 (l:List Spn)(hl:l.length≤1000):Fo Tryz.prog 207 [.d (spnD l)] [] (.o 5 1) [(5,.ls 82 2 1 (l.map spnC))]:=by
 refine fo_X (n:=8) Tryz.func207 rfl Tryz.ntmps207 rfl fun c hM=>?_
 (repeat' (first|(refine D4o Z Z Z Z Z (fun b hb=>?_);cases b)|refine G_nd Z Z (L1 _ Z Z Z Z Z) Z ?_|refine Wz ?_|fail))
 ·(first|exact A9 hM Z Z Z tRw Z Z|exact C0 (A9 hM Z Z Z tRw Z Z))
 ·have h0:l=[]:=by
   cases l with
   | nil=>rfl
   | cons x r=>exact absurd (hb (by simp)) (by simp)
  subst h0
  refine D8l 2 5 82 2 Z Z ?_
  refine C5o 2 Z Z ?_
  (first|exact A9 hM Z Z Z tRw Z Z|exact C0 (A9 hM Z Z Z tRw Z Z))
theorem B3c {α:Type}(p:α→Bool):∀(l:List α) (k:Int),(ixF (fun x=>!p x) l k = -1∧l.filter p=l)∨∃(i:Nat) (x:α),ixF (fun x=>!p x) l k=k+(i:Int)∧l[i]?=some x∧p x=false∧(l.take i).filter p=l.take i
 | [],k=>.inl ⟨rfl,rfl⟩
 | x :: r, k => by
  cases hp:p x with
  | false=>exact .inr ⟨0,x,by rw [ixF,if_pos (by simp [hp])];simp,rfl,hp,rfl⟩
  | true=>
   rcases B3c p r (k+1) with⟨h1,h2⟩|⟨i,y,h1,h2,h3,h4⟩
   ·refine .inl ⟨by rw [ixF,if_neg (by simp [hp])];exact h1,by rw [List.filter_cons_of_pos hp,h2]⟩
   ·refine .inr ⟨i+1,y,by rw [ixF,if_neg (by simp [hp]),h1];omega,h2,h3,by rw [List.take_succ_cons,List.filter_cons_of_pos hp,h4]⟩
theorem D9 {α:Type}{p:α→Bool}{l:List α}{j:Nat}{x:α}(h:l[j]?=some x)(hp:p x=true):(l.take (j+1)).filter p=(l.take j).filter p++[x]:=by
 rw [List.take_add_one,h,List.filter_append];simp [hp]
theorem G1 {α:Type}{p:α→Bool}{l:List α}{j:Nat}{x:α}(h:l[j]?=some x)(hp:p x=false):(l.take (j+1)).filter p=(l.take j).filter p:=by
 rw [List.take_add_one,h,List.filter_append];simp [hp]
theorem c206 (l : List Spn)(n : Nat)(hl : l.length ≤ 1000) : Fo Tryz.prog 206 [.o 1000 n, .d (.v (.func (.func 208) #[] #[]))] [(1000, .ls 82 2 n (l.map spnC))] (.o 1000 (n + 1)) [(1000, .ls 82 2 (n + 1) ((l.filter A5).map spnC))] := by
 have cix:=H0w l
 refine fo_X (n:=42) Tryz.func206 rfl Tryz.ntmps206 rfl fun c hM=>?_
 rcases B3c A5 l 0 with⟨h1,h2⟩|⟨k,x,h1,h2,h3,h4⟩
 ·rw [h1] at cix
  rw [h2]
  (repeat' (first|refine G_x (A0v (xs:=[spnD l,.v (.func (.func 208) #[] #[])]) [1000] Z Z ⟨_,_,rfl,⟨by simp,82,2,_,rfl,rfl,by rw [List.length_map];omega⟩,⟨_,_,rfl,rfl,rfl⟩⟩ rfl D2m cix) Z Z ?_|refine Wz ?_|apply Wd <;>intro hh))
  all_goals (try exact oMw)
  refine C5o 4 Z Z ?_
  (first|exact A9 hM Z Z Z tRw Z Z|exact C0 (A9 hM Z Z Z tRw Z Z))
 rw [Int.zero_add] at h1
 rw [h1] at cix
 have hkl:=(List.getElem?_eq_some_iff.1 h2).1
 (repeat' (first|refine G_x (A0v (xs:=[spnD l,.v (.func (.func 208) #[] #[])]) [1000] Z Z ⟨_,_,rfl,⟨by simp,82,2,_,rfl,rfl,by rw [List.length_map];omega⟩,⟨_,_,rfl,rfl,rfl⟩⟩ rfl D2m cix) Z Z ?_|refine Wz ?_|apply Wd <;>intro hh))
 all_goals (try exact oMw)
 refine X_lp (ι:=Nat × Nat × List Spn) 68719411424 [1000] (fun s=>[(5,.d (dI s.1)),(6,.d (dI s.2.1))]) (fun s=>[(1000,.ls 82 2 n (s.2.2.map spnC))]) (fun s=>s.2.1≤l.length∧s.1<s.2.1∧s.2.2.length=l.length∧s.2.2.take s.1=(l.take s.2.1).filter A5∧s.2.2.drop s.2.1=l.drop s.2.1) (fun s=>l.length-s.2.1) ((k,k+1,l)) ?_ ?_
 ·exact⟨oDw,Nat.lt_succ_self _,rfl,by dsimp only;rw [G1 h2 h3,h4],rfl⟩
 rintro⟨i,j,D⟩ ⟨hj,hij,hD,hpre,hrest⟩
 dsimp only at hj hij hD hpre hrest ⊢
 by_cases hlt:j<l.length
 ·obtain⟨x,hx⟩:=gex hlt
  have hxD:D[j]?=some x:=by
   have:=congrArg (fun q=>q[0]?) hrest
   simpa [List.getElem?_drop,hx] using this
  have hdr:D.drop (j+1)=l.drop (j+1):=by
   have:=congrArg (fun q=>q.drop 1) hrest
   simpa [List.drop_drop] using this
  obtain⟨y,hy⟩:=gex (l:=D) (i:=i) oEw
  cases hr:A5 x with
  | true=>
   have cl:Fp Tryz.prog 208 [.g (spnC x)] (dB false):=by have:=c208 x;rwa [hr] at this
   (repeat' (first|refine G_x (A8 (m:=j) Z Z Z Z (by first|rfl|omega) lOw) Z Z ?_|refine G_x (A8 (m:=i) Z Z Z Z (by first|rfl|omega) lOw) Z Z ?_|refine G_x (J7 (m:=j) Z Z Z Z (by first|rfl|omega) (gm hxD)) Z Z ?_|refine G_x (Q4 Z Z Z Z D2l (cl)) Z Z ?_|refine G_s (N1 (m:=i) (j:=0) (q':=x) Z Z Z Z Z Z (by first|rfl|omega) hy (by decide) rfl) Z Z Z ?_|refine Wz ?_|apply Wd <;>intro hh))
   all_goals (try exact oMw)
   exact A0 (i+1,j+1,D.set i x) ⟨oDw,oDw,by dsimp only;rw [List.length_set];exact hD,by
    dsimp only
    rw [D9 hx hr,← hpre,List.take_add_one,List.getElem?_set_self oEw,List.take_set_of_le (Nat.le_refl _)];rfl,by
    dsimp only
    rw [List.drop_set_of_lt oEw];exact hdr⟩ (oDw)
  | false=>
   have cl:Fp Tryz.prog 208 [.g (spnC x)] (dB true):=by have:=c208 x;rwa [hr] at this
   (repeat' (first|refine G_x (A8 (m:=j) Z Z Z Z (by first|rfl|omega) lOw) Z Z ?_|refine G_x (J7 (m:=j) Z Z Z Z (by first|rfl|omega) (gm hxD)) Z Z ?_|refine G_x (Q4 Z Z Z Z D2l (cl)) Z Z ?_|refine Wz ?_|apply Wd <;>intro hh))
   all_goals (try exact oMw)
   exact A0 (i,j+1,D) ⟨oDw,oDw,hD,by dsimp only;rw [G1 hx hr];exact hpre,hdr⟩ (oDw)
 ·have hjl:j=l.length:=oEw
  subst hjl
  rw [List.take_length] at hpre
  (repeat' (first|refine G_x (A3z (a:=i) Z Z Z Z Z (by rw [List.length_map];omega)) Z Z ?_|refine G_s (C6m Z Z Z Z Z (by rw [List.length_map];omega) (Nat.le_refl _)) Z Z Z ?_|refine G_x (D7e (b:=i) Z Z Z Z Z (by simp only [List.length_append,List.length_take,List.length_map,List.length_replicate,List.length_drop];omega)) Z Z ?_|refine Wz ?_|apply Wd <;>intro hh))
  all_goals (try exact oMw)
  refine D8k 4 Z Z (by simp only [List.length_append,List.length_take,List.length_map,List.length_replicate,List.length_drop];omega) ?_
  rw [List.append_assoc,List.take_append_of_le_length (by rw [List.length_take,List.length_map];omega),List.take_take,Nat.min_self,← List.map_take,hpre]
  (first|exact A9 hM Z Z Z tRw Z Z|exact C0 (A9 hM Z Z Z tRw Z Z))
theorem T0 {d:Doc}(hg:GD d)(id t:Int):(K5 d id t).length≤14:=by
 unfold K5
 rw [List.length_map,S0]
 exact Nat.le_trans (List.length_filter_le _ _) hg.nn
theorem A4o {α β:Type}{f:α→List β}{m:Nat}(h:∀ x,(f x).length≤m):∀ l:List α,(l.flatMap f).length≤m*l.length
 | []=>Nat.zero_le _
 | x::r=>by
  have h1:=A4o h r
  have h2:=h x
  rw [List.flatMap_cons,List.length_append,List.length_cons,Nat.mul_add,Nat.mul_one];omega
theorem B5h {d : Doc}(hg : GD d) : ∀ (k : Nat) (t : Int), (ofF d k t).length ≤ 14 ^ k
 | 0,_=>Nat.zero_le _
 | k + 1, t => by
  rw [ofF,Nat.pow_succ]
  have hp:1≤14 ^ k:=Nat.one_le_pow _ _ oEw
  split
  ·exact zLw
  ·split
   ·have:=T0 hg 0 t;omega
   ·have h1:=A4o (m:=14) (fun x=>T0 hg x t) (ofF d k (tAt d.tiers t).parent)
    have h2:=B5h hg k (tAt d.tiers t).parent
    omega
theorem c248 (l:List Note)(n:Nat)(hl:l.length≤14):Fo Tryz.prog 248 [.o 1000 n,.d (dI l.length),.d (.v (.func (.func 201) #[] #[]))] [(1000,.ls 142 7 n (l.map C4))] (.t []) [(1000,.ls 142 7 n ((isrt lt275 l).map C4))]:=by
 refine fo_X (n:=63) Tryz.func248 rfl Tryz.ntmps248 rfl fun c hM=>?_
 (repeat' (first|refine X_un ?_|refine G_c (B4 [(1000,1000)] (c275 l n oEw) Z Z Z Z tRw G7w) Z Z Z ?_|refine Wz ?_|apply Wd <;>intro hh))
 all_goals (try exact oMw)
 (first|exact A9 hM Z Z Z tRw Z Z|exact C0 (A9 hM Z Z Z tRw Z Z))
theorem c200 (l:List Note)(n:Nat)(hl:l.length≤14):Fo Tryz.prog 200 [.o 1000 n,.d (.v (.func (.func 201) #[] #[]))] [(1000,.ls 142 7 n (l.map C4))] (.t []) [(1000,.ls 142 7 n ((isrt lt275 l).map C4))]:=by
 refine fo_X (n:=9) Tryz.func200 rfl Tryz.ntmps200 rfl fun c hM=>?_
 (repeat' (first|refine G_c (B4 [(1000,1000)] (c248 l n hl) Z Z Z Z tRw G8n) Z Z Z ?_|refine Wz ?_|fail))
 (first|exact A9 hM Z Z Z tRw Z Z|exact C0 (A9 hM Z Z Z tRw Z Z))
theorem c129 (d:Doc)(id t:Int)(hg:GD d):Fp Tryz.prog 129 [.g (docC d),dI id,dI t] (ints (K5 d id t)):=by
  obtain⟨K,hK⟩:∃ K:Note→Bool,K=fun n=>decide (n.tier=t)&&(decide (n.parent=id)&&(decide (0≤t)&&decide (t<(d.tiers.length:Int)))):=⟨_,rfl⟩
  have e:K5 d id t=(isrt lt275 (d.notes.filter K)).map (·.id):=by rw [hK];rfl
  have hfl:=List.length_filter_le K d.notes
  have hnn:=hg.nn
  obtain⟨S,hS⟩:∃ S,isrt lt275 (d.notes.filter K)=S:=⟨_,rfl⟩
  have hSl:S.length≤14:=by rw [← hS,S0];omega
  rw [e,hS]
  refine fXw Tryz.func129 Tryz.ntmps129 fun c hM=>?_
  (repeat' (first|refine Wz ?_|refine Wb fun hb=>?_))
  refine D0 7 7 142 7 Z Z ?_
  refine X_lp (ι:=Nat × Nat) 70368744112768 [7] (fun s=>[(7,.o 7 s.2),(16,.d (dI s.1))]) (fun s=>[(7,.ls 142 7 s.2 (((d.notes.take s.1).filter K).map C4))]) (fun s=>s.1≤d.notes.length) (fun s=>d.notes.length-s.1) ((0,0)) ?_ ?_
  · exact zLw
  rintro⟨i,v⟩ hi
  dsimp only at hi ⊢
  by_cases hlt:i<d.notes.length
  · obtain⟨n,hn⟩:=gex hlt
    have hKn:K n=(decide (n.tier=t)&&(decide (n.parent=id)&&(decide (0≤t)&&decide (t<(d.tiers.length:Int))))):=by rw [hK]
    have hle:((d.notes.take i).filter K).length≤14:=Nat.le_trans (List.length_filter_le _ _) (by rw [List.length_take];omega)
    (repeat' (first|refine iDw (gm hn) ?_|refine Wz ?_|refine Wb fun hb=>?_|apply Wd <;>intro hh))
    all_goals (try exact oMw)
    all_goals first
      | (have hy : K n = true := (by rw [hKn]; simp [*]; done)
         have hrow:((d.notes.take (i+1)).filter K).map C4=((d.notes.take i).filter K).map C4++[C4 n]:=(by rw [D9 hn hy];simp)
         exact A0 (i+1,v+1) (oDw) (oDw) (hh:=A1 (by dsimp only;rw [hrow];rfl) (A4 _)))
      | (have hf : K n = false := (by rw [hKn]; simp [*]; done)
         exact A0 (i+1,v) (oDw) (oDw) (hh:=A1 (by dsimp only;rw [G1 hn hf];rfl) (A4 _)))
  · have hz:i=d.notes.length:=oEw
    subst hz
    rw [List.take_length]
    have c2:=c200 (d.notes.filter K) v oEw
    rw [hS] at c2
    (repeat' (first|refine G_c (B4 [(1000,7)] (c2) Z Z Z Z tRw G9n) Z Z Z ?_|refine Wz ?_|apply Wd <;>intro hh))
    all_goals (try exact oMw)
    refine B0h 48 Z Z lOw ?_
    refine D0 10 10 3 1 Z Z ?_
    refine X_lp (ι:=Nat) 1151795604700009472 [10] (fun i=>[(10,.o 10 i),(50,.d (dI i))]) (fun i=>[(10,.ls 3 1 i (((S.take i).map (·.id)).map iC))]) (fun i=>i≤S.length) (fun i=>S.length-i) (0) ?_ ?_
    · exact zLw
    rintro i hi2
    by_cases hlt2:i<S.length
    · obtain⟨n,hn⟩:=gex hlt2
      have hrow:((S.take (i+1)).map (·.id)).map iC=((S.take i).map (·.id)).map iC++[iC n.id]:=by rw [List.take_add_one,hn];simp
      (repeat' (first|refine iDw (gm hn) ?_|refine Wz ?_|apply Wd <;>intro hh))
      all_goals (try exact oMw)
      exact A0 (i+1) oEw oEw (hh:=A1 (by rw [hrow];rfl) (A4 _))
    · have hz:i=S.length:=oEw
      subst hz
      rw [List.take_length]
      (repeat' (first|refine Wz ?_|apply Wd <;>intro hh))
      all_goals (try exact oMw)
      refine B9 6 Z Z lOw ?_
      exact rXw hM
theorem c112 (d:Doc)(hg:GD d):∀(k:Nat) (t:Int),k≤7→1≤k→(0≤t→t<(d.tiers.length:Int)→t<(k:Int))→Fp Tryz.prog 112 [.g (docC d),dI t] (ints (ofF d k t)):=by
 intro k
 induction k with
 | zero=>intro t _ h;omega
 | succ k ih=>
  intro t hk7 _ hk
  rw [ofF]
  by_cases h0:t<0∨(d.tiers.length:Int)≤t
  ·rw [if_pos h0]
   refine fXw Tryz.func112 Tryz.ntmps112 fun c hM=>?_
   (repeat' (first|refine Wz ?_|refine Wb fun hb=>?_|apply Wd <;>intro hh))
   all_goals (try exact oMw)
   all_goals exact rXw hM
  rw [if_neg h0]
  have hkt:=hk oEw oEw
  obtain⟨j,hj⟩:∃ j:Nat,t=(j:Int):=⟨t.toNat,oEw⟩
  obtain⟨ti,hti⟩:=gex (l:=d.tiers) (i:=j) oEw
  have hta:tAt d.tiers t=ti:=by unfold tAt;rw [hj,Int.toNat_natCast,hti];rfl
  rw [hta]
  by_cases h1:ti.kind=0
  ·rw [if_pos h1]
   have c1:=c129 d 0 t hg
   refine fXw Tryz.func112 Tryz.ntmps112 fun c hM=>?_
   (repeat' (first|refine iDw (gm hti) ?_|refine cDw B3t c1 ?_|refine Wz ?_|refine Wb fun hb=>?_|apply Wd <;>intro hh))
   all_goals (try exact oMw)
   all_goals exact rXw hM
  rw [if_neg h1]
  have htp:=hg.tp j ti hti h1
  have cr:=ih ti.parent oEw oEw (fun _ _=>by omega)
  have hol:=B5h hg k ti.parent
  have hpw:14 ^ k≤14 ^ 6:=Nat.pow_le_pow_right oEw oEw
  have h6:14 ^ 6=7529536:=rfl
  obtain⟨O,hO⟩:∃ O,ofF d k ti.parent=O:=⟨_,rfl⟩
  rw [hO] at cr hol ⊢
  have hOl:O.length≤7529536:=oEw
  clear hpw h6 hol
  refine fXw Tryz.func112 Tryz.ntmps112 fun c hM=>?_
  (repeat' (first|refine iDw (gm hti) ?_|refine cDw C5b cr ?_|refine Wz ?_|refine Wb fun hb=>?_|apply Wd <;>intro hh))
  all_goals (try exact oMw)
  refine D0 5 5 3 1 Z Z ?_
  refine X_lp (ι:=Nat) 140668768878752 [5] (fun i=>[(5,.o 5 i),(36,.d (dI i))]) (fun i=>[(5,.ls 3 1 i (((O.take i).flatMap fun id=>K5 d id t).map iC))]) (fun i=>i≤O.length) (fun i=>O.length-i) (0) ?_ ?_
  ·exact zLw
  rintro i hi
  have hfl:=A4o (m:=14) (fun x=>T0 hg x t) (O.take i)
  rw [List.length_take] at hfl
  by_cases hlt:i<O.length
  ·obtain⟨x,hx⟩:=gex hlt
   have cx:=c129 d x t hg
   have hkl:=T0 hg x t
   have hrow:((O.take (i+1)).flatMap fun id=>K5 d id t).map iC=((O.take i).flatMap fun id=>K5 d id t).map iC++(K5 d x t).map iC:=by rw [List.take_add_one,hx];simp
   obtain⟨A,hA⟩:∃ A,((O.take i).flatMap fun id=>K5 d id t)=A:=⟨_,rfl⟩
   rw [hA] at hfl hrow ⊢
   (repeat' (first|refine iDw (gm hx) ?_|refine cDw B3t cx ?_|refine Wz ?_|apply Wd <;>intro hh))
   all_goals (try exact oMw)
   exact A0 (i+1) oEw oEw (hh:=A1 (by rw [hrow];rfl) (A4 _))
  ·have hz:i=O.length:=oEw
   subst hz
   rw [List.take_length] at hfl ⊢
   (repeat' (first|refine Wz ?_|apply Wd <;>intro hh))
   all_goals (try exact oMw)
   refine B9 4 Z Z lOw ?_
   exact rXw hM
theorem G4k (a b:Int):decide (cmpI a b<0)=decide (a<b):=by
 unfold cmpI
 by_cases h:a<b
 ·rw [if_pos h];simp [h]
 ·rw [if_neg h]
  split <;> simp [h]
theorem C2l (l:List Spn):uniP l=(isrt lt278 (l.filter A5)).foldl mrg []:=by
 have:lt278=fun a b=>decide (a.frm<b.frm):=by funext a b;exact G4k a.frm b.frm
 unfold uniP
 rw [this]
theorem D6u (s:Spn):mrg [] s=[s]:=rfl
theorem B8b {out:List Spn}{t s:Spn}{o:Nat}(h:out[o]?=some t)(hl:out.length=o+1):mrg out s=if s.frm≤t.til then out.set o ⟨t.frm,max t.til s.til⟩ else out++[s]:=by
 obtain⟨d,rfl⟩:∃ d,out=d++[t]:=by
  refine⟨out.take o,?_⟩
  have h1:out.take (o+1)=out.take o++[t]:=by rw [List.take_add_one,h];rfl
  rw [← h1,List.take_of_length_le oEw]
 have hd:d.length=o:=by simp at hl;exact hl
 unfold mrg
 rw [List.getLast?_concat]
 dsimp only
 rw [List.dropLast_concat]
 split
 ·subst hd
  rw [B4y]
 ·rfl
theorem D6v (out:List Spn)(s:Spn):(mrg out s).length≤out.length+1:=by
 cases h:out.length with
 | zero=>
  have:out=[]:=List.eq_nil_of_length_eq_zero h
  subst this;simp [D6u]
 | succ o=>
  obtain⟨t,ht⟩:=gex (l:=out) (i:=o) oEw
  rw [B8b ht h]
  split
  ·rw [List.length_set];omega
  ·rw [List.length_append];simp;omega
theorem B7z:∀(l out:List Spn),(l.foldl mrg out).length≤out.length+l.length
 | [],out=>by simp
 | s::r,out=>by
  have:=B7z r (mrg out s)
  have:=D6v out s
  rw [List.foldl_cons,List.length_cons];omega
theorem X6 (l:List Spn):(uniP l).length≤l.length:=by
 rw [C2l]
 have h1:=B7z (isrt lt278 (l.filter A5)) []
 rw [S0] at h1
 have h2:=List.length_filter_le A5 l
 simp at h1
 omega
theorem c138 (l:List Spn)(hl:l.length≤12):Fp Tryz.prog 138 [spnD l] (spnD (uniP l)):=by
 rw [C2l]
 have hfl:=List.length_filter_le A5 l
 obtain⟨sl,hsl⟩:∃ sl,isrt lt278 (l.filter A5)=sl:=⟨_,rfl⟩
 have hsll:sl.length≤12:=by rw [← hsl,S0];omega
 have c9:=c209 (l.filter A5) 2 oEw
 rw [hsl] at c9 ⊢
 refine fXw Tryz.func138 Tryz.ntmps138 fun c hM=>?_
 (repeat' ((fail_if_success (refine H7 (x:=(Code.seq (Code.seq (Code.seq (Code.region 4 _ _) _) _) _)) ?_));first|refine G_c (B4 [(5,8)] (c207 l oEw) Z Z Z Z tRw G9j) Z Z Z ?_|refine G_c (B4 [(1000,8)] (c206 l 1 oEw) Z Z Z Z tRw G9k) Z Z Z ?_|refine G_c (B4 [(1000,8)] (c9) Z Z Z Z tRw G9i) Z Z Z ?_|refine Wz ?_|fail))
 refine D0 3 3 82 2 Z Z ?_
 skip
 refine X_lp (ι:=Nat × Nat × List Spn) 4503599627354216 [3] (fun s=>[(3,.o 3 s.2.1),(14,.d (dI s.1))]) (fun s=>[(3,.ls 82 2 s.2.1 (s.2.2.map spnC))]) (fun s=>s.1≤sl.length∧s.2.2.length≤s.1∧(sl.drop s.1).foldl mrg s.2.2=sl.foldl mrg []) (fun s=>sl.length-s.1) ((0,0,[])) ?_ ?_
 ·exact⟨zLw,Nat.le_refl _,rfl⟩
 rintro⟨i,v,out⟩ ⟨hi,hol,hout⟩
 dsimp only at hi hol hout ⊢
 by_cases hlt:i<sl.length
 rotate_left
 ·have:i=sl.length:=oEw
  subst this
  rw [List.drop_length,List.foldl_nil] at hout
  (repeat' (first|refine Wz ?_|apply Wd <;>intro hh))
  all_goals (try exact oMw)
  refine B9 2 Z Z lOw ?_
  refine rEw hM ?_
  rw [hout];rfl
 obtain⟨s,hs⟩:=gex hlt
 rw [drp hs,List.foldl_cons] at hout
 cases hn:out.length with
 | zero=>
  have hnil:out=[]:=List.eq_nil_of_length_eq_zero hn
  subst hnil
  (repeat' (first|refine G_x (A8 (m:=i) Z Z Z Z (by first|rfl|omega) lOw) Z Z ?_|refine G_x (J7 (m:=i) Z Z Z Z (by first|rfl|omega) (gm hs)) Z Z ?_|refine Wz ?_|apply Wd <;>intro hh))
  all_goals (try exact oMw)
  exact A0 (i+1,v+1,[s]) ⟨oDw,by simp,hout⟩ (oDw)
 | succ o=>
  obtain⟨t,ht⟩:=gex (l:=out) (i:=o) oEw
  rw [B8b ht hn] at hout
  by_cases hc:s.frm≤t.til
  ·rw [if_pos hc] at hout
   (repeat' (first|(refine W4 ?_;first|refine G_x (A7 fun _=>zMx Z Z Z) Z Z ?_)|refine G_x (A8 (m:=i) Z Z Z Z (by first|rfl|omega) lOw) Z Z ?_|refine G_x (J7 (m:=i) Z Z Z Z (by first|rfl|omega) (gm hs)) Z Z ?_|refine G_x (A8 (m:=o) Z Z Z Z (by first|rfl|omega) lOw) Z Z ?_|refine G_x (M6 (m:=o) (j:=1) Z Z Z Z (by first|rfl|omega) (gm ht) rfl) Z Z ?_|refine G_s (N1 (m:=o) (j:=1) (q':=⟨t.frm,max t.til s.til⟩) Z Z Z Z Z Z (by first|rfl|omega) ht (by decide) rfl) Z Z Z ?_|refine Wz ?_|apply Wd <;>intro hh))
   all_goals (try exact oMw)
   exact A0 (i+1,v,out.set o ⟨t.frm,max t.til s.til⟩) ⟨oDw,by dsimp only;rw [List.length_set];omega,hout⟩ (oDw)
  ·rw [if_neg hc] at hout
   (repeat' (first|refine G_x (A8 (m:=i) Z Z Z Z (by first|rfl|omega) lOw) Z Z ?_|refine G_x (J7 (m:=i) Z Z Z Z (by first|rfl|omega) (gm hs)) Z Z ?_|refine G_x (A8 (m:=o) Z Z Z Z (by first|rfl|omega) lOw) Z Z ?_|refine G_x (M6 (m:=o) (j:=1) Z Z Z Z (by first|rfl|omega) (gm ht) rfl) Z Z ?_|refine Wz ?_|apply Wd <;>intro hh))
   all_goals (try exact oMw)
   exact A0 (i+1,v+1,out++[s]) ⟨oDw,by simp;omega,hout⟩ (oDw) (hh:=A1 (by rw [List.map_append];rfl) (A4 _))
theorem c57 (l:List Spn)(s:Spn)(hl:l.length≤12):Fp Tryz.prog 57 [spnD l,.g (spnC s)] (dB (covP l s)):=by
 have e:covP l s=(A5 s&&(uniP l).any (covQ s)):=rfl
 rw [e]
 obtain⟨b,hb⟩:∃ b,A5 s=b:=⟨_,rfl⟩;have cb:=c56 s;rw [hb] at cb
 obtain⟨d,hd⟩:∃ b,(uniP l).any (covQ s)=b:=⟨_,rfl⟩;have cd:=c137 (uniP l) s;rw [hd] at cd
 cases b
 all_goals (
  refine fXw Tryz.func57 Tryz.ntmps57 fun c hM=>?_
  (repeat' (first|refine cDw en56 cb ?_|refine cDw C4v (c138 l hl) ?_|refine G_c (B4 [(1000,3)] (cd) Z Z Z Z tRw H0k) Z Z Z ?_|refine Wz ?_|fail))
  all_goals (try exact oMw)
  all_goals rw [hb,hd]
  all_goals exact rXw hM)
theorem A3f (n:Nat)(b:List Spn):N6 n [] b=[]:=by cases n <;> rfl
theorem A1g (n:Nat)(a:List Spn):N6 n a []=[]:=by cases n <;> cases a <;> rfl
theorem c212 (a b:List Spn)(ha:a.length≤12)(hb:b.length≤12):Fp Tryz.prog 212 [spnD a,spnD b] (spnD (B9q a b)):=by
 have hla:=X6 a
 have hlb:=X6 b
 have ca:=c138 a ha
 have cb:=c138 b hb
 unfold B9q
 obtain⟨A,hA⟩:∃ A,uniP a=A:=⟨_,rfl⟩
 obtain⟨B,hB⟩:∃ B,uniP b=B:=⟨_,rfl⟩
 rw [hA] at ca hla ⊢
 rw [hB] at cb hlb ⊢
 refine fXw Tryz.func212 Tryz.ntmps212 fun c hM=>?_
 (repeat' ((fail_if_success (refine H7 (x:=(Code.seq (Code.seq (Code.seq (Code.region 3 _ _) _) _) _)) ?_));first|refine G_x (A3 Z Z Z C4v (ca) (.eq rfl)) Z Z ?_|refine G_x (A3 Z Z Z C4v (cb) (.eq rfl)) Z Z ?_|refine Wz ?_|fail))
 refine D0 5 5 82 2 Z Z ?_
 skip
 refine X_lp (ι:=(Nat × Nat) × Nat × List Spn) 1180591620717411295712 [5] (fun s=>[(5,.o 5 s.2.1),(6,.d (dI s.1.1)),(7,.d (dI s.1.2))]) (fun s=>[(5,.ls 82 2 s.2.1 (s.2.2.map spnC))]) (fun s=>s.1.1≤A.length∧s.1.2≤B.length∧s.2.2.length≤s.1.1+s.1.2∧s.2.2++N6 (A.length+B.length-(s.1.1+s.1.2)) (A.drop s.1.1) (B.drop s.1.2)=N6 (A.length+B.length) A B) (fun s=>A.length+B.length-(s.1.1+s.1.2)) (((0,0),0,[])) ?_ ?_
 ·exact⟨zLw,zLw,Nat.le_refl _,rfl⟩
 rintro⟨⟨i,k⟩,v,out⟩ ⟨hi,hk,hol,hout⟩
 dsimp only at hi hk hol hout ⊢
 by_cases hli:i<A.length
 rotate_left
 ·rw [List.drop_eq_nil_of_le (show A.length≤i by omega),A3f,List.append_nil] at hout
  (repeat' (first|refine Wz ?_|refine Wb fun hb=>?_|apply Wd <;>intro hh))
  all_goals (try exact oMw)
  refine B9 4 Z Z lOw ?_
  refine rEw hM ?_
  rw [hout];rfl
 by_cases hlk:k<B.length
 rotate_left
 ·rw [List.drop_eq_nil_of_le (show B.length≤k by omega),A1g,List.append_nil] at hout
  (repeat' (first|refine Wz ?_|refine Wb fun hb=>?_|apply Wd <;>intro hh))
  all_goals (try exact oMw)
  refine B9 4 Z Z lOw ?_
  refine rEw hM ?_
  rw [hout];rfl
 obtain⟨x,hx⟩:=gex hli
 obtain⟨y,hy⟩:=gex hlk
 obtain⟨f,hf⟩:∃ f,A.length+B.length-(i+k)=f+1:=⟨A.length+B.length-(i+k)-1,oEw⟩
 rw [drp hx,drp hy,hf,N6,← drp hx,← drp hy,← List.append_assoc] at hout
 have hf1:A.length+B.length-(i+1+k)=f:=oEw
 have hf2:A.length+B.length-(i+(k+1))=f:=oEw
 by_cases h1:max x.frm y.frm<min x.til y.til
 all_goals by_cases h2:x.til<y.til
 ·rw [if_pos h1,if_pos h2] at hout
  (repeat' (first|(refine W4 ?_;first|refine G_x (A7 fun _=>zMn Z Z Z) Z Z ?_|refine G_x (A7 fun _=>zMx Z Z Z) Z Z ?_)|refine iDw (gm hx) ?_|refine iDw (gm hy) ?_|refine Wz ?_|refine Wb fun hb=>?_|apply Wd <;>intro hh))
  all_goals (try exact oMw)
  exact A0 ((i+1,k),v+1,out++[⟨max x.frm y.frm,min x.til y.til⟩]) ⟨oDw,oDw,by simp;omega,by dsimp only;rw [hf1];exact hout⟩ (oDw) (hh:=A1 (by rw [List.map_append];rfl) (A4 _))
 ·rw [if_pos h1,if_neg h2] at hout
  (repeat' (first|(refine W4 ?_;first|refine G_x (A7 fun _=>zMn Z Z Z) Z Z ?_|refine G_x (A7 fun _=>zMx Z Z Z) Z Z ?_)|refine iDw (gm hx) ?_|refine iDw (gm hy) ?_|refine Wz ?_|refine Wb fun hb=>?_|apply Wd <;>intro hh))
  all_goals (try exact oMw)
  exact A0 ((i,k+1),v+1,out++[⟨max x.frm y.frm,min x.til y.til⟩]) ⟨oDw,oDw,by simp;omega,by dsimp only;rw [hf2];exact hout⟩ (oDw) (hh:=A1 (by rw [List.map_append];rfl) (A4 _))
 ·rw [if_neg h1,if_pos h2,List.append_nil] at hout
  (repeat' (first|(refine W4 ?_;first|refine G_x (A7 fun _=>zMn Z Z Z) Z Z ?_|refine G_x (A7 fun _=>zMx Z Z Z) Z Z ?_)|refine iDw (gm hx) ?_|refine iDw (gm hy) ?_|refine Wz ?_|refine Wb fun hb=>?_|apply Wd <;>intro hh))
  all_goals (try exact oMw)
  exact A0 ((i+1,k),v,out) ⟨oDw,oDw,oDw,by dsimp only;rw [hf1];exact hout⟩ (oDw)
 ·rw [if_neg h1,if_neg h2,List.append_nil] at hout
  (repeat' (first|(refine W4 ?_;first|refine G_x (A7 fun _=>zMn Z Z Z) Z Z ?_|refine G_x (A7 fun _=>zMx Z Z Z) Z Z ?_)|refine iDw (gm hx) ?_|refine iDw (gm hy) ?_|refine Wz ?_|refine Wb fun hb=>?_|apply Wd <;>intro hh))
  all_goals (try exact oMw)
  exact A0 ((i,k+1),v,out) ⟨oDw,oDw,oDw,by dsimp only;rw [hf2];exact hout⟩ (oDw)
theorem A5m:∀(l:List Spn) (z:Int),(Q9 z l).length=l.length+1
 | [],_=>rfl
 | s::r,z=>by rw [Q9,List.length_cons,A5m r,List.length_cons]
theorem c141 (a b:List Spn)(ha:a.length≤12)(hb:b.length≤11):Fp Tryz.prog 141 [spnD a,spnD b] (spnD (A2y a b)):=by
 have hlb:=X6 b
 have cb:=c138 b oEw
 unfold A2y
 obtain⟨B,hB⟩:∃ B,uniP b=B:=⟨_,rfl⟩
 rw [hB] at cb hlb ⊢
 have cc:=c212 a (Q9 0 B) ha (by rw [A5m];omega)
 refine fXw Tryz.func141 Tryz.ntmps141 fun c hM=>?_
 (repeat' (first|refine G_x (A3 Z Z Z C4v (cb) (.eq rfl)) Z Z ?_|refine Wz ?_|refine Wb fun hb=>?_))
 refine D0 5 5 82 2 Z Z ?_
 refine X_lp (ι:=(Nat × Int) × Nat × List Spn) 67105120 [5] (fun s=>[(5,.o 5 s.2.1),(6,.d (dI s.1.2)),(12,.d (dI s.1.1))]) (fun s=>[(5,.ls 82 2 s.2.1 (s.2.2.map spnC))]) (fun s=>s.1.1≤B.length∧s.2.2.length≤s.1.1∧s.2.2++Q9 s.1.2 (B.drop s.1.1)=Q9 0 B) (fun s=>B.length-s.1.1) (((0,0),0,[])) ?_ ?_
 ·exact⟨zLw,Nat.le_refl _,rfl⟩
 rintro⟨⟨i,z⟩,v,out⟩ ⟨hi,hol,hout⟩
 dsimp only at hi hol hout ⊢
 by_cases hli:i<B.length
 rotate_left
 ·rw [List.drop_eq_nil_of_le (show B.length≤i by omega),Q9] at hout
  have hd:out.map spnC++[spnC ⟨z,86400000⟩]=(Q9 0 B).map spnC:=by rw [← hout,List.map_append];rfl
  (repeat' (first|(refine K6 31 Z Z (by simp only [List.length_map,List.length_append,List.length_cons,List.length_nil];omega) ?_)|refine G_x (A3 Z Z Z G9g cc (.t1 (.eq rfl) (.t1 (.eq (congrArg (Dt.s 2) hd)) .t0))) Z Z ?_|refine Wz ?_|apply Wd <;>intro hh))
  all_goals (try exact oMw)
  exact rXw hM
 obtain⟨s,hs⟩:=gex hli
 rw [drp hs,Q9] at hout
 (repeat' (first|refine iDw (gm hs) ?_|refine Wz ?_|apply Wd <;>intro hh))
 all_goals (try exact oMw)
 exact A0 ((i+1,s.til),v+1,out++[⟨z,s.frm⟩]) ⟨oDw,by simp;omega,by dsimp only;rw [← hout];simp⟩ (oDw) (hh:=A1 (by rw [List.map_append];rfl) (A4 _))
theorem c54 (d:Doc)(id:Int)(hg:GD d):Fp Tryz.prog 54 [.g (docC d),dI id] (fRes spnC spn0 (A0l d id)):=by
 unfold A0l
 rw [C7p]
 have cg:=n119 d id
 obtain⟨o,ho⟩:∃ o,getN d.notes id=o:=⟨_,rfl⟩
 rw [ho] at cg ⊢
 have hm0:∀ n,o=some n→n∈d.notes:=fun n h=>(H3 (ho.trans h)).1
 have hsome:∀(o':Option Note),fRes C4 L9 o'=.t [.g (C4 (o'.getD L9)),dB o'.isSome]:=fun o'=>by cases o' <;> rfl
 rw [hsome] at cg
 refine fXw Tryz.func54 Tryz.ntmps54 fun c hM=>?_
 (repeat' (first|refine cDw M7 cg ?_|refine Wz ?_|fail))
 refine X_lp (ι:=Option Note) 1073725568 [6] (fun o=>[(7,.d (dB o.isSome))]) (fun o=>[(6,.box 142 ((C4 (o.getD L9)).map .d))]) (fun o'=>(∀ n,o'=some n→n∈d.notes)∧wO d (d.tiers.length+1) o'=wO d (d.tiers.length+1) o) (wM) (o) ?_ ?_
 ·exact⟨hm0,rfl⟩
 rintro o' ⟨hm,hw⟩
 cases o' with
 | none=>
  have hn:wO d (d.tiers.length+1) o=none:=hw.symm
  rw [hn]
  (repeat' (first|refine Wz ?_|fail))
  all_goals (try exact oMw)
  exact rXw hM
 | some n=>
  have hmn:=hm n rfl
  have ca:=c134 d.tiers n.tier
  rw [wO] at hw
  cases hal:alB d.tiers n.tier with
  | true=>
   rw [hal] at ca
   rw [hal,if_pos rfl] at hw
   rw [← hw]
   (repeat' (first|refine cDw G1r ca ?_|refine Wz ?_|fail))
   all_goals (try exact oMw)
   exact rXw hM
  | false=>
   rw [hal] at ca
   rw [hal,if_neg (by simp)] at hw
   have cp:=n119 d n.parent
   rw [hsome] at cp
   have hm':∀ m,getN d.notes n.parent=some m→m∈d.notes:=fun m h=>(H3 h).1
   have hle:=G5d hg hm'
   have hlt:wM (getN d.notes n.parent)<wM (some n):=by
    cases hp:getN d.notes n.parent with
    | none=>simp [wM]
    | some m=>
     have hmm:=H3 hp
     have h3:=hg.up n hmn m hmm.1 hmm.2.symm
     have h4:=hg.tr m hmm.1
     simp only [wM];omega
   have hf:=C2e hg d.tiers.length (d.tiers.length+1) _ hm' hle oEw
   (repeat' (first|refine cDw G1r ca ?_|refine cDw M7 cp ?_|refine Wz ?_|fail))
   all_goals (try exact oMw)
   exact A0 (getN d.notes n.parent) ⟨hm',by rw [← hf];exact hw⟩ hlt
theorem c117 (d:Doc)(sp:List Spn)(id:Int)(hg:GD d)(hs:sp.length≤12):Fp Tryz.prog 117 [.g (docC d),spnD sp,dI id] (dB (Q7 d sp id)):=by
 unfold Q7
 obtain⟨o,ho⟩:∃ b,A0l d id=b:=⟨_,rfl⟩;have co:=c54 d id hg;rw [ho] at co;cases o
 ·rw [ho]
  refine fXw Tryz.func117 Tryz.ntmps117 fun c hM=>?_
  (repeat' (first|refine cDw en54 co ?_|refine Wz ?_|fail))
  all_goals (try exact oMw)
  exact rXw hM
 ·rename_i s
  rw [ho]
  refine fXw Tryz.func117 Tryz.ntmps117 fun c hM=>?_
  (repeat' (first|refine cDw en54 co ?_|refine cDw en57 (c57 sp s hs) ?_|refine Wz ?_|fail))
  all_goals (try exact oMw)
  exact rXw hM
end
end Go.Proofs.YtojadfppncgphaaGreatDoor