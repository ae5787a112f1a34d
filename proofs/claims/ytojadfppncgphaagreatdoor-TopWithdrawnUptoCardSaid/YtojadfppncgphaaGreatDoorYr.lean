/- Own text. -/
import Derived.Test.YtojadfppncgphaaGreatDoorYq
set_option linter.all false
set_option maxHeartbeats 16000000
set_option maxRecDepth 8000
namespace Go.Dl
open Go.RowKit Go.En
section
variable {P : Program} {c : Cx} {n : Nat} {Q : Post} {F : Fr} {H : Hp}
theorem D5q {k:Code} (h:X P c n k (Exit.noGoto Q) F H):X P c n (.scope k) Q F H:=fun a w hr=>wp_scope_straight (h a w hr)
theorem D5r {l:Nat} (h:XK c n Q .normal F H):X P c n (.label l) Q F H:=fun a w hr=>wp_label (h a w hr)
theorem B2p (h:XK c n Q .ret F H):XK c n (Exit.noGoto Q) .ret F H:=h
end
end Go.Dl
namespace Go.Proofs.YtojadfppncgphaaGreatDoor
section
open Go.RowKit Go.En Go.Dl Go.Tp
theorem A1a {us : List Unt} {s : Tx} : ∀ {n i m : Nat}, nxtU us s n = some (i, m) → 1 ≤ m ∧ m ≤ n ∧ i < us.length
 | 0,_,_,h=>by cases h
 | n + 1, i, m, h => by
  rw [nxtU] at h
  split at h
  ·rename_i h0
   simp only [Option.some.injEq,Prod.mk.injEq] at h
   obtain⟨rfl,rfl⟩:=h
   refine⟨by omega,Nat.le_refl _,?_⟩
   rcases Q8 (fun u:Unt=>decide (u.graph=s.take (n+1))) us 0 with⟨h1,_⟩|⟨i,x,h1,h2,_⟩
   ·have h1:uIx us (s.take (n+1)) = -1:=h1
    omega
   ·have h1:uIx us (s.take (n+1))=((0+i:Nat):Int):=h1
    have:=(List.getElem?_eq_some_iff.1 h2).1
    omega
  ·have:=A1a h;omega
theorem S7 (us:List Unt) (k:Nat):N3 us k []=([],0):=by cases k <;> simp [N3]
theorem A2t (us : List Unt) : ∀ (k m : Nat) (s : Tx), s.length ≤ k → s.length ≤ m → N3 us k s = N3 us m s
 | 0,m,s,hk,_=>by
  have:s=[]:=List.eq_nil_of_length_eq_zero (by omega)
  subst this;rw [S7,S7]
 | k+1,0,s,_,hm=>by
  have:s=[]:=List.eq_nil_of_length_eq_zero (by omega)
  subst this;rw [S7,S7]
 | k + 1, m + 1, s, hk, hm => by
  simp only [N3]
  by_cases hs:s=[]
  ·rw [if_pos hs,if_pos hs]
  ·rw [if_neg hs,if_neg hs]
   cases hf:nxtU us s (min (A7t us) s.length) with
   | none=>rfl
   | some q=>
    obtain⟨i,n⟩:=q
    have:=A1a hf
    dsimp only
    rw [A2t us k m (s.drop n) (by rw [List.length_drop];omega) (by rw [List.length_drop];omega)]
theorem B5j (us:List Unt) {s:Tx} (hs:s≠[]):N5 us s=match nxtU us s (min (A7t us) s.length) with
  | none=>([],0)
  | some (i,n)=>(i::(N5 us (s.drop n)).1,n+(N5 us (s.drop n)).2):=by
 have hl:0<s.length:=List.length_pos_iff.2 hs
 obtain⟨k,hk⟩:∃ k,s.length=k+1:=⟨s.length-1,by omega⟩
 unfold N5
 rw [hk,N3,if_neg hs,← hk]
 cases hf:nxtU us s (min (A7t us) s.length) with
 | none=>rfl
 | some q=>
  obtain⟨i,n⟩:=q
  have:=A1a hf
  dsimp only
  rw [A2t us k (s.drop n).length (s.drop n) (by rw [List.length_drop];omega) (Nat.le_refl _)]
theorem A6v (us : List Unt) : ∀ (k : Nat) (s : Tx), (∀ i ∈ (N3 us k s).1, i < us.length) ∧ (N3 us k s).1.length ≤ k
 | 0,_=>⟨fun i h=>(by cases h),Nat.le_refl _⟩
 | k + 1, s => by
  rw [N3]
  split
  ·exact⟨fun i h=>(by cases h),Nat.zero_le _⟩
  ·cases hf:nxtU us s (min (A7t us) s.length) with
   | none=>exact⟨fun i h=>(by cases h),Nat.zero_le _⟩
   | some q=>
    obtain⟨i,n⟩:=q
    have h1:=A1a hf
    have h2:=A6v us k (s.drop n)
    dsimp only
    refine⟨fun j hj=>?_,by rw [List.length_cons];omega⟩
    rcases List.mem_cons.1 hj with rfl|hj
    ·exact h1.2.2
    ·exact h2.1 j hj
attribute [local irreducible] X XL XW XG XK Val LS Fp Fo Calls bodyPost Code.wp
theorem C8d {us:List Unt} (h:∀ u∈us,u.graph.length≤1000000):∀ {m:Nat},m≤1000000→us.foldl (fun m u=>max m u.graph.length) m≤1000000:=by
 induction us with
 | nil=>intro m h;exact h
 | cons u r ih=>
  intro m hm
  rw [List.foldl_cons]
  exact ih (fun x hx=>h x (List.mem_cons_of_mem _ hx)) (by have:=h u (List.mem_cons_self ..);omega)
theorem c247 (o:Orth) (s:Tx) (hs:s.length≤1000000) (hu:∀ u∈o.units,u.graph.length≤1000000):Fp Tryz.prog 247 [.g (Z3 o),dS s] (.t [ints (natI (N5 o.units s).1),dI (N5 o.units s).2]):=by
 have hmost:=C8d hu (m:=0) (by omega)
 have hmu:A7t o.units=o.units.foldl (fun m u=>max m u.graph.length) 0:=rfl
 refine fXw Tryz.func247 Tryz.ntmps247 fun c hM=>?_
 (repeat' (first|refine D5q ?_|refine Wz ?_|refine Wb fun hb=>?_))
 refine X_lp (ι:=Nat) 134086976 [] (fun i=>[(6,.d (dI ((o.units.take i).foldl (fun m u=>max m u.graph.length) 0:Nat))),(17,.d (dI i))]) (fun _=>[]) (fun i=>i≤o.units.length) (fun i=>o.units.length-i) (0) ?_ ?_
 ·exact Nat.zero_le _
 rintro i hi
 by_cases hlt:i<o.units.length
 ·obtain⟨u,hx⟩:=gex hlt
  have hfold:=J8 (f:=fun(m:Nat) (u:Unt)=>max m u.graph.length) (b:=0) hx
  obtain⟨m,hm⟩:∃ m,(o.units.take i).foldl (fun m u=>max m u.graph.length) 0=m:=⟨_,rfl⟩
  rw [hm] at hfold ⊢
  (repeat' (first|(refine X5 ?_;first|refine G_x (A5 fun _=>zMx rfl rfl rfl) rfl rfl ?_)|refine iDw (gm hx) ?_|refine Wz ?_|refine Wd (fun hh=>?_) fun hh=>?_))
  all_goals (try exact oMw)
  exact A0 (i+1) (by omega) (by omega) (hf:=A6 (congrArg (fun z:Int=>some (Lf.d (dI z))) (by rw [hfold];omega)) (A6 rfl (B9 _)))
 have hz:i=o.units.length:=by omega
 subst hz
 rw [List.take_length,← hmu]
 rw [← hmu] at hmost
 obtain⟨M,hM'⟩:∃ M,A7t o.units=M:=⟨_,rfl⟩
 rw [hM'] at hmost ⊢
 (repeat' (first|refine D5r ?_|refine Wz ?_|refine Wd (fun hh=>?_) fun hh=>?_))
 all_goals (try exact oMw)
 refine D5 9 9 3 1 rfl rfl ?_
 refine X_lp (ι:=Nat × Nat × List Nat) 73786976294704004608 [9] (fun s=>[(9,.o 9 s.2.1),(10,.d (dI s.1))]) (fun s=>[(9,.ls 3 1 s.2.1 ((natI s.2.2).map iC))]) (fun q=>q.1≤s.length∧q.2.2.length≤q.1∧(q.2.2++(N5 o.units (s.drop q.1)).1,q.1+(N5 o.units (s.drop q.1)).2)=N5 o.units s) (fun q=>s.length-q.1) ((0,0,[])) ?_ ?_
 ·exact⟨Nat.zero_le _,Nat.le_refl _,by simp⟩
 rintro⟨a,v,out⟩ ⟨ha,hol,hq⟩
 dsimp only at ha hol hq ⊢
 by_cases hlt:a<s.length
 rotate_left
 ·have hz:a=s.length:=by omega
  subst hz
  have hnil:N5 o.units []=([],0):=rfl
  rw [List.drop_length,hnil,List.append_nil] at hq
  rw [← hq]
  (repeat' (first|refine B2p ?_|refine Wz ?_|refine Wd (fun hh=>?_) fun hh=>?_))
  all_goals (try exact oMw)
  refine C3 4 rfl rfl (by simp [natI];omega) ?_
  skip
  exact rXw hM
 have hno:(natI out).length=out.length:=by simp [natI]
 obtain⟨rest,hrest⟩:∃ rest,s.drop a=rest:=⟨_,rfl⟩
 have hrl:rest.length=s.length-a:=by rw [← hrest,List.length_drop]
 have hne:rest≠[]:=fun e=>by rw [e] at hrl;simp at hrl;omega
 rw [hrest,B5j o.units hne,hM'] at hq
 obtain⟨N,hN⟩:∃ N,min M rest.length=N:=⟨_,rfl⟩
 rw [hN] at hq
 (repeat' (first|(refine X5 ?_;first|refine G_x (A5 fun _=>zMn rfl rfl rfl) rfl rfl ?_)|refine Wz ?_|refine Wd (fun hh=>?_) fun hh=>?_))
 all_goals (try exact oMw)
 rw [show min (M:Int) ((s.length:Int)-(a:Int))=(N:Int) by omega]
 refine X_lp (ι:=Nat) 73786976157399268864 [9] (fun n=>[(11,.d (dI n)),(9,.o 9 v),(10,.d (dI a))]) (fun _=>[(9,.ls 3 1 v ((natI out).map iC))]) (fun n=>n≤N∧nxtU o.units rest N=nxtU o.units rest n) (fun n=>n) (N) ?_ ?_
 ·exact⟨Nat.le_refl _,rfl⟩
 rintro n ⟨hn,hnx⟩
 cases n with
 | zero=>
  rw [hnx,nxtU] at hq
  dsimp only at hq
  rw [List.append_nil,Nat.add_zero] at hq
  rw [← hq]
  (repeat' (first|refine B2p ?_|refine Wz ?_|refine Wb fun hb=>?_|refine Wd (fun hh=>?_) fun hh=>?_))
  all_goals (try exact oMw)
  refine C3 4 rfl rfl (by simp [natI];omega) ?_
  skip
  exact rXw hM
 | succ m=>
  rw [nxtU] at hnx
  obtain⟨t,ht⟩:∃ t,rest.take (m+1)=t:=⟨_,rfl⟩
  rw [ht] at hnx
  have hsl:(s.take (a+(m+1))).drop a=t:=by rw [List.drop_take,hrest,← ht];congr 1;omega
  (repeat' (first|refine Wz ?_|refine Wb fun hb=>?_|refine Wd (fun hh=>?_) fun hh=>?_))
  all_goals (try exact oMw)
  refine X_lp (ι:=Nat) 73786958702652175872 [9] (fun i=>[(44,.d (dI i)),(9,.o 9 v),(10,.d (dI a))]) (fun _=>[(9,.ls 3 1 v ((natI out).map iC))]) (fun i=>i≤o.units.length∧uIx o.units t=ixF (fun u:Unt=>decide (u.graph=t)) (o.units.drop i) i) (fun i=>o.units.length-i) (0) ?_ ?_
  ·exact⟨Nat.zero_le _,rfl⟩
  rintro i ⟨hi2,hix⟩
  by_cases hlt2:i<o.units.length
  rotate_left
  ·rw [List.drop_eq_nil_of_le (by omega),ixF] at hix
   rw [hix,if_neg (by omega)] at hnx
   (repeat' (first|refine Wz ?_|refine Wd (fun hh=>?_) fun hh=>?_))
   all_goals (try exact oMw)
   exact A0 m ⟨by omega,hnx⟩ (by omega) (hf:=A6 (congrArg (fun z:Int=>some (Lf.d (dI z))) (by omega)) (A6 rfl (A6 rfl (B9 _))))
  obtain⟨u,hx⟩:=gex hlt2
  rw [drp hx,ixF] at hix
  by_cases hg:u.graph=t
  ·rw [if_pos (decide_eq_true hg)] at hix
   rw [hix,if_pos (by omega),Int.toNat_natCast] at hnx
   rw [hnx] at hq
   dsimp only at hq
   have hdr:rest.drop (m+1)=s.drop (a+(m+1)):=by rw [← hrest,List.drop_drop]
   rw [hdr] at hq
   (repeat' (first|refine G_x (A2 (m:=i) Z Z Z Z (gm hx)) Z Z ?_|refine G_x (A5 fun _=>M7 (a:=a) (b:=a+(m+1)) Z Z Z Z Z (by omega) (by omega) (by omega)) Z Z ?_|refine Wz ?_|refine Wd (fun hh=>?_) fun hh=>?_))
   all_goals (try exact oMw)
   all_goals (first|exact absurd (hg.trans hsl.symm) (by assumption)|exact A0 (a+(m+1),v+1,out++[i]) ⟨by dsimp only;omega,by simp;omega,by dsimp only;rw [← hq];simp;omega⟩ (by dsimp only;omega) (hh:=A3 (by simp only [natI,List.map_append];rfl) (A4 _)))
  ·rw [if_neg (by simpa using hg)] at hix
   (repeat' (first|refine G_x (A2 (m:=i) Z Z Z Z (gm hx)) Z Z ?_|refine G_x (A5 fun _=>M7 (a:=a) (b:=a+(m+1)) Z Z Z Z Z (by omega) (by omega) (by omega)) Z Z ?_|refine Wz ?_|refine Wd (fun hh=>?_) fun hh=>?_))
   all_goals (try exact oMw)
   all_goals (first|exact absurd (by rw [← hsl];assumption) hg|exact A0 (i+1) ⟨by omega,hix⟩ (by omega))
end
section
open Go.RowKit Go.En Go.Dl Go.Tp
attribute [local irreducible] X XL XW XG XK Val LS Fp Fo Calls bodyPost Code.wp
abbrev segD (segs:List Phn):Dt:=.s 2 (segs.map phC)
abbrev clsD (l:List Cls):Dt:=.s 2 (l.map clsC)
theorem c195 (segs:List Phn) (s:Int):Fp Tryz.prog 195 [.g [segD segs],dI s] (dB (K2 segs.length s)):=by
 unfold K2
 refine fXw Tryz.func195 Tryz.ntmps195 fun c hM=>?_
 (repeat' (first|refine Wz ?_|refine Wb fun hb=>?_|refine Wd (fun hh=>?_) fun hh=>?_))
 all_goals (try exact oMw)
 all_goals (refine rEw hM ?_;(first|(simp [one1, *,dB,dI,dS,List.anyB,List.allB];done)|(simp_all [one1,dB,dI,dS,List.anyB,List.allB];done)|(simp_all [one1,dB,dI,dS,List.anyB,List.allB];omega)))
theorem G0l:TwoInts Tryz.prog 190 3:=⟨by kernel_rfl,by kernel_rfl,by kernel_rfl,by kernel_rfl,Tryz.underlying3⟩
theorem c404 (segs:List Phn) (s:Int) (c:Cls) (hsl:segs.length≤1000):Fp Tryz.prog 404 [.g [segD segs],dI s,.g (clsC c)] (dB (inB segs s c)):=by
 unfold inB
 have c1:=c195 segs s
 cases hb:K2 segs.length s with
 | false=>
  rw [hb] at c1
  refine fXw Tryz.func404 Tryz.ntmps404 fun c hM=>?_
  (repeat' (first|refine cDw C2k c1 ?_|refine Wz ?_|fail))
  all_goals (try exact oMw)
  exact rXw hM
 | true=>
  rw [hb] at c1
  have hs:1≤s∧s≤(segs.length:Int):=by simpa [K2] using hb
  obtain⟨j,hj⟩:∃ j:Nat,s-1=(j:Int):=⟨(s-1).toNat,by omega⟩
  obtain⟨p,hp⟩:=gex (l:=segs) (i:=j) (by omega)
  have hf:C9o segs s=p.feat:=by unfold C9o;rw [hj,Int.toNat_natCast,hp];rfl
  rw [hf]
  obtain⟨z,hz⟩:∃ z,decide (c.value=C3a p.feat c.mask)=z:=⟨_,rfl⟩
  have hz2:(decide (c.mask=c.mask)&&decide (c.value=C3a p.feat c.mask))=z:=by rw [hz];simp
  rw [hz]
  refine fXw Tryz.func404 Tryz.ntmps404 fun c hM=>?_
  (repeat' (first|refine G_x (A1 rfl rfl rfl C2k (c1)) Z Z ?_|refine G_x (A2 (m:=j) Z Z Z (by omega) (gm hp)) Z Z ?_|refine G_x (A5 fun _=>D3p Z Z Z) Z Z ?_|refine G_x (A3k G0l rfl rfl rfl hz2) Z Z ?_|refine Wz ?_|fail))
  all_goals (try exact oMw)
  exact rXw hM
theorem c403 (segs:List Phn) (l:List Cls) (k:Nat) (s:Int) (c:Cls) (hk:l[k]?=some c) (hsl:segs.length≤1000):Fp Tryz.prog 403 [.g [segD segs,clsD l],dI k,dI s] (dB (inB segs s c)):=by
 have c1:=c404 segs s c hsl
 refine fXw Tryz.func403 Tryz.ntmps403 fun c hM=>?_
 (repeat' (first|refine iDw (gm hk) ?_|refine cDw G4g c1 ?_|refine Wz ?_|fail))
 all_goals (try exact oMw)
 exact rXw hM
theorem C4q (segs:List Phn) (l:List Cls):Z6 segs l []=true:=by cases l <;> rfl
theorem c402 (segs:List Phn) (l:List Cls) (w:List Int) (hl:w.length≤l.length) (hsl:segs.length≤1000):Fp Tryz.prog 402 [.v (.func (.func 403) #[] #[]),.g [segD segs,clsD l],ints w] (dB (Z6 segs l w)):=by
 refine fXw Tryz.func402 Tryz.ntmps402 fun c hM=>?_
 (repeat' (first|refine Wz ?_|refine Wb fun hb=>?_))
 refine X_lp (ι:=Nat) 8387008 [] (fun i=>[(11,.d (dI i))]) (fun _=>[]) (fun i=>i≤w.length∧Z6 segs l w=Z6 segs (l.drop i) (w.drop i)) (fun i=>w.length-i) (0) ?_ ?_
 ·exact⟨Nat.zero_le _,rfl⟩
 rintro i ⟨hi,hq⟩
 by_cases hlt:i<w.length
 ·obtain⟨x,hx⟩:=gex hlt
  obtain⟨cl,hcl⟩:=gex (l:=l) (i:=i) (by omega)
  rw [drp hx,drp hcl,Z6] at hq
  have c1:=c403 segs l i x cl hcl hsl
  cases hb:inB segs x cl with
  | true=>
   rw [hb] at c1
   rw [hb,Bool.true_and] at hq
   (repeat' (first|refine iDw (gm hx) ?_|refine G_x (G8 rfl rfl rfl rfl D7f (c1)) rfl rfl ?_|refine Wz ?_|refine Wd (fun hh=>?_) fun hh=>?_))
   all_goals (try exact oMw)
   exact A0 (i+1) ⟨by omega,hq⟩ (by omega)
  | false=>
   rw [hb] at c1
   rw [hb,Bool.false_and] at hq
   rw [hq]
   (repeat' (first|refine iDw (gm hx) ?_|refine G_x (G8 rfl rfl rfl rfl D7f (c1)) rfl rfl ?_|refine Wz ?_|refine Wd (fun hh=>?_) fun hh=>?_))
   all_goals (try exact oMw)
   exact rXw hM
 ·rw [hq,List.drop_eq_nil_of_le (show w.length≤i by omega),C4q]
  (repeat' (first|refine Wz ?_|refine Wd (fun hh=>?_) fun hh=>?_))
  all_goals (try exact oMw)
  exact rXw hM
structure RewS (r:Rew):Prop where
 til:r.til.length=r.frm.length
 left:r.left.length≤1000
 right:r.right.length≤1000
theorem C6h (segs:List Phn) (r:Rew) (w:List Int) (i:Nat) (x:Int):B0i segs r w i x=
  if hasI r.frm x=false∨((i:Int)-r.left.length<0∨((w.length:Int)<(i:Int)+1+r.right.length∨(r.beg=true∧(0:Int)<(i:Int)-r.left.length∨(r.fin=true∧(i:Int)+1+r.right.length<w.length)))) then false else
   (Z6 segs r.left ((w.take i).drop (i-r.left.length))&&Z6 segs r.right ((w.take (i+1+r.right.length)).drop (i+1))):=by
 unfold B0i
 split
 ·rename_i h
  rcases h with h|h|h|h|h
  ·rw [h];rfl
  ·rw [decide_eq_false (show ¬ r.left.length≤i by omega)];simp
  ·rw [decide_eq_false (show ¬ i+1+r.right.length≤w.length by omega)];simp
  ·rw [h.1,decide_eq_true (show r.left.length<i by omega)];simp
  ·rw [h.1,decide_eq_true (show i+1+r.right.length<w.length by omega)];simp
 ·rename_i h
  simp only [not_or] at h
  obtain⟨h1,h2,h3,h4,h5⟩:=h
  have h1:hasI r.frm x=true:=by simpa using h1
  have e1:(w.drop (i-r.left.length)).take r.left.length=(w.take i).drop (i-r.left.length):=by
   rw [List.drop_take];congr 1;omega
  have e2:(w.drop (i+1)).take r.right.length=(w.take (i+1+r.right.length)).drop (i+1):=by
   rw [List.drop_take];congr 1;omega
  have h4':(r.beg&&decide (r.left.length<i))=false:=by
   cases hb:r.beg with
   | false=>rfl
   | true=>rw [Bool.true_and];exact decide_eq_false fun hlt=>h4 ⟨hb,by omega⟩
  have h5':(r.fin&&decide (i+1+r.right.length<w.length))=false:=by
   cases hb:r.fin with
   | false=>rfl
   | true=>rw [Bool.true_and];exact decide_eq_false fun hlt=>h5 ⟨hb,by omega⟩
  rw [e1,e2,h1,h4',h5',decide_eq_true (show r.left.length≤i by omega),decide_eq_true (show i+1+r.right.length≤w.length by omega)]
  simp
theorem c400 (segs:List Phn) (r:Rew) (w:List Int) (i:Nat) (x:Int) (hx:w[i]?=some x) (hw:w.length≤1000000) (hll:r.left.length≤1000) (hrl:r.right.length≤1000) (hsl:segs.length≤1000):Fp Tryz.prog 400 [.g [segD segs],.g (rewC r),ints w,dI i] (dB (B0i segs r w i x)):=by
 have hlt:=(List.getElem?_eq_some_iff.1 hx).1
 rw [C6h]
 have ch:=c190 r.frm x
 obtain⟨b,hb⟩:∃ b,hasI r.frm x=b:=⟨_,rfl⟩
 obtain⟨bg,hbg⟩:∃ b,r.beg=b:=⟨_,rfl⟩
 obtain⟨fi,hfi⟩:∃ b,r.fin=b:=⟨_,rfl⟩
 have hrC:rewC r=[ints r.frm,ints r.til,clsD r.left,clsD r.right,dB bg,dB fi]:=by rw [← hbg,← hfi];rfl
 rw [hb] at ch
 rw [hb,hbg,hfi,hrC]
 clear hrC
 refine fXw Tryz.func400 Tryz.ntmps400 fun c hM=>?_
 (repeat' ((fail_if_success (refine J1 (x:=(Code.region 2 _ _)) ?_));first|refine Wz ?_|fail))
 refine X_jb 288230376147517440 [] 57 (b=false∨((i:Int)-r.left.length<0∨((w.length:Int)<(i:Int)+1+r.right.length∨(bg=true∧(0:Int)<(i:Int)-r.left.length∨(fi=true∧(i:Int)+1+r.right.length<w.length))))) ?_ ?_
 ·(repeat' (first|refine iDw (gm hx) ?_|refine cDw A8o ch ?_|refine Wz ?_|refine Wd (fun hh=>?_) fun hh=>?_|(refine Wg (fun hg=>?_) (fun hg=>?_) <;>(first|subst hg|(simp at hg;subst hg)))))
  all_goals (try exact oMw)
  all_goals refine A9h _ ?_ (hf:=rfl) (hF:=by(repeat (refine H7 rfl ?_));first|exact H6 _|exact N8) (hH:=by(repeat (first|refine H2 rfl ?_|refine H1 rfl ?_));first|exact G9 _|exact N7)
  all_goals (first|(simp [*];done)|(simp_all;done)|(simp_all;omega)|(constructor <;> intros <;> simp_all <;> omega))
 intro b hb
 cases b
 rotate_left
 ·rw [if_pos (hb.1 rfl)]
  (repeat' (first|refine Wz ?_|fail))
  all_goals exact rXw hM
 rw [if_neg (fun h=>Bool.noConfusion (hb.2 h))]
 have hN:¬ (b=false∨((i:Int)-r.left.length<0∨((w.length:Int)<(i:Int)+1+r.right.length∨(bg=true∧(0:Int)<(i:Int)-r.left.length∨(fi=true∧(i:Int)+1+r.right.length<w.length))))):=fun h=>Bool.noConfusion (hb.2 h)
 clear hb
 simp only [not_or] at hN
 obtain⟨_,n2,n3,_,_⟩:=hN
 have h2:r.left.length≤i:=by omega
 have h3:i+1+r.right.length≤w.length:=by omega
 clear n2 n3
 obtain⟨A,hA⟩:∃ A,(w.take i).drop (i-r.left.length)=A:=⟨_,rfl⟩
 obtain⟨B,hB⟩:∃ B,(w.take (i+1+r.right.length)).drop (i+1)=B:=⟨_,rfl⟩
 have hAl:A.length≤r.left.length:=by rw [← hA,List.length_drop,List.length_take];omega
 have hBl:B.length≤r.right.length:=by rw [← hB,List.length_drop,List.length_take];omega
 have eA:((w.map iC).take i).drop (i-r.left.length)=A.map iC:=by rw [← hA,List.map_drop,List.map_take]
 have eB:((w.map iC).take (i+1+r.right.length)).drop (i+1)=B.map iC:=by rw [← hB,List.map_drop,List.map_take]
 have cA:=c402 segs r.left A hAl hsl
 have cB:=c402 segs r.right B hBl hsl
 rw [hA,hB]
 obtain⟨fA,hfA⟩:∃ q,Z6 segs r.left A=q:=⟨_,rfl⟩
 obtain⟨fB,hfB⟩:∃ q,Z6 segs r.right B=q:=⟨_,rfl⟩
 rw [hfA] at cA ⊢
 rw [hfB] at cB ⊢
 cases fA
 all_goals (
  (repeat' (first|refine G_x (B6i (a:=i-r.left.length) (b:=i) Z Z Z Z (by omega) (by omega) (by omega) (by rw [List.length_map];omega)) Z Z ?_|refine G_x (B6i (a:=i+1) (b:=i+1+r.right.length) Z Z Z Z (by omega) (by omega) (by omega) (by rw [List.length_map];omega)) Z Z ?_|refine G_x (A1 rfl rfl rfl D7g cA (.t1 (.eq rfl) (.t1 (.eq rfl) (.t1 (.eq (congrArg (Dt.s 1) eA)) .t0)))) Z Z ?_|refine G_x (A1 rfl rfl rfl D7g cB (.t1 (.eq rfl) (.t1 (.eq rfl) (.t1 (.eq (congrArg (Dt.s 1) eB)) .t0)))) Z Z ?_|refine Wz ?_|fail))
  all_goals (try exact oMw)
  all_goals exact rXw hM)
theorem A0q (segs : List Phn) (r : Rew) (w : List Int) : ∀ (q : List Int) (i : Nat), (Q9 segs r w i q).length ≤ q.length
 | [],_=>Nat.le_refl _
 | x :: q, i => by
  have h1:=A0q segs r w q (i+1)
  have h2:(oneP segs r w i x).length≤1:=by
   unfold oneP
   split
   ·split
    ·exact Nat.zero_le _
    ·exact Nat.le_refl _
   ·exact Nat.le_refl _
  rw [Q9,List.length_append,List.length_cons];omega
theorem c397 (segs:List Phn) (r:Rew) (w:List Int) (hw:w.length≤1000000) (hr:RewS r) (hsl:segs.length≤1000):Fp Tryz.prog 397 [.g [segD segs],.g (rewC r),ints w] (ints (A4t segs w r)):=by
 have e:A4t segs w r=Q9 segs r w 0 w:=rfl
 have htl:=A0q segs r w w 0
 rw [e]
 refine fXw Tryz.func397 Tryz.ntmps397 fun c hM=>?_
 (repeat' (first|refine Wz ?_|refine Wb fun hb=>?_))
 refine D5 7 7 3 1 rfl rfl ?_
 refine X_lp (ι:=Nat × Nat × List Int) 137438950272 [7] (fun s=>[(7,.o 7 s.2.1),(12,.d (dI s.1))]) (fun s=>[(7,.ls 3 1 s.2.1 (s.2.2.map iC))]) (fun s=>s.1≤w.length∧s.2.2.length≤s.1∧s.2.2++Q9 segs r w s.1 (w.drop s.1)=Q9 segs r w 0 w) (fun s=>w.length-s.1) ((0,0,[])) ?_ ?_
 ·exact⟨Nat.zero_le _,Nat.le_refl _,rfl⟩
 rintro⟨i,v,out⟩ ⟨hi,hol,hout⟩
 dsimp only at hi hol hout ⊢
 by_cases hlt:i<w.length
 rotate_left
 ·rw [List.drop_eq_nil_of_le (show w.length≤i by omega),Q9,List.append_nil] at hout
  (repeat' (first|refine Wz ?_|refine Wd (fun hh=>?_) fun hh=>?_))
  all_goals (try exact oMw)
  refine C3 6 rfl rfl lOw ?_
  refine rEw hM ?_
  rw [hout];rfl
 obtain⟨x,hx⟩:=gex hlt
 rw [drp hx,Q9,oneP,← List.append_assoc] at hout
 have cs:=c400 segs r w i x hx hw hr.left hr.right hsl
 cases hb:B0i segs r w i x with
 | false=>
  rw [hb] at cs
  rw [hb,if_neg (by simp)] at hout
  (repeat' (first|refine iDw (gm hx) ?_|refine cDw C9x cs ?_|refine Wz ?_|refine Wd (fun hh=>?_) fun hh=>?_))
  all_goals (try exact oMw)
  exact A0 (i+1,v+1,out++[x]) ⟨by dsimp only;omega,by simp;omega,hout⟩ (by dsimp only;omega) (hh:=A3 (by rw [List.map_append];rfl) (A4 _))
 | true=>
  rw [hb] at cs
  rw [hb,if_pos rfl] at hout
  have hhas:hasI r.frm x=true:=by
   unfold B0i at hb
   rw [Bool.and_eq_true] at hb;exact hb.1
  have c13:Fp Tryz.prog 130 [ints r.frm,dI x] (dI (ixF (fun y=>decide (x=y)) r.frm 0)):=c130 r.frm x
  rcases Q8 (fun y=>decide (x=y)) r.frm 0 with⟨h1,h2⟩|⟨k,y,h1,h2,h3⟩
  ·exfalso
   rw [List.find?_eq_none] at h2
   unfold hasI at hhas
   rw [List.any_eq_true] at hhas
   obtain⟨y,hy,he⟩:=hhas
   exact h2 y hy he
  rw [Nat.zero_add] at h1
  have h1:ixF (fun y=>decide (x=y)) r.frm 0=(k:Int):=h1
  have hkl:=(List.getElem?_eq_some_iff.1 h2).1
  obtain⟨z,hz⟩:=gex (l:=r.til) (i:=k) (by rw [hr.til];omega)
  have hnew:newP r x=z:=by unfold newP;rw [h1,Int.toNat_natCast,List.getD_eq_getElem?_getD,hz];rfl
  rw [hnew] at hout
  rw [h1] at c13
  by_cases hz0:z=0
  ·rw [if_pos hz0,List.append_nil] at hout
   (repeat' (first|refine iDw (gm hx) ?_|refine iDw (gm hz) ?_|refine cDw C9x cs ?_|refine cDw D0q c13 ?_|refine Wz ?_|refine Wd (fun hh=>?_) fun hh=>?_))
   all_goals (try exact oMw)
   exact A0 (i+1,v,out) ⟨by dsimp only;omega,by dsimp only;omega,hout⟩ (by dsimp only;omega)
  ·rw [if_neg hz0] at hout
   (repeat' (first|refine iDw (gm hx) ?_|refine iDw (gm hz) ?_|refine cDw C9x cs ?_|refine cDw D0q c13 ?_|refine Wz ?_|refine Wd (fun hh=>?_) fun hh=>?_))
   all_goals (try exact oMw)
   exact A0 (i+1,v+1,out++[z]) ⟨by dsimp only;omega,by simp;omega,hout⟩ (by dsimp only;omega) (hh:=A3 (by rw [List.map_append];rfl) (A4 _))
end
section
open Go.RowKit Go.En Go.Dl Go.Tp
attribute [local irreducible] X XL XW XG XK Val LS Fp Fo Calls bodyPost Code.wp
theorem c399 (l:List Sns) (hl:l.length≤1000):Fp Tryz.prog 399 [.s 2 (l.map snC)] (.s 2 (l.map snC)):=by
 refine fXw Tryz.func399 Tryz.ntmps399 fun c hM=>?_
 (repeat' (first|(refine D2o rfl rfl rfl rfl rfl (fun b hb=>?_);cases b)|refine G_nd rfl rfl (N4 _ rfl rfl rfl rfl rfl) rfl ?_|refine Wz ?_|fail))
 ·refine C3 2 rfl rfl lOw ?_
  exact rXw hM
 ·have h0:l=[]:=by
   cases l with
   | nil=>rfl
   | cons x r=>exact absurd (hb (by simp)) (by simp)
  subst h0
  exact rXw hM
end
section
open Go.RowKit Go.En Go.Dl Go.Tp
attribute [local irreducible] X XL XW XG XK Val LS Fp Fo Calls bodyPost Code.wp
theorem c393 (segs:List Phn) (rules:List Rew) (w:List Int) (hw:w.length≤1000000) (hr:∀ r∈rules,RewS r) (hsl:segs.length≤1000):Fp Tryz.prog 393 [.g [segD segs],.s 6 (rules.map rewC),ints w] (ints (B6r segs rules w)):=by
 unfold B6r
 refine fXw Tryz.func393 Tryz.ntmps393 fun c hM=>?_
 (repeat' (first|refine Wz ?_|refine Wb fun hb=>?_))
 refine X_lp (ι:=Nat × List Int) 1046788 [] (fun s=>[(2,.d (ints s.2)),(11,.d (dI s.1))]) (fun _=>[]) (fun s=>s.1≤rules.length∧s.2.length≤w.length∧(rules.drop s.1).foldl (A4t segs) s.2=rules.foldl (A4t segs) w) (fun s=>rules.length-s.1) ((0,w)) ?_ ?_
 ·exact⟨Nat.zero_le _,Nat.le_refl _,rfl⟩
 rintro⟨i,u⟩ ⟨hi,hu,hq⟩
 dsimp only at hi hu hq ⊢
 by_cases hlt:i<rules.length
 ·obtain⟨r,hx⟩:=gex hlt
  rw [drp hx,List.foldl_cons] at hq
  have c1:=c397 segs r u (by omega) (hr r (List.mem_of_getElem? hx)) hsl
  have hl:=A0q segs r u u 0
  (repeat' (first|refine iDw (gm hx) ?_|refine cDw G4k c1 ?_|refine Wz ?_|refine Wd (fun hh=>?_) fun hh=>?_))
  all_goals (try exact oMw)
  exact A0 (i+1,A4t segs u r) ⟨by dsimp only;omega,Nat.le_trans hl hu,hq⟩ (by dsimp only;omega)
 ·rw [List.drop_eq_nil_of_le (by omega),List.foldl_nil] at hq
  (repeat' (first|refine Wz ?_|refine Wd (fun hh=>?_) fun hh=>?_))
  all_goals (try exact oMw)
  refine rEw hM ?_
  rw [hq];rfl
theorem c394 (a b:List Int):Fp Tryz.prog 394 [ints a,ints b] (dB (decide (a=b))):=by
 by_cases hl:a.length=b.length
 rotate_left
 ·rw [decide_eq_false (fun e=>hl (by rw [e]))]
  refine fXw Tryz.func394 Tryz.ntmps394 fun c hM=>?_
  (repeat' (first|refine Wz ?_|refine Wb fun hb=>?_|refine Wd (fun hh=>?_) fun hh=>?_))
  all_goals (try exact oMw)
  exact rXw hM
 refine fXw Tryz.func394 Tryz.ntmps394 fun c hM=>?_
 (repeat' (first|refine Wz ?_|refine Wb fun hb=>?_|refine Wd (fun hh=>?_) fun hh=>?_))
 all_goals (try exact oMw)
 refine X_lp (ι:=Nat) 67100720 [] (fun i=>[(13,.d (dI i))]) (fun _=>[]) (fun i=>i≤a.length∧a.take i=b.take i) (fun i=>a.length-i) (0) ?_ ?_
 ·exact⟨Nat.zero_le _,rfl⟩
 rintro i ⟨hi,hq⟩
 by_cases hlt:i<a.length
 ·obtain⟨x,hx⟩:=gex hlt
  obtain⟨y,hy⟩:=gex (l:=b) (i:=i) (by omega)
  by_cases hxy:x=y
  ·subst hxy
   (repeat' (first|refine iDw (gm hx) ?_|refine iDw (gm hy) ?_|refine Wz ?_|refine Wd (fun hh=>?_) fun hh=>?_))
   all_goals (try exact oMw)
   all_goals (first|exact absurd rfl (by assumption)|exact A0 (i+1) ⟨by omega,by rw [List.take_add_one,List.take_add_one,hx,hy,hq]⟩ (by omega))
  ·have hne:a≠b:=fun e=>by subst e;rw [hx] at hy;exact hxy (Option.some.inj hy)
   rw [decide_eq_false hne]
   (repeat' (first|refine iDw (gm hx) ?_|refine iDw (gm hy) ?_|refine Wz ?_|refine Wd (fun hh=>?_) fun hh=>?_))
   all_goals (try exact oMw)
   all_goals (first|exact absurd (by assumption) hxy|exact rXw hM)
 ·have he:a=b:=by rw [List.take_of_length_le (by omega),List.take_of_length_le (by omega)] at hq;exact hq
  rw [decide_eq_true he]
  (repeat' (first|refine Wz ?_|refine Wd (fun hh=>?_) fun hh=>?_))
  all_goals (try exact oMw)
  exact rXw hM
theorem q35S {p:Prop} (h:p:=by first|(simp [one1, *,dB,dI,dS,List.anyB,List.allB];done)|(simp_all [one1,dB,dI,dS,List.anyB,List.allB];done)|(simp_all [one1,dB,dI,dS,List.anyB,List.allB];omega)):p:=h
theorem c388 (l:List Int) (a:Int):Fp Tryz.prog 388 [ints l,dI a] ((fun _ q=>dB (q.anyB fun x=>decide (x=a))) 0 l):=by
 refine fXw Tryz.func388 Tryz.ntmps388 fun c hM=>?_
 (repeat' (first|refine Wz ?_|refine Wb fun hb=>?_))
 refine X_lp (ι:=Nat) 130640 [] (fun i=>[(9,.d (dI i))]) (fun _=>[]) (fun i=>i≤l.length∧(fun _ q=>dB (q.anyB fun x=>decide (x=a))) 0 l=(fun _ q=>dB (q.anyB fun x=>decide (x=a))) i (l.drop i)) (fun i=>l.length-i) (0) ?_ ?_
 ·exact⟨Nat.zero_le _,rfl⟩
 rintro i ⟨hi,hq⟩
 by_cases hlt:i<l.length
 ·obtain⟨n,hn⟩:=gex hlt
  (repeat' (first|refine iDw (gm hn) ?_|refine Wz ?_|refine Wd (fun hh=>?_) fun hh=>?_))
  all_goals (try exact oMw)
  all_goals first
   | (rw [hq,drp hn];refine rEw hM ?_;exact q35S)
   | exact A0 (i+1) ⟨by omega,by rw [hq,drp hn];exact q35S⟩ (by omega)
 ·(repeat' (first|refine Wz ?_|refine Wd (fun hh=>?_) fun hh=>?_))
  all_goals (try exact oMw)
  all_goals rw [hq,List.drop_eq_nil_of_le (by omega)]
  all_goals (refine rEw hM ?_;exact q35S)
theorem n388 (l:List Int) (a:Int):Fp Tryz.prog 388 [ints l,dI a] (dB (l.anyB fun x=>decide (x=a))):=c388 l a
theorem D3x (rules:List Rew):shrB rules=rules.anyB fun r=>r.til.anyB fun x=>decide (x=0):=by
 unfold shrB
 rw [T3]
 congr 1
 funext r
 rw [T3]
theorem c386 (rules:List Rew):Fp Tryz.prog 386 [.s 6 (rules.map rewC)] (dB (shrB rules)):=by
 rw [D3x]
 refine fXw Tryz.func386 Tryz.ntmps386 fun c hM=>?_
 (repeat' (first|refine Wz ?_|refine Wb fun hb=>?_))
 refine X_lp (ι:=Nat) 32660 [] (fun i=>[(7,.d (dI i))]) (fun _=>[]) (fun i=>i≤(rules).length∧(fun _ q=>dB (q.anyB fun r=>r.til.anyB fun x=>decide (x=0))) 0 (rules)=(fun _ q=>dB (q.anyB fun r=>r.til.anyB fun x=>decide (x=0))) i ((rules).drop i)) (fun i=>(rules).length-i) (0) ?_ ?_
 ·exact⟨Nat.zero_le _,rfl⟩
 rintro i ⟨hi,hq⟩
 by_cases hlt:i<(rules).length
 rotate_left
 ·have hz:i=(rules).length:=by omega
  subst hz
  rw [List.drop_eq_nil_of_le (Nat.le_refl _)] at hq
  try dsimp only at hq
  ((repeat' (first|refine Wz ?_|refine Wd (fun hh=>?_) fun hh=>?_));all_goals (first|(exfalso;omega)|(refine rEw hM ?_;rw [hq];rfl)))
 obtain⟨n,hn⟩:=gex hlt
 obtain⟨pv,hp⟩:=gex (l:=rules) (i:=i-1) (by omega)
 have hpr:=B7 hp
 have hmem:=List.mem_of_getElem? hn
 rw [drp hn] at hq
 try dsimp only at hq
 obtain⟨b,hb⟩:∃ b,n.til.anyB (fun x=>decide (x=0))=b:=⟨_,rfl⟩;have cb:=n388 n.til 0;rw [hb] at cb;rw [List.anyB,hb] at hq;cases b
 all_goals (repeat' (first|refine iDw (gm hn) ?_|refine cDw G4m cb ?_|refine Wz ?_|refine Wd (fun hh=>?_) fun hh=>?_))
 all_goals (try exact oMw)
 all_goals first
  | exact A0 (i+1) ⟨by omega,by(try dsimp only);rw [hq];exact q35S⟩ (by omega)
  | (refine rEw hM ?_;(try rw [hq]);exact q35S)
theorem c392 (w:List Int) (hw:∀ x∈w,0≤x∧x≤255) (hl:w.length≤1000):Fp Tryz.prog 392 [ints w] (dS (keyT w)):=by
 have hrows:∀ l:List Int,(∀ x∈l,0≤x∧x≤255)→(l.map fun x=>[Dt.v (.int .u8 x)])=(keyT l).map fun b=>[Dt.v (.int .u8 b.toNat)]:=fun l h=>by
  unfold keyT
  rw [List.map_map]
  refine List.map_congr_left fun x hx=>?_
  have:=h x hx
  show [Dt.v (Value.int .u8 x)]=[Dt.v (Value.int .u8 ((UInt8.ofNat x.toNat).toNat:Int))]
  rw [UInt8.toNat_ofNat',Nat.mod_eq_of_lt (by omega),Int.toNat_of_nonneg this.1]
 refine fXw Tryz.func392 Tryz.ntmps392 fun c hM=>?_
 (repeat' (first|refine G_nd rfl rfl (C8h _ w.length rfl rfl rfl rfl (by omega) (by omega)) rfl ?_|refine Wz ?_|refine Wb fun hb=>?_))
 refine X_lp (ι:=Nat) 2095144 [8] (fun i=>[(3,.o 8 i),(11,.d (dI i))]) (fun i=>[(8,.ls 5 1 i ((w.take i).map fun x=>[Dt.v (.int .u8 x)]))]) (fun i=>i≤w.length) (fun i=>w.length-i) (0) ?_ ?_
 ·exact Nat.zero_le _
 rintro i hi
 by_cases hlt:i<w.length
 ·obtain⟨x,hx⟩:=gex hlt
  have hxb:=hw x (List.mem_of_getElem? hx)
  have hrow:(w.take (i+1)).map (fun x=>[Dt.v (.int .u8 x)])=(w.take i).map (fun x=>[Dt.v (.int .u8 x)])++[[Dt.v (.int .u8 x)]]:=by rw [List.take_add_one,hx];simp
  (repeat' (first|refine iDw (gm hx) ?_|refine Wz ?_|refine Wd (fun hh=>?_) fun hh=>?_))
  all_goals (try exact oMw)
  exact A0 (i+1) (by omega) (by omega) (hh:=A3 (by rw [hrow];rfl) (A4 _))
 ·have hz:i=w.length:=by omega
  subst hz
  rw [List.take_length]
  (repeat' (first|(refine K5 21 rfl rfl (by rw [List.length_map];omega) ?_)|refine G_x (A3m rfl rfl (l:=keyT w) (by exact hrows w hw)) rfl rfl ?_|refine Wz ?_|refine Wd (fun hh=>?_) fun hh=>?_))
  all_goals (try exact oMw)
  exact rXw hM
theorem c396 (e:Entr) (ha:e.alts.length≤1000):Fp Tryz.prog 396 [.g (entC e)] (.s 1 ((A4o e).map fun a=>[ints a])):=by
 have hf:[[ints e.form]]++e.alts.map (fun a=>[ints a])=(A4o e).map fun a=>[ints a]:=rfl
 refine fXw Tryz.func396 Tryz.ntmps396 fun c hM=>?_
 (repeat' (first|refine G_nd rfl rfl (N4 _ rfl rfl rfl rfl rfl) rfl ?_|refine Wz ?_|fail))
 refine C3 2 rfl rfl lOw ?_
 exact rXw hM
end
end Go.Proofs.YtojadfppncgphaaGreatDoor