/- Own text. -/
import Derived.Test.YtojadfppncgphaaGreatDoorQYq
set_option linter.all false
set_option maxHeartbeats 16000000
set_option maxRecDepth 8000
namespace Go.Dl
open Go.RowKit Go.En
section
variable {P : Program}{c : Cx}{n : Nat}{Q : Post}{F : Fr}{H : Hp}
theorem D8g {k:Code}(h:X P c n k (Exit.noGoto Q) F H):X P c n (.scope k) Q F H:=fun a w hr=>wp_scope_straight (h a w hr)
theorem D8h {l:Nat}(h:XK c n Q .normal F H):X P c n (.label l) Q F H:=fun a w hr=>wp_label (h a w hr)
theorem B4b (h:XK c n Q .ret F H):XK c n (Exit.noGoto Q) .ret F H:=h
end
end Go.Dl
namespace Go.Proofs.YtojadfppncgphaaGreatDoor
section
open Go.RowKit Go.En Go.Dl Go.Tp
theorem A1r {us : List Unt}{s : Tx} : ∀ {n i m : Nat}, nxtU us s n = some (i, m) → 1 ≤ m ∧ m ≤ n ∧ i < us.length
 | 0,_,_,h=>by cases h
 | n + 1, i, m, h => by
  rw [nxtU] at h
  split at h
  ·rename_i h0
   simp only [Option.some.injEq,Prod.mk.injEq] at h
   obtain⟨rfl,rfl⟩:=h
   refine⟨oEw,Nat.le_refl _,?_⟩
   rcases Q5 (fun u:Unt=>decide (u.graph=s.take (n+1))) us 0 with⟨h1,_⟩|⟨i,x,h1,h2,_⟩
   ·have h1:uIx us (s.take (n+1)) = -1:=h1
    omega
   ·have h1:uIx us (s.take (n+1))=((0+i:Nat):Int):=h1
    have:=(List.getElem?_eq_some_iff.1 h2).1
    omega
  ·have:=A1r h;omega
theorem V5 (us:List Unt)(k:Nat):O3 us k []=([],0):=by cases k <;> simp [O3]
theorem A3n (us : List Unt) : ∀ (k m : Nat) (s : Tx), s.length ≤ k → s.length ≤ m → O3 us k s = O3 us m s
 | 0,m,s,hk,_=>by
  have:s=[]:=List.eq_nil_of_length_eq_zero oEw
  subst this;rw [V5,V5]
 | k+1,0,s,_,hm=>by
  have:s=[]:=List.eq_nil_of_length_eq_zero oEw
  subst this;rw [V5,V5]
 | k + 1, m + 1, s, hk, hm => by
  simp only [O3]
  by_cases hs:s=[]
  ·rw [if_pos hs,if_pos hs]
  ·rw [if_neg hs,if_neg hs]
   cases hf:nxtU us s (min (A8z us) s.length) with
   | none=>rfl
   | some q=>
    obtain⟨i,n⟩:=q
    have:=A1r hf
    dsimp only
    rw [A3n us k m (s.drop n) (by rw [List.length_drop];omega) (by rw [List.length_drop];omega)]
theorem B6w (us:List Unt){s:Tx}(hs:s≠[]):O4 us s=match nxtU us s (min (A8z us) s.length) with
  | none=>([],0)
  | some (i,n)=>(i::(O4 us (s.drop n)).1,n+(O4 us (s.drop n)).2):=by
 have hl:0<s.length:=List.length_pos_iff.2 hs
 obtain⟨k,hk⟩:∃ k,s.length=k+1:=⟨s.length-1,oEw⟩
 unfold O4
 rw [hk,O3,if_neg hs,← hk]
 cases hf:nxtU us s (min (A8z us) s.length) with
 | none=>rfl
 | some q=>
  obtain⟨i,n⟩:=q
  have:=A1r hf
  dsimp only
  rw [A3n us k (s.drop n).length (s.drop n) (by rw [List.length_drop];omega) (Nat.le_refl _)]
theorem A7y (us : List Unt) : ∀ (k : Nat) (s : Tx), (∀ i ∈ (O3 us k s).1, i < us.length) ∧ (O3 us k s).1.length ≤ k
 | 0,_=>⟨fun i h=>(by cases h),Nat.le_refl _⟩
 | k + 1, s => by
  rw [O3]
  split
  ·exact⟨fun i h=>(by cases h),zLw⟩
  ·cases hf:nxtU us s (min (A8z us) s.length) with
   | none=>exact⟨fun i h=>(by cases h),zLw⟩
   | some q=>
    obtain⟨i,n⟩:=q
    have h1:=A1r hf
    have h2:=A7y us k (s.drop n)
    dsimp only
    refine⟨fun j hj=>?_,by rw [List.length_cons];omega⟩
    rcases List.mem_cons.1 hj with rfl|hj
    ·exact h1.2.2
    ·exact h2.1 j hj
attribute [local irreducible] X XL XW XG XK Val LS Fp Fo Calls bodyPost Code.wp
theorem C9x {us:List Unt}(h:∀ u∈us,u.graph.length≤1000000):∀ {m:Nat},m≤1000000→us.foldl (fun m u=>max m u.graph.length) m≤1000000:=by
 induction us with
 | nil=>intro m h;exact h
 | cons u r ih=>
  intro m hm
  rw [List.foldl_cons]
  exact ih (fun x hx=>h x (List.mem_cons_of_mem _ hx)) (by have:=h u (List.mem_cons_self ..);omega)
theorem c247 (o:Orth)(s:Tx)(hs:s.length≤1000000)(hu:∀ u∈o.units,u.graph.length≤1000000):Fp Tryz.prog 247 [.g (A0h o),dS s] (.t [ints (natI (O4 o.units s).1),dI (O4 o.units s).2]):=by
 have hmost:=C9x hu (m:=0) oEw
 have hmu:A8z o.units=o.units.foldl (fun m u=>max m u.graph.length) 0:=rfl
 refine fXw Tryz.func247 Tryz.ntmps247 fun c hM=>?_
 (repeat' (first|refine D8g ?_|refine Wz ?_|refine Wb fun hb=>?_))
 refine X_lp (ι:=Nat) 134086976 [] (fun i=>[(6,.d (dI ((o.units.take i).foldl (fun m u=>max m u.graph.length) 0:Nat))),(17,.d (dI i))]) (fun _=>[]) (fun i=>i≤o.units.length) (fun i=>o.units.length-i) (0) ?_ ?_
 ·exact zLw
 rintro i hi
 by_cases hlt:i<o.units.length
 ·obtain⟨u,hx⟩:=gex hlt
  have hfold:=J0 (f:=fun(m:Nat) (u:Unt)=>max m u.graph.length) (b:=0) hx
  obtain⟨m,hm⟩:∃ m,(o.units.take i).foldl (fun m u=>max m u.graph.length) 0=m:=⟨_,rfl⟩
  rw [hm] at hfold ⊢
  (repeat' (first|(refine W4 ?_;first|refine G_x (A7 fun _=>zMx Z Z Z) Z Z ?_)|refine iDw (gm hx) ?_|refine Wz ?_|apply Wd <;>intro hh))
  all_goals (try exact oMw)
  exact A0 (i+1) oEw oEw (hf:=A6 (congrArg (fun z:Int=>some (Lf.d (dI z))) (by rw [hfold];omega)) (A6 Z (B8 _)))
 have hz:i=o.units.length:=oEw
 subst hz
 rw [List.take_length,← hmu]
 rw [← hmu] at hmost
 obtain⟨M,hM'⟩:∃ M,A8z o.units=M:=⟨_,rfl⟩
 rw [hM'] at hmost ⊢
 (repeat' (first|refine D8h ?_|refine Wz ?_|apply Wd <;>intro hh))
 all_goals (try exact oMw)
 refine D0 9 9 3 1 Z Z ?_
 refine X_lp (ι:=Nat × Nat × List Nat) 73786976294704004608 [9] (fun s=>[(9,.o 9 s.2.1),(10,.d (dI s.1))]) (fun s=>[(9,.ls 3 1 s.2.1 ((natI s.2.2).map iC))]) (fun q=>q.1≤s.length∧q.2.2.length≤q.1∧(q.2.2++(O4 o.units (s.drop q.1)).1,q.1+(O4 o.units (s.drop q.1)).2)=O4 o.units s) (fun q=>s.length-q.1) ((0,0,[])) ?_ ?_
 ·exact⟨zLw,Nat.le_refl _,by simp⟩
 rintro⟨a,v,out⟩ ⟨ha,hol,hq⟩
 dsimp only at ha hol hq ⊢
 by_cases hlt:a<s.length
 rotate_left
 ·have hz:a=s.length:=oEw
  subst hz
  have hnil:O4 o.units []=([],0):=rfl
  rw [List.drop_length,hnil,List.append_nil] at hq
  rw [← hq]
  (repeat' (first|refine B4b ?_|refine Wz ?_|apply Wd <;>intro hh))
  all_goals (try exact oMw)
  refine B9 4 Z Z (by simp [natI];omega) ?_
  skip
  exact rXw hM
 have hno:(natI out).length=out.length:=by simp [natI]
 obtain⟨rest,hrest⟩:∃ rest,s.drop a=rest:=⟨_,rfl⟩
 have hrl:rest.length=s.length-a:=by rw [← hrest,List.length_drop]
 have hne:rest≠[]:=fun e=>by rw [e] at hrl;simp at hrl;omega
 rw [hrest,B6w o.units hne,hM'] at hq
 obtain⟨N,hN⟩:∃ N,min M rest.length=N:=⟨_,rfl⟩
 rw [hN] at hq
 (repeat' (first|(refine W4 ?_;first|refine G_x (A7 fun _=>zMn Z Z Z) Z Z ?_)|refine Wz ?_|apply Wd <;>intro hh))
 all_goals (try exact oMw)
 rw [show min (M:Int) ((s.length:Int)-(a:Int))=(N:Int) by omega]
 refine X_lp (ι:=Nat) 73786976157399268864 [9] (fun n=>[(11,.d (dI n)),(9,.o 9 v),(10,.d (dI a))]) (fun _=>[(9,.ls 3 1 v ((natI out).map iC))]) (fun n=>n≤N∧nxtU o.units rest N=nxtU o.units rest n) (fun n=>n) (N) ?_ ?_
 ·exact⟨Nat.le_refl _,rfl⟩
 rintro n ⟨hn,hnx⟩
 cases n with
 | zero=>
  rw [hnx,nxtU] at hq
  dsimp only at hq
  rw [List.append_nil,Nat.add_zero] at hq
  rw [← hq]
  (repeat' (first|refine B4b ?_|refine Wz ?_|refine Wb fun hb=>?_|apply Wd <;>intro hh))
  all_goals (try exact oMw)
  refine B9 4 Z Z (by simp [natI];omega) ?_
  skip
  exact rXw hM
 | succ m=>
  rw [nxtU] at hnx
  obtain⟨t,ht⟩:∃ t,rest.take (m+1)=t:=⟨_,rfl⟩
  rw [ht] at hnx
  have hsl:(s.take (a+(m+1))).drop a=t:=by rw [List.drop_take,hrest,← ht];congr 1;omega
  (repeat' (first|refine Wz ?_|refine Wb fun hb=>?_|apply Wd <;>intro hh))
  all_goals (try exact oMw)
  refine X_lp (ι:=Nat) 73786958702652175872 [9] (fun i=>[(44,.d (dI i)),(9,.o 9 v),(10,.d (dI a))]) (fun _=>[(9,.ls 3 1 v ((natI out).map iC))]) (fun i=>i≤o.units.length∧uIx o.units t=ixF (fun u:Unt=>decide (u.graph=t)) (o.units.drop i) i) (fun i=>o.units.length-i) (0) ?_ ?_
  ·exact⟨zLw,rfl⟩
  rintro i ⟨hi2,hix⟩
  by_cases hlt2:i<o.units.length
  rotate_left
  ·rw [List.drop_eq_nil_of_le oEw,ixF] at hix
   rw [hix,if_neg oEw] at hnx
   (repeat' (first|refine Wz ?_|apply Wd <;>intro hh))
   all_goals (try exact oMw)
   exact A0 m ⟨oEw,hnx⟩ oEw (hf:=A6 (congrArg (fun z:Int=>some (Lf.d (dI z))) oEw) (A6 Z (A6 Z (B8 _))))
  obtain⟨u,hx⟩:=gex hlt2
  rw [drp hx,ixF] at hix
  by_cases hg:u.graph=t
  ·rw [if_pos (decide_eq_true hg)] at hix
   rw [hix,if_pos oEw,Int.toNat_natCast] at hnx
   rw [hnx] at hq
   dsimp only at hq
   have hdr:rest.drop (m+1)=s.drop (a+(m+1)):=by rw [← hrest,List.drop_drop]
   rw [hdr] at hq
   (repeat' (first|refine G_x (A2 (m:=i) Z Z Z Z (gm hx)) Z Z ?_|refine G_x (A7 fun _=>N8 (a:=a) (b:=a+(m+1)) Z Z Z Z Z oEw oEw oEw) Z Z ?_|refine Wz ?_|apply Wd <;>intro hh))
   all_goals (try exact oMw)
   all_goals (first|exact absurd (hg.trans hsl.symm) (by assumption)|exact A0 (a+(m+1),v+1,out++[i]) ⟨oDw,by simp;omega,by dsimp only;rw [← hq];simp;omega⟩ (oDw) (hh:=A1 (by simp only [natI,List.map_append];rfl) (A4 _)))
  ·rw [if_neg (by simpa using hg)] at hix
   (repeat' (first|refine G_x (A2 (m:=i) Z Z Z Z (gm hx)) Z Z ?_|refine G_x (A7 fun _=>N8 (a:=a) (b:=a+(m+1)) Z Z Z Z Z oEw oEw oEw) Z Z ?_|refine Wz ?_|apply Wd <;>intro hh))
   all_goals (try exact oMw)
   all_goals (first|exact absurd (by rw [← hsl];assumption) hg|exact A0 (i+1) ⟨oEw,hix⟩ oEw)
abbrev segD (segs:List Phn):Dt:=.s 2 (segs.map phC)
abbrev clsD (l:List Cls):Dt:=.s 2 (l.map clsC)
theorem c195 (segs:List Phn)(s:Int):Fp Tryz.prog 195 [.g [segD segs],dI s] (dB (K0 segs.length s)):=by
 unfold K0
 refine fXw Tryz.func195 Tryz.ntmps195 fun c hM=>?_
 (repeat' (first|refine Wz ?_|refine Wb fun hb=>?_|apply Wd <;>intro hh))
 all_goals (try exact oMw)
 all_goals (refine rEw hM ?_;(first|(simp [one1, *,dB,dI,dS,List.anyB,List.allB];done)|(simp_all [one1,dB,dI,dS,List.anyB,List.allB];done)|(simp_all [one1,dB,dI,dS,List.anyB,List.allB];omega)))
theorem G3b:TwoInts Tryz.prog 190 3:=⟨by kernel_rfl,by kernel_rfl,by kernel_rfl,by kernel_rfl,Tryz.underlying3⟩
theorem c404 (segs:List Phn)(s:Int)(c:Cls)(hsl:segs.length≤1000):Fp Tryz.prog 404 [.g [segD segs],dI s,.g (clsC c)] (dB (inB segs s c)):=by
 unfold inB
 have c1:=c195 segs s
 cases hb:K0 segs.length s with
 | false=>
  rw [hb] at c1
  refine fXw Tryz.func404 Tryz.ntmps404 fun c hM=>?_
  (repeat' (first|refine cDw C4q c1 ?_|refine Wz ?_|fail))
  all_goals (try exact oMw)
  exact rXw hM
 | true=>
  rw [hb] at c1
  have hs:1≤s∧s≤(segs.length:Int):=by simpa [K0] using hb
  obtain⟨j,hj⟩:∃ j:Nat,s-1=(j:Int):=⟨(s-1).toNat,oEw⟩
  obtain⟨p,hp⟩:=gex (l:=segs) (i:=j) oEw
  have hf:D1r segs s=p.feat:=by unfold D1r;rw [hj,Int.toNat_natCast,hp];rfl
  rw [hf]
  obtain⟨z,hz⟩:∃ z,decide (c.value=C5h p.feat c.mask)=z:=⟨_,rfl⟩
  have hz2:(decide (c.mask=c.mask)&&decide (c.value=C5h p.feat c.mask))=z:=by rw [hz];simp
  rw [hz]
  refine fXw Tryz.func404 Tryz.ntmps404 fun c hM=>?_
  (repeat' (first|refine G_x (A3 Z Z Z C4q (c1)) Z Z ?_|refine G_x (A2 (m:=j) Z Z Z oEw (gm hp)) Z Z ?_|refine G_x (A7 fun _=>D5q Z Z Z) Z Z ?_|refine G_x (Z7 G3b Z Z Z hz2) Z Z ?_|refine Wz ?_|fail))
  all_goals (try exact oMw)
  exact rXw hM
theorem c403 (segs:List Phn)(l:List Cls)(k:Nat)(s:Int)(c:Cls)(hk:l[k]?=some c)(hsl:segs.length≤1000):Fp Tryz.prog 403 [.g [segD segs,clsD l],dI k,dI s] (dB (inB segs s c)):=by
 have c1:=c404 segs s c hsl
 refine fXw Tryz.func403 Tryz.ntmps403 fun c hM=>?_
 (repeat' (first|refine iDw (gm hk) ?_|refine cDw G6t c1 ?_|refine Wz ?_|fail))
 all_goals (try exact oMw)
 exact rXw hM
theorem C6v (segs:List Phn)(l:List Cls):A0j segs l []=true:=by cases l <;> rfl
theorem c402 (segs:List Phn)(l:List Cls)(w:List Int)(hl:w.length≤l.length)(hsl:segs.length≤1000):Fp Tryz.prog 402 [.v (.func (.func 403) #[] #[]),.g [segD segs,clsD l],ints w] (dB (A0j segs l w)):=by
 refine fXw Tryz.func402 Tryz.ntmps402 fun c hM=>?_
 (repeat' (first|refine Wz ?_|refine Wb fun hb=>?_))
 refine X_lp (ι:=Nat) 8387008 [] (fun i=>[(11,.d (dI i))]) (fun _=>[]) (fun i=>i≤w.length∧A0j segs l w=A0j segs (l.drop i) (w.drop i)) (fun i=>w.length-i) (0) ?_ ?_
 ·exact⟨zLw,rfl⟩
 rintro i ⟨hi,hq⟩
 by_cases hlt:i<w.length
 ·obtain⟨x,hx⟩:=gex hlt
  obtain⟨cl,hcl⟩:=gex (l:=l) (i:=i) oEw
  rw [drp hx,drp hcl,A0j] at hq
  have c1:=c403 segs l i x cl hcl hsl
  cases hb:inB segs x cl with
  | true=>
   rw [hb] at c1
   rw [hb,Bool.true_and] at hq
   (repeat' (first|refine iDw (gm hx) ?_|refine G_x (Q4 Z Z Z Z D9w (c1)) Z Z ?_|refine Wz ?_|apply Wd <;>intro hh))
   all_goals (try exact oMw)
   exact A0 (i+1) ⟨oEw,hq⟩ oEw
  | false=>
   rw [hb] at c1
   rw [hb,Bool.false_and] at hq
   rw [hq]
   (repeat' (first|refine iDw (gm hx) ?_|refine G_x (Q4 Z Z Z Z D9w (c1)) Z Z ?_|refine Wz ?_|apply Wd <;>intro hh))
   all_goals (try exact oMw)
   exact rXw hM
 ·rw [hq,List.drop_eq_nil_of_le (show w.length≤i by omega),C6v]
  (repeat' (first|refine Wz ?_|apply Wd <;>intro hh))
  all_goals (try exact oMw)
  exact rXw hM
structure RewS (r:Rew):Prop where
 til:r.til.length=r.frm.length
 left:r.left.length≤1000
 right:r.right.length≤1000
theorem C8m (segs:List Phn)(r:Rew)(w:List Int)(i:Nat)(x:Int):B1n segs r w i x=
  if hasI r.frm x=false∨((i:Int)-r.left.length<0∨((w.length:Int)<(i:Int)+1+r.right.length∨(r.beg=true∧(0:Int)<(i:Int)-r.left.length∨(r.fin=true∧(i:Int)+1+r.right.length<w.length)))) then false else
   (A0j segs r.left ((w.take i).drop (i-r.left.length))&&A0j segs r.right ((w.take (i+1+r.right.length)).drop (i+1))):=by
 unfold B1n
 split
 ·rename_i h
  rcases h with h|h|h|h|h
  ·rw [h];rfl
  ·rw [decide_eq_false (show ¬ r.left.length≤i by omega)];simp
  ·rw [decide_eq_false (show ¬ i+1+r.right.length≤w.length by omega)];simp
  ·rw [h.1,decide_eq_true (show r.left.length<i by omega)];simp
  ·rw [h.1,decide_eq_true (show i+1+r.right.length<w.length by omega)];simp
 ·rename_i h
  simp only [not_or] at h
  obtain⟨h1,h2,h3,h4,h5⟩:=h
  have h1:hasI r.frm x=true:=by simpa using h1
  have e1:(w.drop (i-r.left.length)).take r.left.length=(w.take i).drop (i-r.left.length):=by
   rw [List.drop_take];congr 1;omega
  have e2:(w.drop (i+1)).take r.right.length=(w.take (i+1+r.right.length)).drop (i+1):=by
   rw [List.drop_take];congr 1;omega
  have h4':(r.beg&&decide (r.left.length<i))=false:=by
   cases hb:r.beg with
   | false=>rfl
   | true=>rw [Bool.true_and];exact decide_eq_false fun hlt=>h4 ⟨hb,oEw⟩
  have h5':(r.fin&&decide (i+1+r.right.length<w.length))=false:=by
   cases hb:r.fin with
   | false=>rfl
   | true=>rw [Bool.true_and];exact decide_eq_false fun hlt=>h5 ⟨hb,oEw⟩
  rw [e1,e2,h1,h4',h5',decide_eq_true (show r.left.length≤i by omega),decide_eq_true (show i+1+r.right.length≤w.length by omega)]
  simp
theorem c400 (segs:List Phn)(r:Rew)(w:List Int)(i:Nat)(x:Int)(hx:w[i]?=some x)(hw:w.length≤1000000)(hll:r.left.length≤1000)(hrl:r.right.length≤1000)(hsl:segs.length≤1000):Fp Tryz.prog 400 [.g [segD segs],.g (rewC r),ints w,dI i] (dB (B1n segs r w i x)):=by
 have hlt:=(List.getElem?_eq_some_iff.1 hx).1
 rw [C8m]
 have ch:=c190 r.frm x
 obtain⟨b,hb⟩:∃ b,hasI r.frm x=b:=⟨_,rfl⟩
 obtain⟨bg,hbg⟩:∃ b,r.beg=b:=⟨_,rfl⟩
 obtain⟨fi,hfi⟩:∃ b,r.fin=b:=⟨_,rfl⟩
 have hrC:rewC r=[ints r.frm,ints r.til,clsD r.left,clsD r.right,dB bg,dB fi]:=by rw [← hbg,← hfi];rfl
 rw [hb] at ch
 rw [hb,hbg,hfi,hrC]
 clear hrC
 refine fXw Tryz.func400 Tryz.ntmps400 fun c hM=>?_
 (repeat' ((fail_if_success (refine H7 (x:=(Code.region 2 _ _)) ?_));first|refine Wz ?_|fail))
 refine X_jb 288230376147517440 [] 57 (b=false∨((i:Int)-r.left.length<0∨((w.length:Int)<(i:Int)+1+r.right.length∨(bg=true∧(0:Int)<(i:Int)-r.left.length∨(fi=true∧(i:Int)+1+r.right.length<w.length))))) ?_ ?_
 ·(repeat' (first|refine iDw (gm hx) ?_|refine cDw A9r ch ?_|refine Wz ?_|apply Wd <;>intro hh|(refine Wg (fun hg=>?_) (fun hg=>?_) <;>(first|subst hg|(simp at hg;subst hg)))))
  all_goals (try exact oMw)
  all_goals refine B0l _ ?_ (hf:=rfl) (hF:=by(repeat (refine H5 Z ?_));first|exact H4 _|exact O7) (hH:=by(repeat (first|refine G8 Z ?_|refine G7 Z ?_));first|exact G6 _|exact O6)
  all_goals (first|(simp [*];done)|(simp_all;done)|(simp_all;omega)|(constructor <;> intros <;> simp_all <;> omega))
 intro b hb
 cases b
 rotate_left
 ·rw [if_pos (hb.1 rfl)]
  (repeat' (first|refine Wz ?_|fail))
  all_goals exact rXw hM
 rw [if_neg (fun h=>Bool.noConfusion (hb.2 h))]
 have hN:¬ (b=false∨((i:Int)-r.left.length<0∨((w.length:Int)<(i:Int)+1+r.right.length∨(bg=true∧(0:Int)<(i:Int)-r.left.length∨(fi=true∧(i:Int)+1+r.right.length<w.length))))):=fun h=>Bool.noConfusion (hb.2 h)
 clear hb
 simp only [not_or] at hN
 obtain⟨_,n2,n3,_,_⟩:=hN
 have h2:r.left.length≤i:=oEw
 have h3:i+1+r.right.length≤w.length:=oEw
 clear n2 n3
 obtain⟨A,hA⟩:∃ A,(w.take i).drop (i-r.left.length)=A:=⟨_,rfl⟩
 obtain⟨B,hB⟩:∃ B,(w.take (i+1+r.right.length)).drop (i+1)=B:=⟨_,rfl⟩
 have hAl:A.length≤r.left.length:=by rw [← hA,List.length_drop,List.length_take];omega
 have hBl:B.length≤r.right.length:=by rw [← hB,List.length_drop,List.length_take];omega
 have eA:((w.map iC).take i).drop (i-r.left.length)=A.map iC:=by rw [← hA,List.map_drop,List.map_take]
 have eB:((w.map iC).take (i+1+r.right.length)).drop (i+1)=B.map iC:=by rw [← hB,List.map_drop,List.map_take]
 have cA:=c402 segs r.left A hAl hsl
 have cB:=c402 segs r.right B hBl hsl
 rw [hA,hB]
 obtain⟨fA,hfA⟩:∃ q,A0j segs r.left A=q:=⟨_,rfl⟩
 obtain⟨fB,hfB⟩:∃ q,A0j segs r.right B=q:=⟨_,rfl⟩
 rw [hfA] at cA ⊢
 rw [hfB] at cB ⊢
 cases fA
 all_goals (
  (repeat' (first|refine G_x (A4b (a:=i-r.left.length) (b:=i) Z Z Z Z oEw oEw oEw (by rw [List.length_map];omega)) Z Z ?_|refine G_x (A4b (a:=i+1) (b:=i+1+r.right.length) Z Z Z Z oEw oEw oEw (by rw [List.length_map];omega)) Z Z ?_|refine G_x (A3 Z Z Z D9x cA (.t1 (.eq rfl) (.t1 (.eq rfl) (.t1 (.eq (congrArg (Dt.s 1) eA)) .t0)))) Z Z ?_|refine G_x (A3 Z Z Z D9x cB (.t1 (.eq rfl) (.t1 (.eq rfl) (.t1 (.eq (congrArg (Dt.s 1) eB)) .t0)))) Z Z ?_|refine Wz ?_|fail))
  all_goals (try exact oMw)
  all_goals exact rXw hM)
theorem A1h (segs : List Phn)(r : Rew)(w : List Int) : ∀ (q : List Int) (i : Nat), (S6 segs r w i q).length ≤ q.length
 | [],_=>Nat.le_refl _
 | x :: q, i => by
  have h1:=A1h segs r w q (i+1)
  have h2:(oneP segs r w i x).length≤1:=by
   unfold oneP
   split
   ·split
    ·exact zLw
    ·exact Nat.le_refl _
   ·exact Nat.le_refl _
  rw [S6,List.length_append,List.length_cons];omega
theorem c397 (segs:List Phn)(r:Rew)(w:List Int)(hw:w.length≤1000000)(hr:RewS r)(hsl:segs.length≤1000):Fp Tryz.prog 397 [.g [segD segs],.g (rewC r),ints w] (ints (A5t segs w r)):=by
 have e:A5t segs w r=S6 segs r w 0 w:=rfl
 have htl:=A1h segs r w w 0
 rw [e]
 refine fXw Tryz.func397 Tryz.ntmps397 fun c hM=>?_
 (repeat' (first|refine Wz ?_|refine Wb fun hb=>?_))
 refine D0 7 7 3 1 Z Z ?_
 refine X_lp (ι:=Nat × Nat × List Int) 137438950272 [7] (fun s=>[(7,.o 7 s.2.1),(12,.d (dI s.1))]) (fun s=>[(7,.ls 3 1 s.2.1 (s.2.2.map iC))]) (fun s=>s.1≤w.length∧s.2.2.length≤s.1∧s.2.2++S6 segs r w s.1 (w.drop s.1)=S6 segs r w 0 w) (fun s=>w.length-s.1) ((0,0,[])) ?_ ?_
 ·exact⟨zLw,Nat.le_refl _,rfl⟩
 rintro⟨i,v,out⟩ ⟨hi,hol,hout⟩
 dsimp only at hi hol hout ⊢
 by_cases hlt:i<w.length
 rotate_left
 ·rw [List.drop_eq_nil_of_le (show w.length≤i by omega),S6,List.append_nil] at hout
  (repeat' (first|refine Wz ?_|apply Wd <;>intro hh))
  all_goals (try exact oMw)
  refine B9 6 Z Z lOw ?_
  refine rEw hM ?_
  rw [hout];rfl
 obtain⟨x,hx⟩:=gex hlt
 rw [drp hx,S6,oneP,← List.append_assoc] at hout
 have cs:=c400 segs r w i x hx hw hr.left hr.right hsl
 cases hb:B1n segs r w i x with
 | false=>
  rw [hb] at cs
  rw [hb,if_neg (by simp)] at hout
  (repeat' (first|refine iDw (gm hx) ?_|refine cDw D1z cs ?_|refine Wz ?_|apply Wd <;>intro hh))
  all_goals (try exact oMw)
  exact A0 (i+1,v+1,out++[x]) ⟨oDw,by simp;omega,hout⟩ (oDw) (hh:=A1 (by rw [List.map_append];rfl) (A4 _))
 | true=>
  rw [hb] at cs
  rw [hb,if_pos rfl] at hout
  have hhas:hasI r.frm x=true:=by
   unfold B1n at hb
   rw [Bool.and_eq_true] at hb;exact hb.1
  have c13:Fp Tryz.prog 130 [ints r.frm,dI x] (dI (ixF (fun y=>decide (x=y)) r.frm 0)):=c130 r.frm x
  rcases Q5 (fun y=>decide (x=y)) r.frm 0 with⟨h1,h2⟩|⟨k,y,h1,h2,h3⟩
  ·exfalso
   rw [List.find?_eq_none] at h2
   unfold hasI at hhas
   rw [List.any_eq_true] at hhas
   obtain⟨y,hy,he⟩:=hhas
   exact h2 y hy he
  rw [Nat.zero_add] at h1
  have h1:ixF (fun y=>decide (x=y)) r.frm 0=(k:Int):=h1
  have hkl:=(List.getElem?_eq_some_iff.1 h2).1
  obtain⟨z,hz⟩:=gex (l:=r.til) (i:=k) (by rw [hr.til];omega)
  have hnew:newP r x=z:=by unfold newP;rw [h1,Int.toNat_natCast,List.getD_eq_getElem?_getD,hz];rfl
  rw [hnew] at hout
  rw [h1] at c13
  by_cases hz0:z=0
  ·rw [if_pos hz0,List.append_nil] at hout
   (repeat' (first|refine iDw (gm hx) ?_|refine iDw (gm hz) ?_|refine cDw D1z cs ?_|refine cDw C4x c13 ?_|refine Wz ?_|apply Wd <;>intro hh))
   all_goals (try exact oMw)
   exact A0 (i+1,v,out) ⟨oDw,oDw,hout⟩ (oDw)
  ·rw [if_neg hz0] at hout
   (repeat' (first|refine iDw (gm hx) ?_|refine iDw (gm hz) ?_|refine cDw D1z cs ?_|refine cDw C4x c13 ?_|refine Wz ?_|apply Wd <;>intro hh))
   all_goals (try exact oMw)
   exact A0 (i+1,v+1,out++[z]) ⟨oDw,by simp;omega,hout⟩ (oDw) (hh:=A1 (by rw [List.map_append];rfl) (A4 _))
theorem c399 (l:List Sns)(hl:l.length≤1000):Fp Tryz.prog 399 [.s 2 (l.map snC)] (.s 2 (l.map snC)):=by
 refine fXw Tryz.func399 Tryz.ntmps399 fun c hM=>?_
 (repeat' (first|(refine D4o Z Z Z Z Z (fun b hb=>?_);cases b)|refine G_nd Z Z (L1 _ Z Z Z Z Z) Z ?_|refine Wz ?_|fail))
 ·refine B9 2 Z Z lOw ?_
  exact rXw hM
 ·have h0:l=[]:=by
   cases l with
   | nil=>rfl
   | cons x r=>exact absurd (hb (by simp)) (by simp)
  subst h0
  exact rXw hM
theorem c393 (segs:List Phn)(rules:List Rew)(w:List Int)(hw:w.length≤1000000)(hr:∀ r∈rules,RewS r)(hsl:segs.length≤1000):Fp Tryz.prog 393 [.g [segD segs],.s 6 (rules.map rewC),ints w] (ints (B8m segs rules w)):=by
 unfold B8m
 refine fXw Tryz.func393 Tryz.ntmps393 fun c hM=>?_
 (repeat' (first|refine Wz ?_|refine Wb fun hb=>?_))
 refine X_lp (ι:=Nat × List Int) 1046788 [] (fun s=>[(2,.d (ints s.2)),(11,.d (dI s.1))]) (fun _=>[]) (fun s=>s.1≤rules.length∧s.2.length≤w.length∧(rules.drop s.1).foldl (A5t segs) s.2=rules.foldl (A5t segs) w) (fun s=>rules.length-s.1) ((0,w)) ?_ ?_
 ·exact⟨zLw,Nat.le_refl _,rfl⟩
 rintro⟨i,u⟩ ⟨hi,hu,hq⟩
 dsimp only at hi hu hq ⊢
 by_cases hlt:i<rules.length
 ·obtain⟨r,hx⟩:=gex hlt
  rw [drp hx,List.foldl_cons] at hq
  have c1:=c397 segs r u oEw (hr r (List.mem_of_getElem? hx)) hsl
  have hl:=A1h segs r u u 0
  (repeat' (first|refine iDw (gm hx) ?_|refine cDw G6x c1 ?_|refine Wz ?_|apply Wd <;>intro hh))
  all_goals (try exact oMw)
  exact A0 (i+1,A5t segs u r) ⟨oDw,Nat.le_trans hl hu,hq⟩ (oDw)
 ·rw [List.drop_eq_nil_of_le oEw,List.foldl_nil] at hq
  (repeat' (first|refine Wz ?_|apply Wd <;>intro hh))
  all_goals (try exact oMw)
  refine rEw hM ?_
  rw [hq];rfl
theorem c394 (a b:List Int):Fp Tryz.prog 394 [ints a,ints b] (dB (decide (a=b))):=by
 by_cases hl:a.length=b.length
 rotate_left
 ·rw [decide_eq_false (fun e=>hl (by rw [e]))]
  refine fXw Tryz.func394 Tryz.ntmps394 fun c hM=>?_
  (repeat' (first|refine Wz ?_|refine Wb fun hb=>?_|apply Wd <;>intro hh))
  all_goals (try exact oMw)
  exact rXw hM
 refine fXw Tryz.func394 Tryz.ntmps394 fun c hM=>?_
 (repeat' (first|refine Wz ?_|refine Wb fun hb=>?_|apply Wd <;>intro hh))
 all_goals (try exact oMw)
 refine X_lp (ι:=Nat) 67100720 [] (fun i=>[(13,.d (dI i))]) (fun _=>[]) (fun i=>i≤a.length∧a.take i=b.take i) (fun i=>a.length-i) (0) ?_ ?_
 ·exact⟨zLw,rfl⟩
 rintro i ⟨hi,hq⟩
 by_cases hlt:i<a.length
 ·obtain⟨x,hx⟩:=gex hlt
  obtain⟨y,hy⟩:=gex (l:=b) (i:=i) oEw
  by_cases hxy:x=y
  ·subst hxy
   (repeat' (first|refine iDw (gm hx) ?_|refine iDw (gm hy) ?_|refine Wz ?_|apply Wd <;>intro hh))
   all_goals (try exact oMw)
   all_goals (first|exact absurd rfl (by assumption)|exact A0 (i+1) ⟨oEw,by rw [List.take_add_one,List.take_add_one,hx,hy,hq]⟩ oEw)
  ·have hne:a≠b:=fun e=>by subst e;rw [hx] at hy;exact hxy (Option.some.inj hy)
   rw [decide_eq_false hne]
   (repeat' (first|refine iDw (gm hx) ?_|refine iDw (gm hy) ?_|refine Wz ?_|apply Wd <;>intro hh))
   all_goals (try exact oMw)
   all_goals (first|exact absurd (by assumption) hxy|exact rXw hM)
 ·have he:a=b:=by rw [List.take_of_length_le oEw,List.take_of_length_le oEw] at hq;exact hq
  rw [decide_eq_true he]
  (repeat' (first|refine Wz ?_|apply Wd <;>intro hh))
  all_goals (try exact oMw)
  exact rXw hM
theorem q35S {p:Prop}(h:p:=by first|(simp [one1, *,dB,dI,dS,List.anyB,List.allB];done)|(simp_all [one1,dB,dI,dS,List.anyB,List.allB];done)|(simp_all [one1,dB,dI,dS,List.anyB,List.allB];omega)):p:=h
theorem c388 (l:List Int)(a:Int):Fp Tryz.prog 388 [ints l,dI a] ((fun _ q=>dB (q.anyB fun x=>decide (x=a))) 0 l):=by
 refine fXw Tryz.func388 Tryz.ntmps388 fun c hM=>?_
 (repeat' (first|refine Wz ?_|refine Wb fun hb=>?_))
 refine X_lp (ι:=Nat) 130640 [] (fun i=>[(9,.d (dI i))]) (fun _=>[]) (fun i=>i≤l.length∧(fun _ q=>dB (q.anyB fun x=>decide (x=a))) 0 l=(fun _ q=>dB (q.anyB fun x=>decide (x=a))) i (l.drop i)) (fun i=>l.length-i) (0) ?_ ?_
 ·exact⟨zLw,rfl⟩
 rintro i ⟨hi,hq⟩
 by_cases hlt:i<l.length
 ·obtain⟨n,hn⟩:=gex hlt
  (repeat' (first|refine iDw (gm hn) ?_|refine Wz ?_|apply Wd <;>intro hh))
  all_goals (try exact oMw)
  all_goals first
   | (rw [hq,drp hn];refine rEw hM ?_;exact q35S)
   | exact A0 (i+1) ⟨oEw,by rw [hq,drp hn];exact q35S⟩ oEw
 ·(repeat' (first|refine Wz ?_|apply Wd <;>intro hh))
  all_goals (try exact oMw)
  all_goals rw [hq,List.drop_eq_nil_of_le oEw]
  all_goals (refine rEw hM ?_;exact q35S)
theorem n388 (l:List Int)(a:Int):Fp Tryz.prog 388 [ints l,dI a] (dB (l.anyB fun x=>decide (x=a))):=c388 l a
theorem D6a (rules:List Rew):shrB rules=rules.anyB fun r=>r.til.anyB fun x=>decide (x=0):=by
 unfold shrB
 rw [R5]
 congr 1
 funext r
 rw [R5]
theorem c386 (rules:List Rew):Fp Tryz.prog 386 [.s 6 (rules.map rewC)] (dB (shrB rules)):=by
 rw [D6a]
 refine fXw Tryz.func386 Tryz.ntmps386 fun c hM=>?_
 (repeat' (first|refine Wz ?_|refine Wb fun hb=>?_))
 refine X_lp (ι:=Nat) 32660 [] (fun i=>[(7,.d (dI i))]) (fun _=>[]) (fun i=>i≤(rules).length∧(fun _ q=>dB (q.anyB fun r=>r.til.anyB fun x=>decide (x=0))) 0 (rules)=(fun _ q=>dB (q.anyB fun r=>r.til.anyB fun x=>decide (x=0))) i ((rules).drop i)) (fun i=>(rules).length-i) (0) ?_ ?_
 ·exact⟨zLw,rfl⟩
 rintro i ⟨hi,hq⟩
 by_cases hlt:i<(rules).length
 rotate_left
 ·have hz:i=(rules).length:=oEw
  subst hz
  rw [List.drop_eq_nil_of_le (Nat.le_refl _)] at hq
  try dsimp only at hq
  ((repeat' (first|refine Wz ?_|apply Wd <;>intro hh));all_goals (first|(exfalso;omega)|(refine rEw hM ?_;rw [hq];rfl)))
 obtain⟨n,hn⟩:=gex hlt
 obtain⟨pv,hp⟩:=gex (l:=rules) (i:=i-1) oEw
 have hpr:=B6 hp
 have hmem:=List.mem_of_getElem? hn
 rw [drp hn] at hq
 try dsimp only at hq
 obtain⟨b,hb⟩:∃ b,n.til.anyB (fun x=>decide (x=0))=b:=⟨_,rfl⟩;have cb:=n388 n.til 0;rw [hb] at cb;rw [List.anyB,hb] at hq;cases b
 all_goals (repeat' (first|refine iDw (gm hn) ?_|refine cDw G6z cb ?_|refine Wz ?_|apply Wd <;>intro hh))
 all_goals (try exact oMw)
 all_goals first
  | exact A0 (i+1) ⟨oEw,by(try dsimp only);rw [hq];exact q35S⟩ oEw
  | (refine rEw hM ?_;(try rw [hq]);exact q35S)
theorem c392 (w:List Int)(hw:∀ x∈w,0≤x∧x≤255)(hl:w.length≤1000):Fp Tryz.prog 392 [ints w] (dS (keyT w)):=by
 have hrows:∀ l:List Int,(∀ x∈l,0≤x∧x≤255)→(l.map fun x=>[Dt.v (.int .u8 x)])=(keyT l).map fun b=>[Dt.v (.int .u8 b.toNat)]:=fun l h=>by
  unfold keyT
  rw [List.map_map]
  refine List.map_congr_left fun x hx=>?_
  have:=h x hx
  show [Dt.v (Value.int .u8 x)]=[Dt.v (Value.int .u8 ((UInt8.ofNat x.toNat).toNat:Int))]
  rw [UInt8.toNat_ofNat',Nat.mod_eq_of_lt oEw,Int.toNat_of_nonneg this.1]
 refine fXw Tryz.func392 Tryz.ntmps392 fun c hM=>?_
 (repeat' (first|refine G_nd Z Z (D0d _ w.length Z Z Z Z oEw oEw) Z ?_|refine Wz ?_|refine Wb fun hb=>?_))
 refine X_lp (ι:=Nat) 2095144 [8] (fun i=>[(3,.o 8 i),(11,.d (dI i))]) (fun i=>[(8,.ls 5 1 i ((w.take i).map fun x=>[Dt.v (.int .u8 x)]))]) (fun i=>i≤w.length) (fun i=>w.length-i) (0) ?_ ?_
 ·exact zLw
 rintro i hi
 by_cases hlt:i<w.length
 ·obtain⟨x,hx⟩:=gex hlt
  have hxb:=hw x (List.mem_of_getElem? hx)
  have hrow:(w.take (i+1)).map (fun x=>[Dt.v (.int .u8 x)])=(w.take i).map (fun x=>[Dt.v (.int .u8 x)])++[[Dt.v (.int .u8 x)]]:=by rw [List.take_add_one,hx];simp
  (repeat' (first|refine iDw (gm hx) ?_|refine Wz ?_|apply Wd <;>intro hh))
  all_goals (try exact oMw)
  exact A0 (i+1) oEw oEw (hh:=A1 (by rw [hrow];rfl) (A4 _))
 ·have hz:i=w.length:=oEw
  subst hz
  rw [List.take_length]
  (repeat' (first|(refine K6 21 Z Z (by rw [List.length_map];omega) ?_)|refine G_x (A4f Z Z (l:=keyT w) (by exact hrows w hw)) Z Z ?_|refine Wz ?_|apply Wd <;>intro hh))
  all_goals (try exact oMw)
  exact rXw hM
theorem c396 (e:Entr)(ha:e.alts.length≤1000):Fp Tryz.prog 396 [.g (entC e)] (.s 1 ((A5n e).map fun a=>[ints a])):=by
 have hf:[[ints e.form]]++e.alts.map (fun a=>[ints a])=(A5n e).map fun a=>[ints a]:=rfl
 refine fXw Tryz.func396 Tryz.ntmps396 fun c hM=>?_
 (repeat' (first|refine G_nd Z Z (L1 _ Z Z Z Z Z) Z ?_|refine Wz ?_|fail))
 refine B9 2 Z Z lOw ?_
 exact rXw hM
end
end Go.Proofs.YtojadfppncgphaaGreatDoor