/- Own text. -/
import Derived.Test.YtojadfppncgphaaGreatDoorQYz
set_option linter.all false
set_option maxHeartbeats 16000000
set_option maxRecDepth 8000
namespace Go.Proofs.YtojadfppncgphaaGreatDoor
section
open Go.RowKit Go.En Go.Dl Go.Tp
abbrev bT (x:Int):Ky × Dt:=(.i x,dB true)
theorem A1w (a:Int)(l:List Int)(x:Int):hasI (a::l) x=(decide (x=a)||hasI l x):=by unfold hasI;rfl
theorem O5 (x:Int):∀ ms:List Int,(mget (ms.map bT) (.i x)).getD (.v (.bool false))=dB (hasI ms x)
 | []=>rfl
 | a::r=>by
  rw [List.map_cons,mget,A1w]
  by_cases h:a=x
  ·subst h;simp
  ·rw [if_neg (by simpa using h),O5 x r,decide_eq_false (fun e=>h e.symm),Bool.false_or]
theorem C1c (x:Int):∀ ms:List Int,hasI ms x=false→mset (ms.map bT) (.i x) (dB true)=(ms++[x]).map bT
 | [],_=>rfl
 | a::r,h=>by
  rw [A1w,Bool.or_eq_false_iff] at h
  rw [List.map_cons,mset,if_neg (by simpa using fun e=>(of_decide_eq_false h.1) e.symm),C1c x r h.2];rfl
def V0 (d:Doc)(ms:List Int):Nat:=(d.notes.filter fun n=>!hasI ms n.id).length
theorem D1m (d:Doc)(ms:List Int)(x:Int):V0 d (ms++[x])≤V0 d ms:=by
 unfold V0
 induction d.notes with
 | nil=>exact Nat.le_refl _
 | cons g r ih=>
  rw [List.filter_cons,List.filter_cons,A0y]
  cases hasI ms g.id <;> cases decide (g.id=x) <;> simp <;> omega
theorem D1l {d : Doc}{ms : List Int}{n : Note}(hn : n ∈ d.notes)(hm : hasI ms n.id = false) : V0 d (ms ++ [n.id]) < V0 d ms := by
 unfold V0
 have key:∀ l:List Note,n∈l→(l.filter fun m=>!hasI (ms++[n.id]) m.id).length<(l.filter fun m=>!hasI ms m.id).length:=by
  intro l
  induction l with
  | nil=>intro h;cases h
  | cons g r ih=>
   intro h
   have hle:(r.filter fun m=>!hasI (ms++[n.id]) m.id).length≤(r.filter fun m=>!hasI ms m.id).length:=by
    clear ih h
    induction r with
    | nil=>exact Nat.le_refl _
    | cons g r ih=>
     rw [List.filter_cons,List.filter_cons,A0y]
     cases hasI ms g.id <;> cases decide (g.id=n.id) <;> simp <;> omega
   rw [List.filter_cons,List.filter_cons,A0y]
   by_cases hg:g.id=n.id
   ·rw [hg,hm];simp;omega
   ·have hr:n∈r:=by
     rcases List.mem_cons.1 h with e|e
     ·exact absurd (by rw [e]) hg
     ·exact e
    have:=ih hr
    rw [decide_eq_false hg,Bool.or_false]
    cases hasI ms g.id <;> simp <;> omega
 exact key _ hn
theorem B3m {d:Doc}{f:List Int→Int→List Int}(h:∀ ms x,V0 d (f ms x)≤V0 d ms):∀(l:List Int) (ms:List Int),V0 d (l.foldl f ms)≤V0 d ms
 | [],_=>Nat.le_refl _
 | x::r,ms=>Nat.le_trans (B3m h r (f ms x)) (h ms x)
theorem A1s (d : Doc) : ∀ (k : Nat) (ms : List Int) (id : Int), V0 d (K3 d k ms id) ≤ V0 d ms
 | 0,ms,id=>Nat.le_refl _
 | k + 1, ms, id => by
  rw [K3]
  cases getN d.notes id with
  | none=>exact Nat.le_refl _
  | some n=>
   dsimp only
   split
   ·exact Nat.le_refl _
   ·have h1:=Nat.le_trans (A1s d k (ms++[id]) n.parent) (D1m d ms id)
    split
    ·exact Nat.le_trans (B3m (A1s d k) _ _) h1
    ·exact h1
attribute [local irreducible] X XL XW XG XK Val LS Fp Fo Calls bodyPost Code.wp
abbrev marH (d:Doc)(ms:List Int):Hp:=[(1000,.box 62 ((docC d).map .d)),(1001,.box 115 [.m 1003]),(1002,.box 294 [.f (.func 191) [.p 1000 0 0,.p 1001 0 0,.p 1002 0 0] ]),(1003,.mp 0 (ms.map bT))]
def D4g (d:Doc)(k:Nat):Prop:=∀(ms:List Int) (id:Int),V0 d ms≤k→Fo Tryz.prog 191 [.d (dI id),.p 1000 0 0,.p 1001 0 0,.p 1002 0 0] (marH d ms) (.t []) (marH d (K3 d k ms id))
theorem B2m (d : Doc)(hg : GD d)(k : Nat)(ih : ∀ k', k = k' + 1 → D4g d k') : D4g d k := by
 intro ms id hf
 have cg:=n119 d id
 have hml:=O5 id ms
 cases hn:getN d.notes id with
 | none=>
  have hr:K3 d k ms id=ms:=by
   cases k with
   | zero=>rfl
   | succ k=>rw [K3,hn]
  rw [hr]
  rw [hn] at cg
  refine fo_X (n:=51) Tryz.func191 rfl Tryz.ntmps191 rfl fun c hM=>?_
  (repeat' (first|refine cDw M7 cg ?_|refine Wz ?_|fail))
  all_goals (try exact oMw)
  (first|exact A9 hM Z Z Z tRw Z Z|exact C0 (A9 hM Z Z Z tRw Z Z))
 | some n=>
  have hmem:=H3 hn
  rw [hn] at cg
  cases hh0:hasI ms id with
  | true=>
   have hr:K3 d k ms id=ms:=by
    cases k with
    | zero=>rfl
    | succ k=>rw [K3,hn];simp [hh0]
   rw [hr]
   rw [hh0] at hml
   refine fo_X (n:=51) Tryz.func191 rfl Tryz.ntmps191 rfl fun c hM=>?_
   (repeat' (first|refine cDw M7 cg ?_|refine G_x (B0 (ky:=.i (id)) Z Z Z Z Z Z Z (by exact(hml))) Z Z ?_|refine Wz ?_|fail))
   all_goals (try exact oMw)
   (first|exact A9 hM Z Z Z tRw Z Z|exact C0 (A9 hM Z Z Z tRw Z Z))
  | false=>
   rw [hh0] at hml
   have hlt:=D1l hmem.1 (by rw [hmem.2];exact hh0)
   rw [hmem.2] at hlt
   obtain⟨k',rfl⟩:∃ k',k=k'+1:=⟨k-1,oEw⟩
   have hms:mset (ms.map bT) (.i id) (.v (.bool true))=(ms++[id]).map bT:=C1c id ms hh0
   have hfr:=A1s d k' (ms++[id]) n.parent
   have c1:=ih k' rfl (ms++[id]) n.parent oEw
   obtain⟨m1,hm1⟩:∃ m1,K3 d k' (ms++[id]) n.parent=m1:=⟨_,rfl⟩
   rw [hm1] at c1 hfr
   have htr:=hg.tr n hmem.1
   obtain⟨j,hj⟩:∃ j:Nat,n.tier=(j:Int):=⟨n.tier.toNat,oEw⟩
   obtain⟨ti,hti⟩:=gex (l:=d.tiers) (i:=j) oEw
   have hta:tAt d.tiers n.tier=ti:=by unfold tAt;rw [hj,Int.toNat_natCast,hti];rfl
   have hsp:K3 d (k'+1) ms id=if ti.kind=1 then (K5 d n.parent n.tier).foldl (K3 d k') m1 else m1:=by
    rw [K3,hn]
    simp only [hh0,hta,hm1]
    rfl
   rw [hsp]
   by_cases hk1:ti.kind=1
   rotate_left
   ·rw [if_neg hk1]
    refine fo_X (n:=51) Tryz.func191 rfl Tryz.ntmps191 rfl fun c hM=>?_
    (repeat' (first|refine cDw M7 cg ?_|refine G_x (B0 (ky:=.i (id)) Z Z Z Z Z Z Z (by exact(hml))) Z Z ?_|(refine G_s (N2 (ky:=.i (id)) Z Z Z Z Z Z Z Z) Z Z Z ?_;rw [hms])|refine G_c (J8 [(1000,1000),(1001,1001),(1002,1002),(1003,1003)] (c1) Z Z Z Z Z tRw C4r) Z Z Z ?_|refine iDw (gm hti) ?_|refine Wz ?_|apply Wd <;>intro hh))
    all_goals (try exact oMw)
    (first|exact A9 hM Z Z Z tRw Z Z|exact C0 (A9 hM Z Z Z tRw Z Z))
   rw [if_pos hk1]
   have ck:=c129 d n.parent n.tier hg
   obtain⟨S,hS⟩:∃ S,K5 d n.parent n.tier=S:=⟨_,rfl⟩
   rw [hS] at ck ⊢
   refine fo_X (n:=51) Tryz.func191 rfl Tryz.ntmps191 rfl fun c hM=>?_
   (repeat' (first|refine cDw M7 cg ?_|refine G_x (B0 (ky:=.i (id)) Z Z Z Z Z Z Z (by exact(hml))) Z Z ?_|(refine G_s (N2 (ky:=.i (id)) Z Z Z Z Z Z Z Z) Z Z Z ?_;rw [hms])|refine G_c (J8 [(1000,1000),(1001,1001),(1002,1002),(1003,1003)] (c1) Z Z Z Z Z tRw C4r) Z Z Z ?_|refine iDw (gm hti) ?_|refine cDw B3t ck ?_|refine Wz ?_|refine Wb fun hb=>?_|apply Wd <;>intro hh))
   all_goals (try exact oMw)
   refine X_lp (ι:=Nat × List Int) 2243003720663296 [1003] (fun s=>[(43,.d (dI s.1))]) (fun s=>[(1003,.mp 0 (s.2.map bT))]) (fun s=>s.1≤S.length∧V0 d s.2≤k'∧(S.drop s.1).foldl (K3 d k') s.2=S.foldl (K3 d k') m1) (fun s=>S.length-s.1) ((0,m1)) ?_ ?_
   ·exact⟨zLw,oDw,rfl⟩
   rintro⟨i,m⟩ ⟨hi,hfm,hfold⟩
   dsimp only at hi hfm hfold ⊢
   by_cases hlt2:i<S.length
   rotate_left
   ·rw [List.drop_eq_nil_of_le oEw,List.foldl_nil] at hfold
    (repeat' (first|refine Wz ?_|apply Wd <;>intro hh))
    all_goals (try exact oMw)
    rw [hfold]
    (first|exact A9 hM Z Z Z tRw Z Z|exact C0 (A9 hM Z Z Z tRw Z Z))
   obtain⟨x,hx⟩:=gex hlt2
   rw [drp hx,List.foldl_cons] at hfold
   have cr:=ih k' rfl m x hfm
   have hf2:=A1s d k' m x
   obtain⟨m2,hm2⟩:∃ m2,K3 d k' m x=m2:=⟨_,rfl⟩
   rw [hm2] at cr hf2 hfold
   (repeat' (first|refine iDw (gm hx) ?_|refine G_c (J8 [(1000,1000),(1001,1001),(1002,1002),(1003,1003)] (cr) Z Z Z Z Z tRw C4r) Z Z Z ?_|refine Wz ?_|apply Wd <;>intro hh))
   all_goals (try exact oMw)
   exact A0 (i+1,m2) ⟨oDw,oDw,hfold⟩ (oDw) (hh':=hSw)
theorem c191 (d:Doc)(hg:GD d):∀ k,D4g d k
 | 0=>B2m d hg 0 fun _ h=>by cases h
 | k+1=>B2m d hg (k+1) fun k' h=>by cases h;exact c191 d hg k
theorem C6t (d:Doc)(ms:List Int):V0 d ms≤d.notes.length:=List.length_filter_le _ _
theorem c116 (d:Doc)(sp:List Spn)(hg:GD d)(hs:sp.length≤12):Fo Tryz.prog 116 [.g ((docC d).map .d),.d (spnD sp)] [] (.m 9) [(9,.mp 0 ((A6m d sp).map bT))]:=by
 obtain⟨f,hf⟩:∃ f:List Int→Note→List Int,f=fun ms n=>if Q7 d sp n.id then K3 d (d.notes.length) ms n.id else ms:=⟨_,rfl⟩
 have e:A6m d sp=d.notes.foldl f []:=by rw [hf];rfl
 rw [e]
 refine fo_X (n:=29) Tryz.func116 rfl Tryz.ntmps116 rfl fun c hM=>?_
 (repeat' (first|refine G_nd Z Z (Z6 _ 0 rfl) Z ?_|refine Wz ?_|refine Wb fun hb=>?_))
 refine X_lp (ι:=Nat) 268419328 [9] (fun i=>[(14,.d (dI i))]) (fun i=>[(9,.mp 0 (((d.notes.take i).foldl f []).map bT))]) (fun i=>i≤d.notes.length) (fun i=>d.notes.length-i) (0) ?_ ?_
 ·exact zLw
 rintro i hi
 by_cases hlt:i<d.notes.length
 rotate_left
 ·have hz:i=d.notes.length:=oEw
  subst hz
  rw [List.take_length]
  (repeat' (first|refine Wz ?_|apply Wd <;>intro hh))
  all_goals (try exact oMw)
  (first|exact A9 hM Z Z Z tRw Z Z|exact C0 (A9 hM Z Z Z tRw Z Z))
 obtain⟨n,hn⟩:=gex hlt
 have hst:=J0 (f:=f) (b:=[]) hn
 obtain⟨ms,hms⟩:∃ ms,(d.notes.take i).foldl f []=ms:=⟨_,rfl⟩
 rw [hms] at hst ⊢
 have cs:=c117 d sp n.id hg hs
 cases hb:Q7 d sp n.id with
 | false=>
  have hfn:f ms n=ms:=by rw [hf];simp [hb]
  rw [hfn] at hst
  rw [hb] at cs
  (repeat' (first|refine iDw (gm hn) ?_|refine cDw B9e cs ?_|refine Wz ?_|apply Wd <;>intro hh))
  all_goals (try exact oMw)
  exact A0 (i+1) oEw oEw (hh:=A1 (by rw [hst];rfl) (A4 _))
 | true=>
  have hfn:f ms n=K3 d d.notes.length ms n.id:=by rw [hf];simp [hb]
  rw [hfn] at hst
  rw [hb] at cs
  have cm:=c191 d hg d.notes.length ms n.id (C6t d ms)
  obtain⟨m2,hm2⟩:∃ m2,K3 d d.notes.length ms n.id=m2:=⟨_,rfl⟩
  rw [hm2] at cm hst
  (repeat' (first|refine iDw (gm hn) ?_|refine cDw B9e cs ?_|refine G_c (J8 [(1000,2),(1001,5),(1002,6),(1003,9)] (cm) Z Z Z Z Z tRw C4r) Z Z Z ?_|refine Wz ?_|apply Wd <;>intro hh))
  all_goals (try exact oMw)
  exact A0 (i+1) oEw oEw (hh:=A1 (by rw [hst];rfl) (A4 _)) (hh':=hSw)
theorem c43 (d:Doc)(sp:List Spn)(hg:GD d)(hs:sp.length≤12):Fp Tryz.prog 43 [.g (docC d),spnD sp] (.g (docC (redF d sp))):=by
 have ck:=c116 d sp hg hs
 have hnn:=hg.nn
 unfold redF
 obtain⟨K,hK⟩:∃ K,A6m d sp=K:=⟨_,rfl⟩
 rw [hK] at ck ⊢
 obtain⟨p,hp⟩:∃ p:Note→Bool,p=fun n=>hasI K n.id:=⟨_,rfl⟩
 rw [← hp]
 refine fXw Tryz.func43 Tryz.ntmps43 fun c hM=>?_
 (repeat' (first|refine G_c (B4 [(9,11)] (ck) Z Z Z Z tRw H0q) Z Z Z ?_|refine Wz ?_|refine Wb fun hb=>?_))
 refine A4w 6 6 901 142 7 Z Z Z Z Z ?_
 refine X_lp (ι:=Nat × Nat) 8796091973888 [6,901] (fun s=>[(20,.d (dI s.1))]) (fun s=>[(6,.box 62 [.d (dI d.rc.id),.d (dS d.rc.name),.d (dI d.rc.len),.d (dI d.rc.day),.d (ints d.rc.sp),.d (.s 4 (d.tiers.map A0g)),.o 901 s.2]),(901,.ls 142 7 s.2 ((((d.notes.take s.1).filter p).map (redN d sp)).map C4))]) (fun s=>s.1≤d.notes.length) (fun s=>d.notes.length-s.1) ((0,0)) ?_ ?_
 ·exact zLw
 rintro⟨i,v⟩ hi
 dsimp only at hi ⊢
 by_cases hlt:i<d.notes.length
 rotate_left
 ·have hz:i=d.notes.length:=oEw
  subst hz
  rw [List.take_length]
  have hfl:=List.length_filter_le p d.notes
  (repeat' ((fail_if_success (refine H7 (x:=(Code.region 11 _ _)) ?_));first|refine Wz ?_|refine Wd (fun hh=>?_) fun hh=>?_))
  all_goals (try exact oMw)
  refine A0b 6 6 Z Z Z (by rw [List.length_map,List.length_map];omega) ?_
  (repeat' (first|refine Wz ?_|fail))
  exact rXw hM
 obtain⟨n,hn⟩:=gex hlt
 have hml:=O5 n.id K
 have hpn:p n=hasI K n.id:=by rw [hp]
 rw [← hpn] at hml
 have hle:((d.notes.take i).filter p).length≤14:=Nat.le_trans (List.length_filter_le _ _) (by rw [List.length_take];omega)
 cases hb:p n with
 | false=>
  rw [hb] at hml
  (repeat' (first|refine iDw (gm hn) ?_|refine G_x (B0 (ky:=.i (n.id)) Z Z Z Z Z Z Z (by exact(hml))) Z Z ?_|refine Wz ?_|apply Wd <;>intro hh))
  all_goals (try exact oMw)
  exact A0 (i+1,v) (oDw) (oDw) (hh:=A1 Z (A1 (by dsimp only;rw [G1 hn hb];rfl) (A4 _)))
 | true=>
  rw [hb] at hml
  have cs:=c117 d sp n.id hg hs
  have hrow:(((d.notes.take (i+1)).filter p).map (redN d sp)).map C4=(((d.notes.take i).filter p).map (redN d sp)).map C4++[C4 (redN d sp n)]:=by rw [D9 hn hb];simp
  cases hb2:Q7 d sp n.id with
  | true=>
   have hr:redN d sp n=n:=by unfold redN;rw [hb2];rfl
   rw [hr] at hrow
   rw [hb2] at cs
   (repeat' (first|refine iDw (gm hn) ?_|refine G_x (B0 (ky:=.i (n.id)) Z Z Z Z Z Z Z (by exact(hml))) Z Z ?_|refine cDw B9e cs ?_|refine Wz ?_|apply Wd <;>intro hh))
   all_goals (try exact oMw)
   exact A0 (i+1,v+1) (oDw) (oDw) (hh:=A1 Z (A1 (by dsimp only;rw [hrow];rfl) (A4 _)))
  | false=>
   have hr:redN d sp n={ n with text:=[] }:=by unfold redN;rw [hb2];rfl
   rw [hr] at hrow
   rw [hb2] at cs
   (repeat' (first|refine iDw (gm hn) ?_|refine G_x (B0 (ky:=.i (n.id)) Z Z Z Z Z Z Z (by exact(hml))) Z Z ?_|refine cDw B9e cs ?_|refine Wz ?_|apply Wd <;>intro hh))
   all_goals (try exact oMw)
   exact A0 (i+1,v+1) (oDw) (oDw) (hh:=A1 Z (A1 (by dsimp only;rw [hrow];rfl) (A4 _)))
theorem c252 (e:Pers)(id:Int):Fo Tryz.prog 252 [.g ((M5 e).map .d),.p 1000 0 0] [(1000,.box 3 [.d (dI id)])] (.d (dB (decide (e.id=id)))) [(1000,.box 3 [.d (dI id)])]:=by
 refine fo_X (n:=8) Tryz.func252 rfl Tryz.ntmps252 rfl fun c hM=>?_
 (repeat' (first|refine Wz ?_|apply Wd <;>intro hh))
 ·rw [decide_eq_true hh];exact A9 hM Z Z Z ⟨rfl,trivial⟩ Z Z
 ·rw [decide_eq_false hh];exact A9 hM Z Z Z ⟨rfl,trivial⟩ Z Z
theorem c251 (l:List Pers)(id:Int):Fo Tryz.prog 251 [.d (.s 3 (l.map M5)),.f (.func 252) [.p 1000 0 0] ] [(1000,.box 3 [.d (dI id)])] (.d (dI (ixF (fun e=>decide (e.id=id)) l 0))) [(1000,.box 3 [.d (dI id)])]:=by
 refine fo_X (n:=19) Tryz.func251 rfl Tryz.ntmps251 rfl fun c hM=>?_
 (repeat' (first|refine Wz ?_|refine Wb fun hb=>?_))
 refine X_lp (ι:=Nat) 524080 [] (fun i=>[(8,.d (dI i))]) (fun _=>[]) (fun i=>i≤l.length∧ixF (fun x=>decide (x.id=id)) l 0=ixF (fun x=>decide (x.id=id)) (l.drop i) i) (fun i=>l.length-i) (0) ?_ ?_
 ·exact⟨zLw,rfl⟩
 rintro i ⟨hi,hq⟩
 by_cases hlt:i<l.length
 ·obtain⟨n,hn⟩:=gex hlt
  have cl:=c252 n id
  by_cases he:n.id=id
  ·rw [decide_eq_true he] at cl
   (repeat' (first|refine iDw (gm hn) ?_|refine G_c (J8 [(1000,1000)] (cl) Z Z Z Z Z tRw G0o) Z Z Z ?_|refine Wz ?_|apply Wd <;>intro hh))
   all_goals (try exact oMw)
   rw [hq,drp hn,ixF,if_pos (by simp [*])]
   exact A9 hM Z Z Z ⟨rfl,trivial⟩ Z Z
  ·rw [decide_eq_false he] at cl
   (repeat' (first|refine iDw (gm hn) ?_|refine G_c (J8 [(1000,1000)] (cl) Z Z Z Z Z tRw G0o) Z Z Z ?_|refine Wz ?_|apply Wd <;>intro hh))
   all_goals (try exact oMw)
   exact A0 (i+1) ⟨oEw,by rw [hq,drp hn,ixF,if_neg (by simp [*])];rfl⟩ oEw
 ·(repeat' (first|refine Wz ?_|apply Wd <;>intro hh))
  all_goals (try exact oMw)
  rw [hq,List.drop_eq_nil_of_le oEw]
  exact A9 hM Z Z Z ⟨rfl,trivial⟩ Z Z
theorem c204 (l:List Pers)(id:Int):Fp Tryz.prog 204 [.s 3 (l.map M5),dI id] (fRes M5 C9c (perF l id)):=by
 refine fXw Tryz.func204 Tryz.ntmps204 fun c hM=>?_
 have hx:=Q5 (fun e=>decide (e.id=id)) l 0
 unfold perF
 rcases hx with⟨h1,h2⟩|⟨i,x,h1,h2,h3⟩
 ·have cl:=c251 l id
  rw [show ixF (fun e=>decide (e.id=id)) l 0 = -1 from h1] at cl
  rw [h2]
  (repeat' (first|refine G_c (B4 [(1000,3)] (cl) Z Z Z Z tRw G0p) Z Z Z ?_|refine Wz ?_|apply Wd <;>intro hh))
  all_goals (try exact oMw)
  exact rXw hM
 ·have cl:=c251 l id
  rw [Nat.zero_add] at h1
  rw [show ixF (fun e=>decide (e.id=id)) l 0=(i:Int) from h1] at cl
  rw [h3]
  (repeat' (first|refine G_c (B4 [(1000,3)] (cl) Z Z Z Z tRw G0p) Z Z Z ?_|refine iDw (gm h2) ?_|refine Wz ?_|apply Wd <;>intro hh))
  all_goals (try exact oMw)
  exact rXw hM
def grp0:Grp:=⟨0,[],[],[]⟩
def O1 (l:List Grp)(met:List Int):Nat:=(l.filter fun g=>!hasI met g.id).length
def visF (l:List Grp)(n:Nat)(met:List Int)(sub:Int):List Int:=if (grpF l sub).isSome&&!hasI met sub then (match n with|0=>met|n+1=>visG l n (met++[sub]) sub) else met
def B7g (l:List Grp)(id:Int):List Int:=match grpF l id with|some g=>g.subs|none=>[]
theorem B3l {α β:Type}(b:β):∀ l:List α,l.foldl (fun b _=>b) b=b
 | []=>rfl
 | _::r=>B3l b r
theorem B4j (l:List Grp)(n:Nat)(met:List Int)(id:Int):visG l n met id=(B7g l id).foldl (visF l n) met:=by
 cases n with
 | zero=>
  rw [visG]
  have:visF l 0=fun met _=>met:=by
   funext met sub
   unfold visF
   split <;> rfl
  rw [this,B3l]
 | succ n=>
  rw [visG];rfl
theorem A9j (l:List Grp)(met:List Int)(x:Int):O1 l (met++[x])≤O1 l met:=by
 unfold O1
 induction l with
 | nil=>exact Nat.le_refl _
 | cons g r ih=>
  rw [List.filter_cons,List.filter_cons,A0y]
  cases hasI met g.id <;> cases decide (g.id=x) <;> simp <;> omega
theorem A9i {l : List Grp}{met : List Int}{x : Int}(hx : (grpF l x).isSome = true)(hm : hasI met x = false) : O1 l (met ++ [x]) < O1 l met := by
 unfold O1
 induction l with
 | nil=>simp [grpF] at hx
 | cons g r ih=>
  have hle:=A9j r met x
  unfold O1 at hle
  rw [List.filter_cons,List.filter_cons,A0y]
  by_cases hg:g.id=x
  ·subst hg
   simp [hm];omega
  ·have hx':(grpF r x).isSome=true:=by
    unfold grpF at hx ⊢
    rw [List.find?_cons_of_neg (by simpa using hg)] at hx
    exact hx
   have:=ih hx'
   have hd:decide (g.id=x)=false:=decide_eq_false hg
   rw [hd,Bool.or_false]
   cases hasI met g.id <;> simp <;> omega
theorem C7q (l:List Grp):∀(n:Nat) (met:List Int) (id:Int),O1 l (visG l n met id)≤O1 l met:=by
 intro n
 induction n with
 | zero=>intro met id;rw [visG];exact Nat.le_refl _
 | succ n ih=>
  intro met id
  rw [B4j]
  generalize B7g l id=q
  induction q generalizing met with
  | nil=>exact Nat.le_refl _
  | cons x r ih2=>
   rw [List.foldl_cons]
   refine Nat.le_trans (ih2 _) ?_
   unfold visF
   split
   ·exact Nat.le_trans (ih _ _) (A9j _ _ _)
   ·exact Nat.le_refl _
theorem C5y (l:List Grp)(n:Nat)(met:List Int)(x:Int):O1 l (visF l n met x)≤O1 l met:=by
 unfold visF
 split
 ·cases n with
  | zero=>exact Nat.le_refl _
  | succ n=>exact Nat.le_trans (C7q l n _ _) (A9j _ _ _)
 ·exact Nat.le_refl _
theorem A7a {l:List Grp}{n:Nat}{m:List Int}{x:Int}(h:((grpF l x).isSome&&!hasI m x)=false):visF l n m x=m:=by
 unfold visF;rw [h];rfl
theorem A7o {l:List Grp}{n:Nat}{m:List Int}{x:Int}(h:((grpF l x).isSome&&!hasI m x)=true):visF l (n+1) m x=visG l n (m++[x]) x:=by
 unfold visF;rw [h];rfl
theorem B4i (l : List Grp) : ∀ (n : Nat) (met : List Int) (id : Int), (visG l n met id).length + O1 l (visG l n met id) ≤ met.length + O1 l met := by
 intro n
 induction n with
 | zero=>intro met id;rw [visG];exact Nat.le_refl _
 | succ n ih=>
  intro met id
  rw [B4j]
  generalize B7g l id=q
  induction q generalizing met with
  | nil=>exact Nat.le_refl _
  | cons x r ih2=>
   rw [List.foldl_cons]
   refine Nat.le_trans (ih2 _) ?_
   cases h:((grpF l x).isSome&&!hasI met x) with
   | false=>rw [A7a h];exact Nat.le_refl _
   | true=>
    rw [A7o h]
    rw [Bool.and_eq_true] at h
    have h1:=A9i h.1 (by simpa using h.2)
    have h2:=ih (met++[x]) x
    rw [List.length_append] at h2
    simp at h2
    omega
theorem C7r (l:List Grp)(n:Nat)(met:List Int)(x:Int):(visF l n met x).length+O1 l (visF l n met x)≤met.length+O1 l met:=by
 cases h:((grpF l x).isSome&&!hasI met x) with
 | false=>rw [A7a h];exact Nat.le_refl _
 | true=>
  have h':=h
  rw [Bool.and_eq_true] at h'
  have h1:=A9i h'.1 (by simpa using h'.2)
  cases n with
  | zero=>
   have:visF l 0 met x=met:=by unfold visF;split <;> rfl
   rw [this];exact Nat.le_refl _
  | succ n=>
   rw [A7o h]
   have h2:=B4i l n (met++[x]) x
   rw [List.length_append] at h2
   simp at h2
   omega
theorem c335 (e:Grp)(id:Int):Fo Tryz.prog 335 [.g ((grpC e).map .d),.p 1000 0 0] [(1000,.box 3 [.d (dI id)])] (.d (dB (decide (e.id=id)))) [(1000,.box 3 [.d (dI id)])]:=by
 refine fo_X (n:=8) Tryz.func335 rfl Tryz.ntmps335 rfl fun c hM=>?_
 (repeat' (first|refine Wz ?_|apply Wd <;>intro hh))
 ·rw [decide_eq_true hh];exact A9 hM Z Z Z ⟨rfl,trivial⟩ Z Z
 ·rw [decide_eq_false hh];exact A9 hM Z Z Z ⟨rfl,trivial⟩ Z Z
theorem c334 (l:List Grp)(id:Int):Fo Tryz.prog 334 [.d (.s 4 (l.map grpC)),.f (.func 335) [.p 1000 0 0] ] [(1000,.box 3 [.d (dI id)])] (.d (dI (ixF (fun e=>decide (e.id=id)) l 0))) [(1000,.box 3 [.d (dI id)])]:=by
 refine fo_X (n:=19) Tryz.func334 rfl Tryz.ntmps334 rfl fun c hM=>?_
 (repeat' (first|refine Wz ?_|refine Wb fun hb=>?_))
 refine X_lp (ι:=Nat) 524080 [] (fun i=>[(8,.d (dI i))]) (fun _=>[]) (fun i=>i≤l.length∧ixF (fun x=>decide (x.id=id)) l 0=ixF (fun x=>decide (x.id=id)) (l.drop i) i) (fun i=>l.length-i) (0) ?_ ?_
 ·exact⟨zLw,rfl⟩
 rintro i ⟨hi,hq⟩
 by_cases hlt:i<l.length
 ·obtain⟨n,hn⟩:=gex hlt
  have cl:=c335 n id
  by_cases he:n.id=id
  ·rw [decide_eq_true he] at cl
   (repeat' (first|refine iDw (gm hn) ?_|refine G_c (J8 [(1000,1000)] (cl) Z Z Z Z Z tRw G0e) Z Z Z ?_|refine Wz ?_|apply Wd <;>intro hh))
   all_goals (try exact oMw)
   rw [hq,drp hn,ixF,if_pos (by simp [*])]
   exact A9 hM Z Z Z ⟨rfl,trivial⟩ Z Z
  ·rw [decide_eq_false he] at cl
   (repeat' (first|refine iDw (gm hn) ?_|refine G_c (J8 [(1000,1000)] (cl) Z Z Z Z Z tRw G0e) Z Z Z ?_|refine Wz ?_|apply Wd <;>intro hh))
   all_goals (try exact oMw)
   exact A0 (i+1) ⟨oEw,by rw [hq,drp hn,ixF,if_neg (by simp [*])];rfl⟩ oEw
 ·(repeat' (first|refine Wz ?_|apply Wd <;>intro hh))
  all_goals (try exact oMw)
  rw [hq,List.drop_eq_nil_of_le oEw]
  exact A9 hM Z Z Z ⟨rfl,trivial⟩ Z Z
theorem c315 (l:List Grp)(id:Int):Fp Tryz.prog 315 [.s 4 (l.map grpC),dI id] (fRes grpC grp0 (grpF l id)):=by
 refine fXw Tryz.func315 Tryz.ntmps315 fun c hM=>?_
 have hx:=Q5 (fun e=>decide (e.id=id)) l 0
 unfold grpF
 rcases hx with⟨h1,h2⟩|⟨i,x,h1,h2,h3⟩
 ·have cl:=c334 l id
  rw [show ixF (fun e=>decide (e.id=id)) l 0 = -1 from h1] at cl
  rw [h2]
  (repeat' (first|refine G_c (B4 [(1000,3)] (cl) Z Z Z Z tRw G0f) Z Z Z ?_|refine Wz ?_|apply Wd <;>intro hh))
  all_goals (try exact oMw)
  exact rXw hM
 ·have cl:=c334 l id
  rw [Nat.zero_add] at h1
  rw [show ixF (fun e=>decide (e.id=id)) l 0=(i:Int) from h1] at cl
  rw [h3]
  (repeat' (first|refine G_c (B4 [(1000,3)] (cl) Z Z Z Z tRw G0f) Z Z Z ?_|refine iDw (gm h2) ?_|refine Wz ?_|apply Wd <;>intro hh))
  all_goals (try exact oMw)
  exact rXw hM
abbrev visH (l:List Grp)(met:List Int):Hp:=[(1000,.box 41 [.d (.s 4 (l.map grpC))]),(1001,.box 31 [.o 1003 met.length]),(1002,.box 294 [.f (.func 333) [.p 1000 0 0,.p 1001 0 0,.p 1002 0 0] ]),(1003,.ls 3 1 met.length (met.map iC))]
def VisC (l:List Grp)(n:Nat):Prop:=∀(met:List Int) (id:Int),O1 l met≤n→met.length+O1 l met≤1000000→Fo Tryz.prog 333 [.d (dI id),.p 1000 0 0,.p 1001 0 0,.p 1002 0 0] (visH l met) (.t []) (visH l (visG l n met id))
theorem B6l (l:List Grp)(n:Nat)(ih:∀ n',n=n'+1→VisC l n'):VisC l n:=by
 intro met id hf hml
 rw [B4j]
 have cg:=c315 l id
 obtain⟨o,ho⟩:∃ o,grpF l id=o:=⟨_,rfl⟩
 obtain⟨g,hg⟩:∃ g,o.getD grp0=g:=⟨_,rfl⟩
 obtain⟨z,hz⟩:∃ z,o.isSome=z:=⟨_,rfl⟩
 have hS:B7g l id=g.subs:=by unfold B7g;rw [ho,← hg];cases o <;> rfl
 have hsome:fRes grpC grp0 o=.t [.g (grpC g),dB z]:=by rw [← hg,← hz];cases o <;> rfl
 rw [ho,hsome] at cg
 rw [hS]
 refine fo_X (n:=45) Tryz.func333 rfl Tryz.ntmps333 rfl fun c hM=>?_
 (repeat' (first|refine cDw B9a cg ?_|refine Wz ?_|refine Wb fun hb=>?_))
 refine X_lp (ι:=Nat × List Int) 35184371042048 [1001,1003] (fun s=>[(20,.d (dI s.1))]) (fun s=>[(1001,.box 31 [.o 1003 s.2.length]),(1003,.ls 3 1 s.2.length (s.2.map iC))]) (fun s=>s.1≤g.subs.length∧O1 l s.2≤n∧s.2.length+O1 l s.2≤met.length+O1 l met∧(g.subs.drop s.1).foldl (visF l n) s.2=g.subs.foldl (visF l n) met) (fun s=>g.subs.length-s.1) ((0,met)) ?_ ?_
 ·exact⟨zLw,hf,Nat.le_refl _,rfl⟩
 rintro⟨i,m⟩ ⟨hi,hfm,hlm,hfold⟩
 dsimp only at hi hfm hlm hfold ⊢
 by_cases hlt:i<g.subs.length
 rotate_left
 ·rw [List.drop_eq_nil_of_le oEw,List.foldl_nil] at hfold
  (repeat' (first|refine Wz ?_|apply Wd <;>intro hh))
  all_goals (try exact oMw)
  rw [hfold]
  (first|exact A9 hM Z Z Z tRw Z Z|exact C0 (A9 hM Z Z Z tRw Z Z))
 obtain⟨x,hx⟩:=gex hlt
 rw [drp hx,List.foldl_cons] at hfold
 have cx:=c315 l x
 have chx:=c190 m x
 have hvf:=C5y l n m x
 have hvl:=C7r l n m x
 obtain⟨o2,ho2⟩:∃ o,grpF l x=o:=⟨_,rfl⟩
 obtain⟨g2,hg2⟩:∃ g,o2.getD grp0=g:=⟨_,rfl⟩
 obtain⟨b,hb⟩:∃ b,hasI m x=b:=⟨_,rfl⟩
 have hsome2:fRes grpC grp0 o2=.t [.g (grpC g2),dB o2.isSome]:=by rw [← hg2];cases o2 <;> rfl
 rw [ho2,hsome2] at cx
 have hlen:m.length≤1000000:=oEw
 rw [hb] at chx
 cases hz2:o2.isSome with
 | false=>
  rw [hz2] at cx
  have hm:visF l n m x=m:=A7a (by rw [ho2,hz2];rfl)
  rw [hm] at hfold
  (repeat' (first|refine iDw (gm hx) ?_|refine cDw B9a cx ?_|refine Wz ?_|apply Wd <;>intro hh))
  all_goals (try exact oMw)
  exact A0 (i+1,m) ⟨oDw,hfm,hlm,hfold⟩ (oDw)
 | true=>
  rw [hz2] at cx
  cases b with
  | true=>
   have hm:visF l n m x=m:=A7a (by rw [ho2,hb,hz2];rfl)
   rw [hm] at hfold
   (repeat' (first|refine iDw (gm hx) ?_|refine cDw B9a cx ?_|refine G_x (A0v (xs:=[ints m,dI x]) [1003] Z Z ⟨_,_,rfl,⟨by simp,3,1,_,rfl,rfl,by rw [List.length_map];omega⟩,⟨_,_,rfl,rfl,rfl⟩⟩ rfl A9r chx) Z Z ?_|refine Wz ?_|apply Wd <;>intro hh))
   all_goals (try exact oMw)
   exact A0 (i+1,m) ⟨oDw,hfm,hlm,hfold⟩ (oDw)
  | false=>
   have hlt2:=A9i (l:=l) (met:=m) (x:=x) (by rw [ho2,hz2]) hb
   obtain⟨n',rfl⟩:∃ n',n=n'+1:=⟨n-1,oEw⟩
   have hm:visF l (n'+1) m x=visG l n' (m++[x]) x:=A7o (by rw [ho2,hb,hz2];rfl)
   rw [hm] at hfold hvf hvl
   have cr:=ih n' rfl (m++[x]) x oEw (by rw [List.length_append];simp;omega)
   obtain⟨m2,hm2⟩:∃ m2,visG l n' (m++[x]) x=m2:=⟨_,rfl⟩
   rw [hm2] at cr hfold hvf hvl
   simp only [visH,List.length_append,List.map_append,List.length_cons,List.length_nil,Nat.zero_add] at cr
   (repeat' (first|refine iDw (gm hx) ?_|refine cDw B9a cx ?_|refine G_x (A0v (xs:=[ints m,dI x]) [1003] Z Z ⟨_,_,rfl,⟨by simp,3,1,_,rfl,rfl,by rw [List.length_map];omega⟩,⟨_,_,rfl,rfl,rfl⟩⟩ rfl A9r chx) Z Z ?_|refine G_c (J8 [(1000,1000),(1001,1001),(1002,1002),(1003,1003)] (cr) Z Z Z Z Z tRw G0g) Z Z Z ?_|refine Wz ?_|apply Wd <;>intro hh))
   all_goals (try exact oMw)
   exact A0 (i+1,m2) ⟨oDw,oDw,oDw,hfold⟩ (oDw)
theorem c333 (l:List Grp):∀ n,VisC l n
 | 0=>B6l l 0 fun _ h=>by cases h
 | n+1=>B6l l (n+1) fun n' h=>by cases h;exact c333 l n
theorem c136 (a:Rgts)(id:Int):Fp Tryz.prog 136 [.g (V7 a),dI id] (dB (mbrB a.people id)):=by
 unfold mbrB
 obtain⟨e,he⟩:∃ b,perF a.people id=b:=⟨_,rfl⟩;have ce:=c204 a.people id;rw [he] at ce;cases e
 all_goals (
  refine fXw Tryz.func136 Tryz.ntmps136 fun c hM=>?_
  (repeat' (first|refine cDw G0y ce ?_|refine Wz ?_|fail))
  all_goals (try exact oMw)
  all_goals (refine rEw hM ?_;rw [he];rfl))
theorem B1y:∀(l acc:List Int),(l.foldl putI acc).length≤acc.length+l.length
 | [],_=>Nat.le_refl _
 | x::r,acc=>by
  have:=B1y r (putI acc x)
  have:=A3u acc x
  rw [List.foldl_cons,List.length_cons];omega
theorem B7i (l:List Int):(srtR l).length≤l.length:=by
 have:=B1y l []
 simpa [srtR] using this
theorem B3j (l:List Grp)(met:List Int):O1 l met≤l.length:=List.length_filter_le _ _
theorem D3f (l:List Grp)(id:Int):(belP l id).length≤l.length:=by
 have h1:=B7i (visG l l.length [] id)
 have h2:=B4i l l.length [] id
 have h3:=B3j l []
 unfold belP
 simp at h2
 omega
theorem c314 (l:List Grp)(id:Int)(hl:l.length≤1000):Fp Tryz.prog 314 [.s 4 (l.map grpC),dI id] (ints (belP l id)):=by
 unfold belP
 have h3:=B3j l []
 have hv:=B4i l l.length [] id
 have cv:=c333 l l.length [] id h3 (by simp;omega)
 obtain⟨m,hm⟩:∃ m,visG l l.length [] id=m:=⟨_,rfl⟩
 rw [hm] at cv hv ⊢
 simp at hv
 have cs:=c241 m oEw
 refine fXw Tryz.func314 Tryz.ntmps314 fun c hM=>?_
 (repeat' ((fail_if_success (refine H7 (x:=(Code.region 4 _ _)) ?_));first|refine Wz ?_|fail))
 refine A4w 5 0 900 3 1 Z Z Z Z Z ?_
 (repeat' (first|refine G_c (J8 [(1000,2),(1001,5),(1002,6),(1003,900)] (cv) Z Z Z Z Z tRw G0g) Z Z Z ?_|(refine K6 11 Z Z (by rw [List.length_map];omega) ?_)|refine cDw D2f cs ?_|refine Wz ?_|fail))
 all_goals (try exact oMw)
 exact rXw hM
def pplG (l:List Grp)(x:Int):List Int:=match grpF l x with|some g=>g.people|none=>[]
theorem c288 (l:List Grp)(id:Int)(hl:l.length≤20)(hp:∀ g∈l,g.people.length≤1000):Fp Tryz.prog 288 [.s 4 (l.map grpC),dI id] (ints (memP l id)):=by
 have e:memP l id=srtR ((id::belP l id).flatMap (pplG l)):=rfl
 rw [e]
 have hb:=D3f l id
 have cb:=c314 l id oEw
 obtain⟨B,hB⟩:∃ B,belP l id=B:=⟨_,rfl⟩
 rw [hB] at cb hb ⊢
 obtain⟨L,hL⟩:∃ L,id::B=L:=⟨_,rfl⟩
 have hLl:L.length≤21:=by rw [← hL,List.length_cons];omega
 have hrows:[[Dt.v (int id)]]++B.map iC=L.map iC:=by rw [← hL];rfl
 refine fXw Tryz.func288 Tryz.ntmps288 fun c hM=>?_
 (repeat' (first|refine G_nd Z Z (L1 _ Z Z Z Z Z) Z ?_|refine cDw G7i cb ?_|refine Wz ?_|fail))
 rw [hL]
 refine B0h 15 Z Z lOw ?_
 rw [hrows,List.length_map]
 refine D0 5 5 3 1 Z Z ?_
 refine X_lp (ι:=Nat × List Int) 4294837152 [5] (fun s=>[(5,.o 5 s.1),(17,.d (dI s.1))]) (fun s=>[(5,.ls 3 1 s.1 (s.2.map iC))]) (fun s=>s.1≤L.length∧s.2.length≤1000*s.1∧s.2++(L.drop s.1).flatMap (pplG l)=L.flatMap (pplG l)) (fun s=>L.length-s.1) ((0,[])) ?_ ?_
 ·exact⟨zLw,Nat.le_refl _,rfl⟩
 rintro⟨i,out⟩ ⟨hi,hol,hout⟩
 dsimp only at hi hol hout ⊢
 by_cases hlt:i<L.length
 rotate_left
 ·rw [List.drop_eq_nil_of_le oEw,List.flatMap_nil,List.append_nil] at hout
  have cs:=c241 out oEw
  rw [hout] at cs
  (repeat' (first|(refine K6 32 Z Z (by rw [List.length_map];omega) ?_)|refine G_x (A3 Z Z Z D2f cs (.t1 (.eq (congrArg (fun q:List Int=>ints q) hout)) .t0)) Z Z ?_|refine Wz ?_|apply Wd <;>intro hh))
  all_goals (try exact oMw)
  exact rXw hM
 obtain⟨x,hx⟩:=gex hlt
 rw [drp hx,List.flatMap_cons,← List.append_assoc] at hout
 have cg:=c315 l x
 obtain⟨o,ho⟩:∃ o,grpF l x=o:=⟨_,rfl⟩
 obtain⟨g,hg⟩:∃ g,o.getD grp0=g:=⟨_,rfl⟩
 have hsome:fRes grpC grp0 o=.t [.g (grpC g),dB o.isSome]:=by rw [← hg];cases o <;> rfl
 have hpl:pplG l x=g.people:=by unfold pplG;rw [ho,← hg];cases o <;> rfl
 have hgl:g.people.length≤1000:=by
  rw [← hg]
  cases o with
  | none=>exact zLw
  | some g'=>exact hp g' (List.mem_of_find?_eq_some ho)
 rw [ho,hsome] at cg
 rw [hpl] at hout
 (repeat' (first|refine iDw (gm hx) ?_|refine cDw B9a cg ?_|refine Wz ?_|apply Wd <;>intro hh))
 all_goals (try exact oMw)
 exact A0 (i+1,out++g.people) ⟨oDw,by dsimp only;rw [List.length_append];omega,hout⟩ (oDw) (hh:=A1 (by rw [List.map_append];rfl) (A4 _))
theorem c255 (l:List Grp)(id p:Int)(hl:l.length≤20)(hp:∀ g∈l,g.people.length≤1000):Fp Tryz.prog 255 [.s 4 (l.map grpC),dI id,dI p] (dB (inP l id p)):=by
 unfold inP
 have c1:=c288 l id hl hp
 obtain⟨M,hM'⟩:∃ M,memP l id=M:=⟨_,rfl⟩
 rw [hM'] at c1 ⊢
 refine fXw Tryz.func255 Tryz.ntmps255 fun c hM=>?_
 (repeat' (first|refine cDw G7s c1 ?_|refine cDw A9r (c190 M p) ?_|refine Wz ?_|fail))
 exact rXw hM
theorem q39S {p:Prop}(h:p:=by first|(simp [one1, *,dB,dI,dS,List.anyB,List.allB];done)|(simp_all [one1,dB,dI,dS,List.anyB,List.allB];done)|(simp_all [one1,dB,dI,dS,List.anyB,List.allB];omega)):p:=h
theorem c211 (ps:List Pers)(l:List Grp)(p:Prot)(v:Vwr)(hl:l.length≤20)(hgp:∀ g∈l,g.people.length≤1000):Fp Tryz.prog 211 [.s 3 (ps.map M5),.s 4 (l.map grpC),.g (B7p p),.g (vwrC v)] (dB (mayP ps l p v)):=by
 unfold mayP
 have hmb:mbrB ps v.person=match perF ps v.person with|some q=>q.member|none=>false:=rfl
 rw [hmb,← R5]
 obtain⟨e,he⟩:∃ b,perF ps v.person=b:=⟨_,rfl⟩;have ce:=c204 ps v.person;rw [he] at ce;cases e
 all_goals rw [he]
 all_goals (
  by_cases h1:v.day<p.til
  ·rw [if_pos h1]
   refine fXw Tryz.func211 Tryz.ntmps211 fun c hM=>?_
   (repeat' (first|refine Wz ?_|refine Wb fun hb=>?_|apply Wd <;>intro hh))
   all_goals (try exact oMw)
   exact rXw hM
  rw [if_neg h1]
  by_cases h2:p.level=2
  rotate_left
  ·rw [if_neg h2]
   refine fXw Tryz.func211 Tryz.ntmps211 fun c hM=>?_
   (repeat' (first|refine cDw G0y ce ?_|refine Wz ?_|refine Wb fun hb=>?_|apply Wd <;>intro hh))
   all_goals (try exact oMw)
   all_goals (first|(refine rEw hM ?_;simp [*,one1,dB];done))
  rw [if_pos h2]
  refine fXw Tryz.func211 Tryz.ntmps211 fun c hM=>?_
  (repeat' (first|refine Wz ?_|refine Wb fun hb=>?_|apply Wd <;>intro hh))
  all_goals (try exact oMw)
  refine X_lp (ι:=Nat) 549218944256 [] (fun i=>[(29,.d (dI i))]) (fun _=>[]) (fun i=>i≤(p.groups).length∧(fun _ q=>dB (q.anyB fun id=>inP l id v.person)) 0 (p.groups)=(fun _ q=>dB (q.anyB fun id=>inP l id v.person)) i ((p.groups).drop i)) (fun i=>(p.groups).length-i) (0) ?_ ?_
  ·exact⟨zLw,rfl⟩
  rintro i ⟨hi,hq⟩
  by_cases hlt:i<(p.groups).length
  rotate_left
  ·have hz:i=(p.groups).length:=oEw
   subst hz
   rw [List.drop_eq_nil_of_le (Nat.le_refl _)] at hq
   try dsimp only at hq
   ((repeat' (first|refine Wz ?_|apply Wd <;>intro hh));all_goals (first|(exfalso;omega)|(refine rEw hM ?_;rw [hq];rfl)))
  obtain⟨n,hn⟩:=gex hlt
  obtain⟨pv,hp⟩:=gex (l:=p.groups) (i:=i-1) oEw
  have hpr:=B6 hp
  have hmem:=List.mem_of_getElem? hn
  rw [drp hn] at hq
  try dsimp only at hq
  obtain⟨b,hb⟩:∃ b,inP l n v.person=b:=⟨_,rfl⟩;have cb:=c255 l n v.person hl hgp;rw [hb] at cb;rw [List.anyB,hb] at hq;cases b
  all_goals (repeat' (first|refine iDw (gm hn) ?_|refine cDw G8i cb ?_|refine Wz ?_|apply Wd <;>intro hh))
  all_goals (try exact oMw)
  all_goals first
   | exact A0 (i+1) ⟨oEw,by(try dsimp only);rw [hq];exact q39S⟩ oEw
   | (refine rEw hM ?_;(try rw [hq]);exact q39S))
end
end Go.Proofs.YtojadfppncgphaaGreatDoor