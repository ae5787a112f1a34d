/- Own text. -/
import Derived.Test.YtojadfppncgphaaGreatDoorYz
set_option linter.all false
set_option maxHeartbeats 16000000
set_option maxRecDepth 8000
namespace Go.Proofs.YtojadfppncgphaaGreatDoor
section
open Go.RowKit Go.En Go.Dl Go.Tp
attribute [local irreducible] X XL XW XG XK Val LS Fp Fo Calls bodyPost Code.wp
theorem c54 (d:Doc) (id:Int) (hg:GD d):Fp Tryz.prog 54 [.g (docC d),dI id] (fRes spnC spn0 (A6k d id)):=by
 unfold A6k
 rw [C5k]
 have cg:=n119 d id
 obtain⟨o,ho⟩:∃ o,getN d.notes id=o:=⟨_,rfl⟩
 rw [ho] at cg ⊢
 have hm0:∀ n,o=some n→n∈d.notes:=fun n h=>(L8 (ho.trans h)).1
 have hsome:∀(o':Option Note),fRes D0 S0 o'=.t [.g (D0 (o'.getD S0)),dB o'.isSome]:=fun o'=>by cases o' <;> rfl
 rw [hsome] at cg
 refine fXw Tryz.func54 Tryz.ntmps54 fun c hM=>?_
 (repeat' (first|refine cDw O8 cg ?_|refine Wz ?_|fail))
 refine X_lp (ι:=Option Note) 1073725568 [6] (fun o=>[(7,.d (dB o.isSome))]) (fun o=>[(6,.box 142 ((D0 (o.getD S0)).map .d))]) (fun o'=>(∀ n,o'=some n→n∈d.notes)∧wO d (d.tiers.length+1) o'=wO d (d.tiers.length+1) o) (wM) (o) ?_ ?_
 ·exact⟨hm0,rfl⟩
 rintro o' ⟨hm,hw⟩
 cases o' with
 | none=>
  have hn:wO d (d.tiers.length+1) o=none:=hw.symm
  rw [hn]
  (repeat' (first|refine Wz ?_|fail))
  all_goals (try exact oMw)
  exact rXw hM
 | some n=>
  have hmn:=hm n rfl
  have ca:=c134 d.tiers n.tier
  rw [wO] at hw
  cases hal:alB d.tiers n.tier with
  | true=>
   rw [hal] at ca
   rw [hal,if_pos rfl] at hw
   rw [← hw]
   (repeat' (first|refine cDw D8z ca ?_|refine Wz ?_|fail))
   all_goals (try exact oMw)
   exact rXw hM
  | false=>
   rw [hal] at ca
   rw [hal,if_neg (by simp)] at hw
   have cp:=n119 d n.parent
   rw [hsome] at cp
   have hm':∀ m,getN d.notes n.parent=some m→m∈d.notes:=fun m h=>(L8 h).1
   have hle:=G2r hg hm'
   have hlt:wM (getN d.notes n.parent)<wM (some n):=by
    cases hp:getN d.notes n.parent with
    | none=>simp [wM]
    | some m=>
     have hmm:=L8 hp
     have h3:=hg.up n hmn m hmm.1 hmm.2.symm
     have h4:=hg.tr m hmm.1
     simp only [wM];omega
   have hf:=C0c hg d.tiers.length (d.tiers.length+1) _ hm' hle (by omega)
   (repeat' (first|refine cDw D8z ca ?_|refine cDw O8 cp ?_|refine Wz ?_|fail))
   all_goals (try exact oMw)
   exact A0 (getN d.notes n.parent) ⟨hm',by rw [← hf];exact hw⟩ hlt
theorem c117 (d:Doc) (sp:List Spn) (id:Int) (hg:GD d) (hs:sp.length≤12):Fp Tryz.prog 117 [.g (docC d),spnD sp,dI id] (dB (Z8 d sp id)):=by
 unfold Z8
 obtain⟨o,ho⟩:∃ b,A6k d id=b:=⟨_,rfl⟩;have co:=c54 d id hg;rw [ho] at co;cases o
 ·rw [ho]
  refine fXw Tryz.func117 Tryz.ntmps117 fun c hM=>?_
  (repeat' (first|refine cDw en54 co ?_|refine Wz ?_|fail))
  all_goals (try exact oMw)
  exact rXw hM
 ·rename_i s
  rw [ho]
  refine fXw Tryz.func117 Tryz.ntmps117 fun c hM=>?_
  (repeat' (first|refine cDw en54 co ?_|refine cDw en57 (c57 sp s hs) ?_|refine Wz ?_|fail))
  all_goals (try exact oMw)
  exact rXw hM
end
section
open Go.RowKit Go.En Go.Dl Go.Tp
abbrev bT (x:Int):Ky × Dt:=(.i x,dB true)
theorem A1f (a:Int) (l:List Int) (x:Int):hasI (a::l) x=(decide (x=a)||hasI l x):=by unfold hasI;rfl
theorem N6 (x:Int):∀ ms:List Int,(mget (ms.map bT) (.i x)).getD (.v (.bool false))=dB (hasI ms x)
 | []=>rfl
 | a::r=>by
  rw [List.map_cons,mget,A1f]
  by_cases h:a=x
  ·subst h;simp
  ·rw [if_neg (by simpa using h),N6 x r,decide_eq_false (fun e=>h e.symm),Bool.false_or]
theorem B9d (x:Int):∀ ms:List Int,hasI ms x=false→mset (ms.map bT) (.i x) (dB true)=(ms++[x]).map bT
 | [],_=>rfl
 | a::r,h=>by
  rw [A1f,Bool.or_eq_false_iff] at h
  rw [List.map_cons,mset,if_neg (by simpa using fun e=>(of_decide_eq_false h.1) e.symm),B9d x r h.2];rfl
def S2 (d:Doc) (ms:List Int):Nat:=(d.notes.filter fun n=>!hasI ms n.id).length
theorem C9j (d:Doc) (ms:List Int) (x:Int):S2 d (ms++[x])≤S2 d ms:=by
 unfold S2
 induction d.notes with
 | nil=>exact Nat.le_refl _
 | cons g r ih=>
  rw [List.filter_cons,List.filter_cons,A0h]
  cases hasI ms g.id <;> cases decide (g.id=x) <;> simp <;> omega
theorem C9i {d : Doc} {ms : List Int} {n : Note} (hn : n ∈ d.notes) (hm : hasI ms n.id = false) : S2 d (ms ++ [n.id]) < S2 d ms := by
 unfold S2
 have key:∀ l:List Note,n∈l→(l.filter fun m=>!hasI (ms++[n.id]) m.id).length<(l.filter fun m=>!hasI ms m.id).length:=by
  intro l
  induction l with
  | nil=>intro h;cases h
  | cons g r ih=>
   intro h
   have hle:(r.filter fun m=>!hasI (ms++[n.id]) m.id).length≤(r.filter fun m=>!hasI ms m.id).length:=by
    clear ih h
    induction r with
    | nil=>exact Nat.le_refl _
    | cons g r ih=>
     rw [List.filter_cons,List.filter_cons,A0h]
     cases hasI ms g.id <;> cases decide (g.id=n.id) <;> simp <;> omega
   rw [List.filter_cons,List.filter_cons,A0h]
   by_cases hg:g.id=n.id
   ·rw [hg,hm];simp;omega
   ·have hr:n∈r:=by
     rcases List.mem_cons.1 h with e|e
     ·exact absurd (by rw [e]) hg
     ·exact e
    have:=ih hr
    rw [decide_eq_false hg,Bool.or_false]
    cases hasI ms g.id <;> simp <;> omega
 exact key _ hn
theorem B2a {d:Doc} {f:List Int→Int→List Int} (h:∀ ms x,S2 d (f ms x)≤S2 d ms):∀(l:List Int) (ms:List Int),S2 d (l.foldl f ms)≤S2 d ms
 | [],_=>Nat.le_refl _
 | x::r,ms=>Nat.le_trans (B2a h r (f ms x)) (h ms x)
theorem A1b (d : Doc) : ∀ (k : Nat) (ms : List Int) (id : Int), S2 d (N0 d k ms id) ≤ S2 d ms
 | 0,ms,id=>Nat.le_refl _
 | k + 1, ms, id => by
  rw [N0]
  cases getN d.notes id with
  | none=>exact Nat.le_refl _
  | some n=>
   dsimp only
   split
   ·exact Nat.le_refl _
   ·have h1:=Nat.le_trans (A1b d k (ms++[id]) n.parent) (C9j d ms id)
    split
    ·exact Nat.le_trans (B2a (A1b d k) _ _) h1
    ·exact h1
attribute [local irreducible] X XL XW XG XK Val LS Fp Fo Calls bodyPost Code.wp
abbrev marH (d:Doc) (ms:List Int):Hp:=[(1000,.box 62 ((docC d).map .d)),(1001,.box 115 [.m 1003]),(1002,.box 294 [.f (.func 191) [.p 1000 0 0,.p 1001 0 0,.p 1002 0 0] ]),(1003,.mp 0 (ms.map bT))]
def D2g (d:Doc) (k:Nat):Prop:=∀(ms:List Int) (id:Int),S2 d ms≤k→Fo Tryz.prog 191 [.d (dI id),.p 1000 0 0,.p 1001 0 0,.p 1002 0 0] (marH d ms) (.t []) (marH d (N0 d k ms id))
theorem B1a (d : Doc) (hg : GD d) (k : Nat) (ih : ∀ k', k = k' + 1 → D2g d k') : D2g d k := by
 intro ms id hf
 have cg:=n119 d id
 have hml:=N6 id ms
 cases hn:getN d.notes id with
 | none=>
  have hr:N0 d k ms id=ms:=by
   cases k with
   | zero=>rfl
   | succ k=>rw [N0,hn]
  rw [hr]
  rw [hn] at cg
  refine fo_X (n:=51) Tryz.func191 rfl Tryz.ntmps191 rfl fun c hM=>?_
  (repeat' (first|refine cDw O8 cg ?_|refine Wz ?_|fail))
  all_goals (try exact oMw)
  (first|exact A9 hM rfl rfl rfl tRw Z Z|exact C0 (A9 hM rfl rfl rfl tRw Z Z))
 | some n=>
  have hmem:=L8 hn
  rw [hn] at cg
  cases hh0:hasI ms id with
  | true=>
   have hr:N0 d k ms id=ms:=by
    cases k with
    | zero=>rfl
    | succ k=>rw [N0,hn];simp [hh0]
   rw [hr]
   rw [hh0] at hml
   refine fo_X (n:=51) Tryz.func191 rfl Tryz.ntmps191 rfl fun c hM=>?_
   (repeat' (first|refine cDw O8 cg ?_|refine G_x (B0 (ky:=.i (id)) rfl rfl rfl rfl rfl rfl rfl (by exact(hml))) rfl rfl ?_|refine Wz ?_|fail))
   all_goals (try exact oMw)
   (first|exact A9 hM rfl rfl rfl tRw Z Z|exact C0 (A9 hM rfl rfl rfl tRw Z Z))
  | false=>
   rw [hh0] at hml
   have hlt:=C9i hmem.1 (by rw [hmem.2];exact hh0)
   rw [hmem.2] at hlt
   obtain⟨k',rfl⟩:∃ k',k=k'+1:=⟨k-1,by omega⟩
   have hms:mset (ms.map bT) (.i id) (.v (.bool true))=(ms++[id]).map bT:=B9d id ms hh0
   have hfr:=A1b d k' (ms++[id]) n.parent
   have c1:=ih k' rfl (ms++[id]) n.parent (by omega)
   obtain⟨m1,hm1⟩:∃ m1,N0 d k' (ms++[id]) n.parent=m1:=⟨_,rfl⟩
   rw [hm1] at c1 hfr
   have htr:=hg.tr n hmem.1
   obtain⟨j,hj⟩:∃ j:Nat,n.tier=(j:Int):=⟨n.tier.toNat,by omega⟩
   obtain⟨ti,hti⟩:=gex (l:=d.tiers) (i:=j) (by omega)
   have hta:tAt d.tiers n.tier=ti:=by unfold tAt;rw [hj,Int.toNat_natCast,hti];rfl
   have hsp:N0 d (k'+1) ms id=if ti.kind=1 then (Q5 d n.parent n.tier).foldl (N0 d k') m1 else m1:=by
    rw [N0,hn]
    simp only [hh0,hta,hm1]
    rfl
   rw [hsp]
   by_cases hk1:ti.kind=1
   rotate_left
   ·rw [if_neg hk1]
    refine fo_X (n:=51) Tryz.func191 rfl Tryz.ntmps191 rfl fun c hM=>?_
    (repeat' (first|refine cDw O8 cg ?_|refine G_x (B0 (ky:=.i (id)) rfl rfl rfl rfl rfl rfl rfl (by exact(hml))) rfl rfl ?_|(refine G_s (M2 (ky:=.i (id)) rfl rfl rfl rfl rfl rfl rfl rfl) rfl rfl rfl ?_;rw [hms])|refine G_c (J9 [(1000,1000),(1001,1001),(1002,1002),(1003,1003)] (c1) rfl rfl rfl rfl rfl tRw C2l) rfl rfl rfl ?_|refine iDw (gm hti) ?_|refine Wz ?_|refine Wd (fun hh=>?_) fun hh=>?_))
    all_goals (try exact oMw)
    (first|exact A9 hM rfl rfl rfl tRw Z Z|exact C0 (A9 hM rfl rfl rfl tRw Z Z))
   rw [if_pos hk1]
   have ck:=c129 d n.parent n.tier hg
   obtain⟨S,hS⟩:∃ S,Q5 d n.parent n.tier=S:=⟨_,rfl⟩
   rw [hS] at ck ⊢
   refine fo_X (n:=51) Tryz.func191 rfl Tryz.ntmps191 rfl fun c hM=>?_
   (repeat' (first|refine cDw O8 cg ?_|refine G_x (B0 (ky:=.i (id)) rfl rfl rfl rfl rfl rfl rfl (by exact(hml))) rfl rfl ?_|(refine G_s (M2 (ky:=.i (id)) rfl rfl rfl rfl rfl rfl rfl rfl) rfl rfl rfl ?_;rw [hms])|refine G_c (J9 [(1000,1000),(1001,1001),(1002,1002),(1003,1003)] (c1) rfl rfl rfl rfl rfl tRw C2l) rfl rfl rfl ?_|refine iDw (gm hti) ?_|refine cDw B7f ck ?_|refine Wz ?_|refine Wb fun hb=>?_|refine Wd (fun hh=>?_) fun hh=>?_))
   all_goals (try exact oMw)
   refine X_lp (ι:=Nat × List Int) 2243003720663296 [1003] (fun s=>[(43,.d (dI s.1))]) (fun s=>[(1003,.mp 0 (s.2.map bT))]) (fun s=>s.1≤S.length∧S2 d s.2≤k'∧(S.drop s.1).foldl (N0 d k') s.2=S.foldl (N0 d k') m1) (fun s=>S.length-s.1) ((0,m1)) ?_ ?_
   ·exact⟨Nat.zero_le _,by dsimp only;omega,rfl⟩
   rintro⟨i,m⟩ ⟨hi,hfm,hfold⟩
   dsimp only at hi hfm hfold ⊢
   by_cases hlt2:i<S.length
   rotate_left
   ·rw [List.drop_eq_nil_of_le (by omega),List.foldl_nil] at hfold
    (repeat' (first|refine Wz ?_|refine Wd (fun hh=>?_) fun hh=>?_))
    all_goals (try exact oMw)
    rw [hfold]
    (first|exact A9 hM rfl rfl rfl tRw Z Z|exact C0 (A9 hM rfl rfl rfl tRw Z Z))
   obtain⟨x,hx⟩:=gex hlt2
   rw [drp hx,List.foldl_cons] at hfold
   have cr:=ih k' rfl m x hfm
   have hf2:=A1b d k' m x
   obtain⟨m2,hm2⟩:∃ m2,N0 d k' m x=m2:=⟨_,rfl⟩
   rw [hm2] at cr hf2 hfold
   (repeat' (first|refine iDw (gm hx) ?_|refine G_c (J9 [(1000,1000),(1001,1001),(1002,1002),(1003,1003)] (cr) rfl rfl rfl rfl rfl tRw C2l) rfl rfl rfl ?_|refine Wz ?_|refine Wd (fun hh=>?_) fun hh=>?_))
   all_goals (try exact oMw)
   exact A0 (i+1,m2) ⟨by dsimp only;omega,by dsimp only;omega,hfold⟩ (by dsimp only;omega) (hh':=hSw)
theorem c191 (d:Doc) (hg:GD d):∀ k,D2g d k
 | 0=>B1a d hg 0 fun _ h=>by cases h
 | k+1=>B1a d hg (k+1) fun k' h=>by cases h;exact c191 d hg k
end
section
open Go.RowKit Go.En Go.Dl Go.Tp
attribute [local irreducible] X XL XW XG XK Val LS Fp Fo Calls bodyPost Code.wp
theorem C4o (d:Doc) (ms:List Int):S2 d ms≤d.notes.length:=List.length_filter_le _ _
theorem c116 (d:Doc) (sp:List Spn) (hg:GD d) (hs:sp.length≤12):Fo Tryz.prog 116 [.g ((docC d).map .d),.d (spnD sp)] [] (.m 9) [(9,.mp 0 ((B1r d sp).map bT))]:=by
 obtain⟨f,hf⟩:∃ f:List Int→Note→List Int,f=fun ms n=>if Z8 d sp n.id then N0 d (d.notes.length) ms n.id else ms:=⟨_,rfl⟩
 have e:B1r d sp=d.notes.foldl f []:=by rw [hf];rfl
 rw [e]
 refine fo_X (n:=29) Tryz.func116 rfl Tryz.ntmps116 rfl fun c hM=>?_
 (repeat' (first|refine G_nd rfl rfl (Y2 _ 0 rfl) rfl ?_|refine Wz ?_|refine Wb fun hb=>?_))
 refine X_lp (ι:=Nat) 268419328 [9] (fun i=>[(14,.d (dI i))]) (fun i=>[(9,.mp 0 (((d.notes.take i).foldl f []).map bT))]) (fun i=>i≤d.notes.length) (fun i=>d.notes.length-i) (0) ?_ ?_
 ·exact Nat.zero_le _
 rintro i hi
 by_cases hlt:i<d.notes.length
 rotate_left
 ·have hz:i=d.notes.length:=by omega
  subst hz
  rw [List.take_length]
  (repeat' (first|refine Wz ?_|refine Wd (fun hh=>?_) fun hh=>?_))
  all_goals (try exact oMw)
  (first|exact A9 hM rfl rfl rfl tRw Z Z|exact C0 (A9 hM rfl rfl rfl tRw Z Z))
 obtain⟨n,hn⟩:=gex hlt
 have hst:=J8 (f:=f) (b:=[]) hn
 obtain⟨ms,hms⟩:∃ ms,(d.notes.take i).foldl f []=ms:=⟨_,rfl⟩
 rw [hms] at hst ⊢
 have cs:=c117 d sp n.id hg hs
 cases hb:Z8 d sp n.id with
 | false=>
  have hfn:f ms n=ms:=by rw [hf];simp [hb]
  rw [hfn] at hst
  rw [hb] at cs
  (repeat' (first|refine iDw (gm hn) ?_|refine cDw B7g cs ?_|refine Wz ?_|refine Wd (fun hh=>?_) fun hh=>?_))
  all_goals (try exact oMw)
  exact A0 (i+1) (by omega) (by omega) (hh:=A3 (by rw [hst];rfl) (A4 _))
 | true=>
  have hfn:f ms n=N0 d d.notes.length ms n.id:=by rw [hf];simp [hb]
  rw [hfn] at hst
  rw [hb] at cs
  have cm:=c191 d hg d.notes.length ms n.id (C4o d ms)
  obtain⟨m2,hm2⟩:∃ m2,N0 d d.notes.length ms n.id=m2:=⟨_,rfl⟩
  rw [hm2] at cm hst
  (repeat' (first|refine iDw (gm hn) ?_|refine cDw B7g cs ?_|refine G_c (J9 [(1000,2),(1001,5),(1002,6),(1003,9)] (cm) rfl rfl rfl rfl rfl tRw C2l) rfl rfl rfl ?_|refine Wz ?_|refine Wd (fun hh=>?_) fun hh=>?_))
  all_goals (try exact oMw)
  exact A0 (i+1) (by omega) (by omega) (hh:=A3 (by rw [hst];rfl) (A4 _)) (hh':=hSw)
theorem c43 (d:Doc) (sp:List Spn) (hg:GD d) (hs:sp.length≤12):Fp Tryz.prog 43 [.g (docC d),spnD sp] (.g (docC (redF d sp))):=by
 have ck:=c116 d sp hg hs
 have hnn:=hg.nn
 unfold redF
 obtain⟨K,hK⟩:∃ K,B1r d sp=K:=⟨_,rfl⟩
 rw [hK] at ck ⊢
 obtain⟨p,hp⟩:∃ p:Note→Bool,p=fun n=>hasI K n.id:=⟨_,rfl⟩
 rw [← hp]
 refine fXw Tryz.func43 Tryz.ntmps43 fun c hM=>?_
 (repeat' (first|refine G_c (B5 [(9,11)] (ck) rfl rfl rfl rfl tRw G8j) rfl rfl rfl ?_|refine Wz ?_|refine Wb fun hb=>?_))
 refine A1m 6 6 901 142 7 rfl rfl rfl rfl rfl ?_
 refine X_lp (ι:=Nat × Nat) 8796091973888 [6,901] (fun s=>[(20,.d (dI s.1))]) (fun s=>[(6,.box 62 [.d (dI d.rc.id),.d (dS d.rc.name),.d (dI d.rc.len),.d (dI d.rc.day),.d (ints d.rc.sp),.d (.s 4 (d.tiers.map V6)),.o 901 s.2]),(901,.ls 142 7 s.2 ((((d.notes.take s.1).filter p).map (redN d sp)).map D0))]) (fun s=>s.1≤d.notes.length) (fun s=>d.notes.length-s.1) ((0,0)) ?_ ?_
 ·exact Nat.zero_le _
 rintro⟨i,v⟩ hi
 dsimp only at hi ⊢
 by_cases hlt:i<d.notes.length
 rotate_left
 ·have hz:i=d.notes.length:=by omega
  subst hz
  rw [List.take_length]
  have hfl:=List.length_filter_le p d.notes
  (repeat' ((fail_if_success (refine J1 (x:=(Code.region 11 _ _)) ?_));first|refine Wz ?_|refine Wd (fun hh=>?_) fun hh=>?_))
  all_goals (try exact oMw)
  refine T4 6 6 rfl rfl rfl (by rw [List.length_map,List.length_map];omega) ?_
  (repeat' (first|refine Wz ?_|fail))
  exact rXw hM
 obtain⟨n,hn⟩:=gex hlt
 have hml:=N6 n.id K
 have hpn:p n=hasI K n.id:=by rw [hp]
 rw [← hpn] at hml
 have hle:((d.notes.take i).filter p).length≤14:=Nat.le_trans (List.length_filter_le _ _) (by rw [List.length_take];omega)
 cases hb:p n with
 | false=>
  rw [hb] at hml
  (repeat' (first|refine iDw (gm hn) ?_|refine G_x (B0 (ky:=.i (n.id)) rfl rfl rfl rfl rfl rfl rfl (by exact(hml))) rfl rfl ?_|refine Wz ?_|refine Wd (fun hh=>?_) fun hh=>?_))
  all_goals (try exact oMw)
  exact A0 (i+1,v) (by dsimp only;omega) (by dsimp only;omega) (hh:=A3 rfl (A3 (by dsimp only;rw [G3 hn hb];rfl) (A4 _)))
 | true=>
  rw [hb] at hml
  have cs:=c117 d sp n.id hg hs
  have hrow:(((d.notes.take (i+1)).filter p).map (redN d sp)).map D0=(((d.notes.take i).filter p).map (redN d sp)).map D0++[D0 (redN d sp n)]:=by rw [G1 hn hb];simp
  cases hb2:Z8 d sp n.id with
  | true=>
   have hr:redN d sp n=n:=by unfold redN;rw [hb2];rfl
   rw [hr] at hrow
   rw [hb2] at cs
   (repeat' (first|refine iDw (gm hn) ?_|refine G_x (B0 (ky:=.i (n.id)) rfl rfl rfl rfl rfl rfl rfl (by exact(hml))) rfl rfl ?_|refine cDw B7g cs ?_|refine Wz ?_|refine Wd (fun hh=>?_) fun hh=>?_))
   all_goals (try exact oMw)
   exact A0 (i+1,v+1) (by dsimp only;omega) (by dsimp only;omega) (hh:=A3 rfl (A3 (by dsimp only;rw [hrow];rfl) (A4 _)))
  | false=>
   have hr:redN d sp n={ n with text:=[] }:=by unfold redN;rw [hb2];rfl
   rw [hr] at hrow
   rw [hb2] at cs
   (repeat' (first|refine iDw (gm hn) ?_|refine G_x (B0 (ky:=.i (n.id)) rfl rfl rfl rfl rfl rfl rfl (by exact(hml))) rfl rfl ?_|refine cDw B7g cs ?_|refine Wz ?_|refine Wd (fun hh=>?_) fun hh=>?_))
   all_goals (try exact oMw)
   exact A0 (i+1,v+1) (by dsimp only;omega) (by dsimp only;omega) (hh:=A3 rfl (A3 (by dsimp only;rw [hrow];rfl) (A4 _)))
end
section
open Go.RowKit Go.En Go.Dl Go.Tp
attribute [local irreducible] X XL XW XG XK Val LS Fp Fo Calls bodyPost Code.wp
theorem c252 (e:Pers) (id:Int):Fo Tryz.prog 252 [.g ((L2 e).map .d),.p 1000 0 0] [(1000,.box 3 [.d (dI id)])] (.d (dB (decide (e.id=id)))) [(1000,.box 3 [.d (dI id)])]:=by
 refine fo_X (n:=8) Tryz.func252 rfl Tryz.ntmps252 rfl fun c hM=>?_
 (repeat' (first|refine Wz ?_|refine Wd (fun hh=>?_) fun hh=>?_))
 ·rw [decide_eq_true hh];exact A9 hM rfl rfl rfl ⟨rfl,trivial⟩ rfl rfl
 ·rw [decide_eq_false hh];exact A9 hM rfl rfl rfl ⟨rfl,trivial⟩ rfl rfl
theorem c251 (l:List Pers) (id:Int):Fo Tryz.prog 251 [.d (.s 3 (l.map L2)),.f (.func 252) [.p 1000 0 0] ] [(1000,.box 3 [.d (dI id)])] (.d (dI (ixF (fun e=>decide (e.id=id)) l 0))) [(1000,.box 3 [.d (dI id)])]:=by
 refine fo_X (n:=19) Tryz.func251 rfl Tryz.ntmps251 rfl fun c hM=>?_
 (repeat' (first|refine Wz ?_|refine Wb fun hb=>?_))
 refine X_lp (ι:=Nat) 524080 [] (fun i=>[(8,.d (dI i))]) (fun _=>[]) (fun i=>i≤l.length∧ixF (fun x=>decide (x.id=id)) l 0=ixF (fun x=>decide (x.id=id)) (l.drop i) i) (fun i=>l.length-i) (0) ?_ ?_
 ·exact⟨Nat.zero_le _,rfl⟩
 rintro i ⟨hi,hq⟩
 by_cases hlt:i<l.length
 ·obtain⟨n,hn⟩:=gex hlt
  have cl:=c252 n id
  by_cases he:n.id=id
  ·rw [decide_eq_true he] at cl
   (repeat' (first|refine iDw (gm hn) ?_|refine G_c (J9 [(1000,1000)] (cl) rfl rfl rfl rfl rfl tRw D7y) rfl rfl rfl ?_|refine Wz ?_|refine Wd (fun hh=>?_) fun hh=>?_))
   all_goals (try exact oMw)
   rw [hq,drp hn,ixF,if_pos (by simp [*])]
   exact A9 hM rfl rfl rfl ⟨rfl,trivial⟩ rfl rfl
  ·rw [decide_eq_false he] at cl
   (repeat' (first|refine iDw (gm hn) ?_|refine G_c (J9 [(1000,1000)] (cl) rfl rfl rfl rfl rfl tRw D7y) rfl rfl rfl ?_|refine Wz ?_|refine Wd (fun hh=>?_) fun hh=>?_))
   all_goals (try exact oMw)
   exact A0 (i+1) ⟨by omega,by rw [hq,drp hn,ixF,if_neg (by simp [*])];rfl⟩ (by omega)
 ·(repeat' (first|refine Wz ?_|refine Wd (fun hh=>?_) fun hh=>?_))
  all_goals (try exact oMw)
  rw [hq,List.drop_eq_nil_of_le (by omega)]
  exact A9 hM rfl rfl rfl ⟨rfl,trivial⟩ rfl rfl
theorem c204 (l:List Pers) (id:Int):Fp Tryz.prog 204 [.s 3 (l.map L2),dI id] (fRes L2 C7j (perF l id)):=by
 refine fXw Tryz.func204 Tryz.ntmps204 fun c hM=>?_
 have hx:=Q8 (fun e=>decide (e.id=id)) l 0
 unfold perF
 rcases hx with⟨h1,h2⟩|⟨i,x,h1,h2,h3⟩
 ·have cl:=c251 l id
  rw [show ixF (fun e=>decide (e.id=id)) l 0 = -1 from h1] at cl
  rw [h2]
  (repeat' (first|refine G_c (B5 [(1000,3)] (cl) rfl rfl rfl rfl tRw D7z) rfl rfl rfl ?_|refine Wz ?_|refine Wd (fun hh=>?_) fun hh=>?_))
  all_goals (try exact oMw)
  exact rXw hM
 ·have cl:=c251 l id
  rw [Nat.zero_add] at h1
  rw [show ixF (fun e=>decide (e.id=id)) l 0=(i:Int) from h1] at cl
  rw [h3]
  (repeat' (first|refine G_c (B5 [(1000,3)] (cl) rfl rfl rfl rfl tRw D7z) rfl rfl rfl ?_|refine iDw (gm h2) ?_|refine Wz ?_|refine Wd (fun hh=>?_) fun hh=>?_))
  all_goals (try exact oMw)
  exact rXw hM
end
section
open Go.RowKit Go.En Go.Dl Go.Tp
def grp0:Grp:=⟨0,[],[],[]⟩
def N1 (l:List Grp) (met:List Int):Nat:=(l.filter fun g=>!hasI met g.id).length
def visF (l:List Grp) (n:Nat) (met:List Int) (sub:Int):List Int:=if (grpF l sub).isSome&&!hasI met sub then (match n with|0=>met|n+1=>visG l n (met++[sub]) sub) else met
def B5q (l:List Grp) (id:Int):List Int:=match grpF l id with|some g=>g.subs|none=>[]
theorem B1y {α β:Type} (b:β):∀ l:List α,l.foldl (fun b _=>b) b=b
 | []=>rfl
 | _::r=>B1y b r
theorem B2w (l:List Grp) (n:Nat) (met:List Int) (id:Int):visG l n met id=(B5q l id).foldl (visF l n) met:=by
 cases n with
 | zero=>
  rw [visG]
  have:visF l 0=fun met _=>met:=by
   funext met sub
   unfold visF
   split <;> rfl
  rw [this,B1y]
 | succ n=>
  rw [visG];rfl
theorem A8d (l:List Grp) (met:List Int) (x:Int):N1 l (met++[x])≤N1 l met:=by
 unfold N1
 induction l with
 | nil=>exact Nat.le_refl _
 | cons g r ih=>
  rw [List.filter_cons,List.filter_cons,A0h]
  cases hasI met g.id <;> cases decide (g.id=x) <;> simp <;> omega
theorem A8c {l : List Grp} {met : List Int} {x : Int} (hx : (grpF l x).isSome = true) (hm : hasI met x = false) : N1 l (met ++ [x]) < N1 l met := by
 unfold N1
 induction l with
 | nil=>simp [grpF] at hx
 | cons g r ih=>
  have hle:=A8d r met x
  unfold N1 at hle
  rw [List.filter_cons,List.filter_cons,A0h]
  by_cases hg:g.id=x
  ·subst hg
   simp [hm];omega
  ·have hx':(grpF r x).isSome=true:=by
    unfold grpF at hx ⊢
    rw [List.find?_cons_of_neg (by simpa using hg)] at hx
    exact hx
   have:=ih hx'
   have hd:decide (g.id=x)=false:=decide_eq_false hg
   rw [hd,Bool.or_false]
   cases hasI met g.id <;> simp <;> omega
theorem C5l (l:List Grp):∀(n:Nat) (met:List Int) (id:Int),N1 l (visG l n met id)≤N1 l met:=by
 intro n
 induction n with
 | zero=>intro met id;rw [visG];exact Nat.le_refl _
 | succ n ih=>
  intro met id
  rw [B2w]
  generalize B5q l id=q
  induction q generalizing met with
  | nil=>exact Nat.le_refl _
  | cons x r ih2=>
   rw [List.foldl_cons]
   refine Nat.le_trans (ih2 _) ?_
   unfold visF
   split
   ·exact Nat.le_trans (ih _ _) (A8d _ _ _)
   ·exact Nat.le_refl _
theorem C3r (l:List Grp) (n:Nat) (met:List Int) (x:Int):N1 l (visF l n met x)≤N1 l met:=by
 unfold visF
 split
 ·cases n with
  | zero=>exact Nat.le_refl _
  | succ n=>exact Nat.le_trans (C5l l n _ _) (A8d _ _ _)
 ·exact Nat.le_refl _
theorem A5y {l:List Grp} {n:Nat} {m:List Int} {x:Int} (h:((grpF l x).isSome&&!hasI m x)=false):visF l n m x=m:=by
 unfold visF;rw [h];rfl
theorem A6l {l:List Grp} {n:Nat} {m:List Int} {x:Int} (h:((grpF l x).isSome&&!hasI m x)=true):visF l (n+1) m x=visG l n (m++[x]) x:=by
 unfold visF;rw [h];rfl
theorem B2v (l : List Grp) : ∀ (n : Nat) (met : List Int) (id : Int), (visG l n met id).length + N1 l (visG l n met id) ≤ met.length + N1 l met := by
 intro n
 induction n with
 | zero=>intro met id;rw [visG];exact Nat.le_refl _
 | succ n ih=>
  intro met id
  rw [B2w]
  generalize B5q l id=q
  induction q generalizing met with
  | nil=>exact Nat.le_refl _
  | cons x r ih2=>
   rw [List.foldl_cons]
   refine Nat.le_trans (ih2 _) ?_
   cases h:((grpF l x).isSome&&!hasI met x) with
   | false=>rw [A5y h];exact Nat.le_refl _
   | true=>
    rw [A6l h]
    rw [Bool.and_eq_true] at h
    have h1:=A8c h.1 (by simpa using h.2)
    have h2:=ih (met++[x]) x
    rw [List.length_append] at h2
    simp at h2
    omega
theorem C5m (l:List Grp) (n:Nat) (met:List Int) (x:Int):(visF l n met x).length+N1 l (visF l n met x)≤met.length+N1 l met:=by
 cases h:((grpF l x).isSome&&!hasI met x) with
 | false=>rw [A5y h];exact Nat.le_refl _
 | true=>
  have h':=h
  rw [Bool.and_eq_true] at h'
  have h1:=A8c h'.1 (by simpa using h'.2)
  cases n with
  | zero=>
   have:visF l 0 met x=met:=by unfold visF;split <;> rfl
   rw [this];exact Nat.le_refl _
  | succ n=>
   rw [A6l h]
   have h2:=B2v l n (met++[x]) x
   rw [List.length_append] at h2
   simp at h2
   omega
attribute [local irreducible] X XL XW XG XK Val LS Fp Fo Calls bodyPost Code.wp
theorem c335 (e:Grp) (id:Int):Fo Tryz.prog 335 [.g ((grpC e).map .d),.p 1000 0 0] [(1000,.box 3 [.d (dI id)])] (.d (dB (decide (e.id=id)))) [(1000,.box 3 [.d (dI id)])]:=by
 refine fo_X (n:=8) Tryz.func335 rfl Tryz.ntmps335 rfl fun c hM=>?_
 (repeat' (first|refine Wz ?_|refine Wd (fun hh=>?_) fun hh=>?_))
 ·rw [decide_eq_true hh];exact A9 hM rfl rfl rfl ⟨rfl,trivial⟩ rfl rfl
 ·rw [decide_eq_false hh];exact A9 hM rfl rfl rfl ⟨rfl,trivial⟩ rfl rfl
theorem c334 (l:List Grp) (id:Int):Fo Tryz.prog 334 [.d (.s 4 (l.map grpC)),.f (.func 335) [.p 1000 0 0] ] [(1000,.box 3 [.d (dI id)])] (.d (dI (ixF (fun e=>decide (e.id=id)) l 0))) [(1000,.box 3 [.d (dI id)])]:=by
 refine fo_X (n:=19) Tryz.func334 rfl Tryz.ntmps334 rfl fun c hM=>?_
 (repeat' (first|refine Wz ?_|refine Wb fun hb=>?_))
 refine X_lp (ι:=Nat) 524080 [] (fun i=>[(8,.d (dI i))]) (fun _=>[]) (fun i=>i≤l.length∧ixF (fun x=>decide (x.id=id)) l 0=ixF (fun x=>decide (x.id=id)) (l.drop i) i) (fun i=>l.length-i) (0) ?_ ?_
 ·exact⟨Nat.zero_le _,rfl⟩
 rintro i ⟨hi,hq⟩
 by_cases hlt:i<l.length
 ·obtain⟨n,hn⟩:=gex hlt
  have cl:=c335 n id
  by_cases he:n.id=id
  ·rw [decide_eq_true he] at cl
   (repeat' (first|refine iDw (gm hn) ?_|refine G_c (J9 [(1000,1000)] (cl) rfl rfl rfl rfl rfl tRw D7n) rfl rfl rfl ?_|refine Wz ?_|refine Wd (fun hh=>?_) fun hh=>?_))
   all_goals (try exact oMw)
   rw [hq,drp hn,ixF,if_pos (by simp [*])]
   exact A9 hM rfl rfl rfl ⟨rfl,trivial⟩ rfl rfl
  ·rw [decide_eq_false he] at cl
   (repeat' (first|refine iDw (gm hn) ?_|refine G_c (J9 [(1000,1000)] (cl) rfl rfl rfl rfl rfl tRw D7n) rfl rfl rfl ?_|refine Wz ?_|refine Wd (fun hh=>?_) fun hh=>?_))
   all_goals (try exact oMw)
   exact A0 (i+1) ⟨by omega,by rw [hq,drp hn,ixF,if_neg (by simp [*])];rfl⟩ (by omega)
 ·(repeat' (first|refine Wz ?_|refine Wd (fun hh=>?_) fun hh=>?_))
  all_goals (try exact oMw)
  rw [hq,List.drop_eq_nil_of_le (by omega)]
  exact A9 hM rfl rfl rfl ⟨rfl,trivial⟩ rfl rfl
theorem c315 (l:List Grp) (id:Int):Fp Tryz.prog 315 [.s 4 (l.map grpC),dI id] (fRes grpC grp0 (grpF l id)):=by
 refine fXw Tryz.func315 Tryz.ntmps315 fun c hM=>?_
 have hx:=Q8 (fun e=>decide (e.id=id)) l 0
 unfold grpF
 rcases hx with⟨h1,h2⟩|⟨i,x,h1,h2,h3⟩
 ·have cl:=c334 l id
  rw [show ixF (fun e=>decide (e.id=id)) l 0 = -1 from h1] at cl
  rw [h2]
  (repeat' (first|refine G_c (B5 [(1000,3)] (cl) rfl rfl rfl rfl tRw D7o) rfl rfl rfl ?_|refine Wz ?_|refine Wd (fun hh=>?_) fun hh=>?_))
  all_goals (try exact oMw)
  exact rXw hM
 ·have cl:=c334 l id
  rw [Nat.zero_add] at h1
  rw [show ixF (fun e=>decide (e.id=id)) l 0=(i:Int) from h1] at cl
  rw [h3]
  (repeat' (first|refine G_c (B5 [(1000,3)] (cl) rfl rfl rfl rfl tRw D7o) rfl rfl rfl ?_|refine iDw (gm h2) ?_|refine Wz ?_|refine Wd (fun hh=>?_) fun hh=>?_))
  all_goals (try exact oMw)
  exact rXw hM
abbrev visH (l:List Grp) (met:List Int):Hp:=[(1000,.box 41 [.d (.s 4 (l.map grpC))]),(1001,.box 31 [.o 1003 met.length]),(1002,.box 294 [.f (.func 333) [.p 1000 0 0,.p 1001 0 0,.p 1002 0 0] ]),(1003,.ls 3 1 met.length (met.map iC))]
def VisC (l:List Grp) (n:Nat):Prop:=∀(met:List Int) (id:Int),N1 l met≤n→met.length+N1 l met≤1000000→Fo Tryz.prog 333 [.d (dI id),.p 1000 0 0,.p 1001 0 0,.p 1002 0 0] (visH l met) (.t []) (visH l (visG l n met id))
theorem B4w (l:List Grp) (n:Nat) (ih:∀ n',n=n'+1→VisC l n'):VisC l n:=by
 intro met id hf hml
 rw [B2w]
 have cg:=c315 l id
 obtain⟨o,ho⟩:∃ o,grpF l id=o:=⟨_,rfl⟩
 obtain⟨g,hg⟩:∃ g,o.getD grp0=g:=⟨_,rfl⟩
 obtain⟨z,hz⟩:∃ z,o.isSome=z:=⟨_,rfl⟩
 have hS:B5q l id=g.subs:=by unfold B5q;rw [ho,← hg];cases o <;> rfl
 have hsome:fRes grpC grp0 o=.t [.g (grpC g),dB z]:=by rw [← hg,← hz];cases o <;> rfl
 rw [ho,hsome] at cg
 rw [hS]
 refine fo_X (n:=45) Tryz.func333 rfl Tryz.ntmps333 rfl fun c hM=>?_
 (repeat' (first|refine cDw B7c cg ?_|refine Wz ?_|refine Wb fun hb=>?_))
 refine X_lp (ι:=Nat × List Int) 35184371042048 [1001,1003] (fun s=>[(20,.d (dI s.1))]) (fun s=>[(1001,.box 31 [.o 1003 s.2.length]),(1003,.ls 3 1 s.2.length (s.2.map iC))]) (fun s=>s.1≤g.subs.length∧N1 l s.2≤n∧s.2.length+N1 l s.2≤met.length+N1 l met∧(g.subs.drop s.1).foldl (visF l n) s.2=g.subs.foldl (visF l n) met) (fun s=>g.subs.length-s.1) ((0,met)) ?_ ?_
 ·exact⟨Nat.zero_le _,hf,Nat.le_refl _,rfl⟩
 rintro⟨i,m⟩ ⟨hi,hfm,hlm,hfold⟩
 dsimp only at hi hfm hlm hfold ⊢
 by_cases hlt:i<g.subs.length
 rotate_left
 ·rw [List.drop_eq_nil_of_le (by omega),List.foldl_nil] at hfold
  (repeat' (first|refine Wz ?_|refine Wd (fun hh=>?_) fun hh=>?_))
  all_goals (try exact oMw)
  rw [hfold]
  (first|exact A9 hM rfl rfl rfl tRw Z Z|exact C0 (A9 hM rfl rfl rfl tRw Z Z))
 obtain⟨x,hx⟩:=gex hlt
 rw [drp hx,List.foldl_cons] at hfold
 have cx:=c315 l x
 have chx:=c190 m x
 have hvf:=C3r l n m x
 have hvl:=C5m l n m x
 obtain⟨o2,ho2⟩:∃ o,grpF l x=o:=⟨_,rfl⟩
 obtain⟨g2,hg2⟩:∃ g,o2.getD grp0=g:=⟨_,rfl⟩
 obtain⟨b,hb⟩:∃ b,hasI m x=b:=⟨_,rfl⟩
 have hsome2:fRes grpC grp0 o2=.t [.g (grpC g2),dB o2.isSome]:=by rw [← hg2];cases o2 <;> rfl
 rw [ho2,hsome2] at cx
 have hlen:m.length≤1000000:=by omega
 rw [hb] at chx
 cases hz2:o2.isSome with
 | false=>
  rw [hz2] at cx
  have hm:visF l n m x=m:=A5y (by rw [ho2,hz2];rfl)
  rw [hm] at hfold
  (repeat' (first|refine iDw (gm hx) ?_|refine cDw B7c cx ?_|refine Wz ?_|refine Wd (fun hh=>?_) fun hh=>?_))
  all_goals (try exact oMw)
  exact A0 (i+1,m) ⟨by dsimp only;omega,hfm,hlm,hfold⟩ (by dsimp only;omega)
 | true=>
  rw [hz2] at cx
  cases b with
  | true=>
   have hm:visF l n m x=m:=A5y (by rw [ho2,hb,hz2];rfl)
   rw [hm] at hfold
   (repeat' (first|refine iDw (gm hx) ?_|refine cDw B7c cx ?_|refine G_x (A0e (xs:=[ints m,dI x]) [1003] rfl rfl ⟨_,_,rfl,⟨by simp,3,1,_,rfl,rfl,by rw [List.length_map];omega⟩,⟨_,_,rfl,rfl,rfl⟩⟩ rfl A8o chx) rfl rfl ?_|refine Wz ?_|refine Wd (fun hh=>?_) fun hh=>?_))
   all_goals (try exact oMw)
   exact A0 (i+1,m) ⟨by dsimp only;omega,hfm,hlm,hfold⟩ (by dsimp only;omega)
  | false=>
   have hlt2:=A8c (l:=l) (met:=m) (x:=x) (by rw [ho2,hz2]) hb
   obtain⟨n',rfl⟩:∃ n',n=n'+1:=⟨n-1,by omega⟩
   have hm:visF l (n'+1) m x=visG l n' (m++[x]) x:=A6l (by rw [ho2,hb,hz2];rfl)
   rw [hm] at hfold hvf hvl
   have cr:=ih n' rfl (m++[x]) x (by omega) (by rw [List.length_append];simp;omega)
   obtain⟨m2,hm2⟩:∃ m2,visG l n' (m++[x]) x=m2:=⟨_,rfl⟩
   rw [hm2] at cr hfold hvf hvl
   simp only [visH,List.length_append,List.map_append,List.length_cons,List.length_nil,Nat.zero_add] at cr
   (repeat' (first|refine iDw (gm hx) ?_|refine cDw B7c cx ?_|refine G_x (A0e (xs:=[ints m,dI x]) [1003] rfl rfl ⟨_,_,rfl,⟨by simp,3,1,_,rfl,rfl,by rw [List.length_map];omega⟩,⟨_,_,rfl,rfl,rfl⟩⟩ rfl A8o chx) rfl rfl ?_|refine G_c (J9 [(1000,1000),(1001,1001),(1002,1002),(1003,1003)] (cr) rfl rfl rfl rfl rfl tRw D7p) rfl rfl rfl ?_|refine Wz ?_|refine Wd (fun hh=>?_) fun hh=>?_))
   all_goals (try exact oMw)
   exact A0 (i+1,m2) ⟨by dsimp only;omega,by dsimp only;omega,by dsimp only;omega,hfold⟩ (by dsimp only;omega)
theorem c333 (l:List Grp):∀ n,VisC l n
 | 0=>B4w l 0 fun _ h=>by cases h
 | n+1=>B4w l (n+1) fun n' h=>by cases h;exact c333 l n
end
section
open Go.RowKit Go.En Go.Dl Go.Tp
attribute [local irreducible] X XL XW XG XK Val LS Fp Fo Calls bodyPost Code.wp
theorem c136 (a:Rgts) (id:Int):Fp Tryz.prog 136 [.g (Z2 a),dI id] (dB (mbrB a.people id)):=by
 unfold mbrB
 obtain⟨e,he⟩:∃ b,perF a.people id=b:=⟨_,rfl⟩;have ce:=c204 a.people id;rw [he] at ce;cases e
 all_goals (
  refine fXw Tryz.func136 Tryz.ntmps136 fun c hM=>?_
  (repeat' (first|refine cDw D8j ce ?_|refine Wz ?_|fail))
  all_goals (try exact oMw)
  all_goals (refine rEw hM ?_;rw [he];rfl))
end
end Go.Proofs.YtojadfppncgphaaGreatDoor