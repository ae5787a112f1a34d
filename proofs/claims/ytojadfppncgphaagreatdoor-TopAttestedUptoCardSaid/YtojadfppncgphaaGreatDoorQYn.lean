/- Own text. -/
import Derived.Test.YtojadfppncgphaaGreatDoorQYm
set_option linter.all false
set_option maxHeartbeats 16000000
set_option maxRecDepth 8000
namespace Go.Proofs.YtojadfppncgphaaGreatDoor
section
open Go.RowKit Go.En Go.Dl Go.Tp
attribute [local irreducible] X XL XW XG XK Val LS Fp Fo Calls bodyPost Code.wp
def ptD:Option (List Nat)→Dt
 | none=>.t [ints [],dB false]
 | some l=>.t [ints (natI l),dB true]
theorem c223 (s:Tx)(hs:s.length≤1048576):Fp Tryz.prog 223 [dS s] (ptD (points s)):=by
 refine fXw Tryz.func223 Tryz.ntmps223 fun c hM=>?_
 (repeat' ((fail_if_success (refine H7 (x:=(Code.block 0 _)) ?_));first|refine Wz ?_|fail))
 refine D0 4 4 3 1 Z Z ?_
 (repeat' (first|refine Wz ?_|fail))
 refine X_lp (ι:=Nat × Nat × List Nat) 134217724 [] (fun q=>[(4,.o 4 q.2.1),(5,.d (dI q.1))]) (fun q=>[(4,.ls 3 1 q.2.1 ((natI q.2.2).map iC))]) (fun q=>q.1≤s.length∧q.2.2.length≤q.1∧points s=(points (s.drop q.1)).map (q.2.2++·)) (fun q=>s.length-q.1) ((0,0,[])) ?_ ?_
 ·refine⟨zLw,Nat.le_refl _,?_⟩
  show points s=(points s).map _
  cases points s <;> rfl
 rintro⟨i,ver,acc⟩ ⟨hi,ha,hq⟩
 dsimp only at hi ha hq
 have hal:(natI acc).length=acc.length:=List.length_map ..
 by_cases hlt:i<s.length
 ·have hd:s.drop i≠[]:=by intro h;have:=congrArg List.length h;rw [List.length_drop] at this;simp at this;omega
  have c2:=c265 s i hlt hs
  rw [B7s hd] at hq
  cases hf:N4 (s.drop i) with
  | none=>
   rw [hf] at hq
   rw [show fR (s.drop i)=(-1,0) by unfold fR;rw [hf]] at c2
   (repeat' (first|refine cDw G0m c2 ?_|refine Wz ?_|apply Wd <;>intro hh))
   all_goals (try exact oMw)
   rw [hq]
   exact rXw hM
  | some r=>
   obtain⟨p,k⟩:=r
   rw [hf] at hq
   rw [show fR (s.drop i)=((p:Int),(k:Int)) by unfold fR;rw [hf]] at c2
   have hk:=A1a hf
   rw [List.length_drop] at hk
   dsimp only at hq
   (repeat' (first|refine cDw G0m c2 ?_|refine Wz ?_|apply Wd <;>intro hh))
   all_goals (try exact oMw)
   refine A0 (i+k,ver+1,acc++[p]) ⟨oDw,by simp;omega,?_⟩ (oDw) (hh:=A1 (by show some _=some _;simp [natI,iC,dI]) (A4 _))
   rw [hq,List.drop_drop]
   cases points (s.drop (i+k)) <;> simp
 ·(repeat' (first|refine Wz ?_|apply Wd <;>intro hh))
  all_goals (try exact oMw)
  rw [hq,List.drop_eq_nil_of_le oEw,C0z]
  refine B9 2 Z Z lOw ?_
  simp only [Option.map_some,List.append_nil]
  exact rXw hM
theorem q4S {p:Prop}(h:p:=by first|(simp [one1, *,dB,dI,dS,List.anyB,List.allB,H2,ctlB];done)|(simp_all [one1,dB,dI,dS,List.anyB,List.allB,H2,ctlB];done)|(simp_all [one1,dB,dI,dS,List.anyB,List.allB,H2,ctlB];omega)):p:=h
theorem c149 (s:Tx)(hs:s.length≤1048576):Fp Tryz.prog 149 [dS s] (dB (H2 s)):=by
 have c2:=c223 s hs
 obtain⟨ps,hps⟩:∃ ps,points s=ps:=⟨_,rfl⟩
 rw [hps] at c2
 refine fXw Tryz.func149 Tryz.ntmps149 fun c hM=>?_
 (repeat' (first|refine Wz ?_|fail))
 refine X_lp (ι:=Nat) 4194252 [] (fun i=>[(3,.d (dI i))]) (fun _=>[]) (fun i=>i≤(s).length∧(fun _ l=>l.anyB ctlB) 0 (s)=(fun _ l=>l.anyB ctlB) i ((s).drop i)) (fun i=>(s).length-i) (0) ?_ ?_
 ·exact⟨zLw,rfl⟩
 rintro i ⟨hi,hq⟩
 by_cases hlt:i<(s).length
 rotate_left
 ·have hz:i=(s).length:=oEw
  subst hz
  rw [List.drop_eq_nil_of_le (Nat.le_refl _)] at hq
  try dsimp only at hq
  cases ps <;>((repeat' (first|refine G_x (A3 Z Z Z D2k (c2)) Z Z ?_|refine Wz ?_|apply Wd <;>intro hh));all_goals (try exact oMw);all_goals (refine rEw hM ?_;simp [H2,one1, *,dB,List.anyB]))
 obtain⟨n,hn⟩:=gex hlt
 obtain⟨pv,hp⟩:=gex (l:=s) (i:=i-1) oEw
 have hpr:=B6 hp
 have hmem:=List.mem_of_getElem? hn
 rw [drp hn] at hq
 try dsimp only at hq
 all_goals (repeat' (first|refine G_x (A7 fun _=>D8 (m:=i) Z Z Z (by first|rfl|omega) hn) Z Z ?_|refine Wz ?_|apply Wd <;>intro hh))
 all_goals (try exact oMw)
 all_goals first
  | exact A0 (i+1) ⟨oEw,by(try dsimp only);rw [hq];exact q4S⟩ oEw
  | (refine rEw hM ?_;(try rw [hq]);exact q4S)
theorem q5S {p:Prop}(h:p:=by first|(simp [one1, *,dB,dI,dS,List.anyB,List.allB];done)|(simp_all [one1,dB,dI,dS,List.anyB,List.allB];done)|(simp_all [one1,dB,dI,dS,List.anyB,List.allB];omega)):p:=h
theorem c152 (s:Tx)(hs:s.length≤1048576):Fp Tryz.prog 152 [dS s] ((fun _ l=>dB (!(l.anyB fun c=>decide ((c.toNat:Int)=32))&&H2 s)) 0 s):=by
 refine fXw Tryz.func152 Tryz.ntmps152 fun c hM=>?_
 (repeat' (first|refine Wz ?_|fail))
 refine X_lp (ι:=Nat) 16380 [] (fun i=>[(3,.d (dI i))]) (fun _=>[]) (fun i=>i≤s.length∧(fun _ l=>dB (!(l.anyB fun c=>decide ((c.toNat:Int)=32))&&H2 s)) 0 s=(fun _ l=>dB (!(l.anyB fun c=>decide ((c.toNat:Int)=32))&&H2 s)) i (s.drop i)) (fun i=>s.length-i) (0) ?_ ?_
 ·exact⟨zLw,rfl⟩
 rintro i ⟨hi,hq⟩
 by_cases hlt:i<s.length
 ·obtain⟨n,hn⟩:=gex hlt
  (repeat' (first|refine G_x (A7 fun _=>D8 (m:=i) Z Z Z (by first|rfl|omega) hn) Z Z ?_|refine G_x (A3 Z Z Z A9s (c149 s hs)) Z Z ?_|refine Wz ?_|apply Wd <;>intro hh))
  all_goals (try exact oMw)
  all_goals first
   | (rw [hq,drp hn];refine rEw hM ?_;exact q5S)
   | exact A0 (i+1) ⟨oEw,by rw [hq,drp hn];exact q5S⟩ oEw
 ·(repeat' (first|refine cDw A9s (c149 s hs) ?_|refine Wz ?_|apply Wd <;>intro hh))
  all_goals (try exact oMw)
  all_goals rw [hq,List.drop_eq_nil_of_le oEw]
  all_goals (refine rEw hM ?_;exact q5S)
theorem c303 (s:Tx)(hs:s.length≤1048576):Fp Tryz.prog 303 [dS s] ((fun _ l=>dB (!(l.anyB fun c=>decide ((c.toNat:Int)=32)||decide ((c.toNat:Int)=45))&&H2 s)) 0 s):=by
 refine fXw Tryz.func303 Tryz.ntmps303 fun c hM=>?_
 (repeat' (first|refine Wz ?_|fail))
 refine X_lp (ι:=Nat) 1048572 [] (fun i=>[(3,.d (dI i))]) (fun _=>[]) (fun i=>i≤s.length∧(fun _ l=>dB (!(l.anyB fun c=>decide ((c.toNat:Int)=32)||decide ((c.toNat:Int)=45))&&H2 s)) 0 s=(fun _ l=>dB (!(l.anyB fun c=>decide ((c.toNat:Int)=32)||decide ((c.toNat:Int)=45))&&H2 s)) i (s.drop i)) (fun i=>s.length-i) (0) ?_ ?_
 ·exact⟨zLw,rfl⟩
 rintro i ⟨hi,hq⟩
 by_cases hlt:i<s.length
 ·obtain⟨n,hn⟩:=gex hlt
  (repeat' (first|refine G_x (A7 fun _=>D8 (m:=i) Z Z Z (by first|rfl|omega) hn) Z Z ?_|refine G_x (A3 Z Z Z A9s (c149 s hs)) Z Z ?_|refine Wz ?_|apply Wd <;>intro hh))
  all_goals (try exact oMw)
  all_goals first
   | (rw [hq,drp hn];refine rEw hM ?_;exact q5S)
   | exact A0 (i+1) ⟨oEw,by rw [hq,drp hn];exact q5S⟩ oEw
 ·(repeat' (first|refine cDw A9s (c149 s hs) ?_|refine Wz ?_|apply Wd <;>intro hh))
  all_goals (try exact oMw)
  all_goals rw [hq,List.drop_eq_nil_of_le oEw]
  all_goals (refine rEw hM ?_;exact q5S)
theorem c166 (s:Tx)(hs:s.length≤1048576):Fp Tryz.prog 166 [dS s] (dI (A5z s)):=by
 refine fXw Tryz.func166 Tryz.ntmps166 fun c hM=>?_
 have c2:=c223 s hs
 unfold A5z
 cases hp:points s with
 | none=>
  rw [hp] at c2
  (repeat' (first|refine cDw D2k c2 ?_|refine Wz ?_|apply Wd <;>intro hh))
  all_goals (try exact oMw)
  all_goals (refine rEw hM ?_;exact q5S)
 | some l=>
  rw [hp] at c2
  (repeat' (first|refine cDw D2k c2 ?_|refine Wz ?_|apply Wd <;>intro hh))
  all_goals (try exact oMw)
  ·all_goals (refine rEw hM ?_;exact q5S)
  have hnl:(natI l).length=l.length:=List.length_map ..
  refine X_lp (ι:=Nat) 17179803684 [] (fun i=>[(5,.d (dI i))]) (fun _=>[]) (fun i=>i≤(natI l).length∧(fun _ l=>l.anyB fun z=>decide (z<32)||decide (z=127)) 0 (natI l)=(fun _ l=>l.anyB fun z=>decide (z<32)||decide (z=127)) i ((natI l).drop i)) (fun i=>(natI l).length-i) (0) ?_ ?_
  ·exact⟨zLw,rfl⟩
  rintro i ⟨hi,hq⟩
  by_cases hlt:i<(natI l).length
  rotate_left
  ·have hz:i=(natI l).length:=oEw
   subst hz
   rw [List.drop_eq_nil_of_le (Nat.le_refl _)] at hq
   try dsimp only at hq
   (repeat' (first|refine Wz ?_|refine Wb fun hb=>?_|apply Wd <;>intro hh)) <;> first|(exfalso;omega)|(all_goals (refine rEw hM ?_;exact q5S))
  obtain⟨n,hn⟩:=gex hlt
  obtain⟨pv,hp⟩:=gex (l:=natI l) (i:=i-1) oEw
  have hpr:=B6 hp
  have hmem:=List.mem_of_getElem? hn
  rw [drp hn] at hq
  try dsimp only at hq
  all_goals (repeat' (first|refine iDw (gm hn) ?_|refine Wz ?_|refine Wb fun hb=>?_|apply Wd <;>intro hh))
  all_goals (try exact oMw)
  all_goals first
   | exact A0 (i+1) ⟨oEw,by(try dsimp only);rw [hq];exact q5S⟩ oEw
   | (refine rEw hM ?_;(try rw [hq]);exact q5S)
theorem n150 (s:Tx)(hs:s.length≤1048576):Fp Tryz.prog 150 [dS s] (dB (A2n s)):=c150 s hs
theorem n152 (s:Tx)(hs:s.length≤1048576):Fp Tryz.prog 152 [dS s] (dB (A9e s)):=c152 s hs
theorem n303 (s:Tx)(hs:s.length≤1048576):Fp Tryz.prog 303 [dS s] (dB (C1f s)):=c303 s hs
theorem n179 (l:List Int)(a:Int):Fp Tryz.prog 179 [ints l,dI a] (dB (hasR l a)):=by
 have h:=c179 l a
 dsimp only at h
 rw [← R5] at h
 exact h
theorem p142 (l:List Pers)(id:Int):Fp Tryz.prog 142 [.s 3 (l.map M5),dI id] (fRes M5 C9c (perF l id)):=c142 l id
theorem J0 {α β:Type}{f:β→α→β}{b:β}{l:List α}{i:Nat}{x:α}(h:l[i]?=some x):(l.take (i+1)).foldl f b=f ((l.take i).foldl f b) x:=by
 rw [List.take_succ,h,Option.toList_some,List.foldl_append]
 rfl
theorem B1i:∀ {l:List Int},l.length≤1→upB l=true
 | [],_=>rfl
 | [_],_=>rfl
 | _::_::_,h=>by simp at h
theorem A3u:∀(l:List Int) (n:Int),(putI l n).length≤l.length+1
 | [],_=>by simp [putI]
 | a::r,n=>by
  rw [putI]
  split
  ·have:=A3u r n;simp;omega
  ·split <;> simp
theorem A3t : ∀ (l : List Int) (n x : Int), x ∈ putI l n ↔ x = n ∨ x ∈ l
 | [],_,_=>by simp [putI]
 | a :: r, n, x => by
  rw [putI]
  split
  ·rw [List.mem_cons,A3t r n x,List.mem_cons]
   constructor
   ·rintro(h|h|h)
    ·exact .inr (.inl h)
    ·exact .inl h
    ·exact .inr (.inr h)
   ·rintro(h|h|h)
    ·exact .inr (.inl h)
    ·exact .inl h
    ·exact .inr (.inr h)
  ·split
   ·rename_i h1 h2
    subst h2
    simp
   ·simp
theorem B7o : ∀ {l : List Int} (n : Int), l.Pairwise (· < ·) → (putI l n).Pairwise (· < ·)
 | [],_,_=>by simp [putI]
 | a :: r, n, h => by
  rw [putI]
  obtain⟨h1,h2⟩:=List.pairwise_cons.1 h
  split
  ·refine List.pairwise_cons.2 ⟨fun x hx=>?_,B7o n h2⟩
   rcases (A3t r n x).1 hx with rfl|hx
   ·assumption
   ·exact h1 x hx
  ·split
   ·exact h
   ·refine List.pairwise_cons.2 ⟨fun x hx=>?_,h⟩
    rcases List.mem_cons.1 hx with rfl|hx
    ·omega
    ·have:=h1 x hx;omega
theorem A9l:∀(l:List Int) {b:List Int},b.Pairwise (·<·)→(l.foldl putI b).Pairwise (·<·)
 | [],_,h=>h
 | x::r,_,h=>A9l r (B7o x h)
theorem Y5:∀(l b:List Int) (x:Int),x∈l.foldl putI b↔x∈l∨x∈b
 | [],b,x=>by simp
 | y :: r, b, x => by
  rw [List.foldl_cons,Y5 r _ x,A3t,List.mem_cons]
  constructor
  ·rintro(h|h|h)
   ·exact .inl (.inr h)
   ·exact .inl (.inl h)
   ·exact .inr h
  ·rintro((h|h)|h)
   ·exact .inr (.inl h)
   ·exact .inl h
   ·exact .inr (.inr h)
theorem A9m (l:List Int):∀(b:List Int),(l.foldl putI b).length≤l.length+b.length:=by
 induction l with
 | nil=>intro b;simp
 | cons x r ih=>
  intro b
  rw [List.foldl_cons,List.length_cons]
  have:=ih (putI b x)
  have:=A3u b x
  omega
theorem C2o:∀(l S:List Int),l.Nodup→(∀ x∈l,x∈S)→l.length≤S.length
 | [],_,_,_=>Nat.zero_le _
 | x::r,S,hn,hs=>by
  obtain⟨h1,h2⟩:=List.nodup_cons.1 hn
  have hx:=hs x (List.mem_cons_self ..)
  have:=C2o r (S.erase x) h2 fun y hy=>(List.mem_erase_of_ne (fun e=>h1 (by rw [← e];exact hy))).2 (hs y (List.mem_cons_of_mem _ hy))
  rw [List.length_erase_of_mem hx] at this
  have:=List.length_pos_of_mem hx
  rw [List.length_cons];omega
theorem G3d {l:List Int}(h:l.Pairwise (·<·)):l.Nodup:=h.imp fun h e=>by omega
theorem c173 (l:List Int):Fp Tryz.prog 173 [ints l] (dB (upB l)):=by
 refine fXw Tryz.func173 Tryz.ntmps173 fun c hM=>?_
 (repeat' (first|refine Wz ?_|fail))
 refine X_lp (ι:=Nat) 1048572 [] (fun i=>[(3,.d (dI i))]) (fun _=>[]) (fun i=>1≤i∧upB l=upB (l.drop (i-1))) (fun i=>l.length+1-i) (1) ?_ ?_
 ·exact⟨Nat.le_refl _,rfl⟩
 rintro i ⟨hi,hq⟩
 by_cases hlt:i<l.length
 ·obtain⟨n,hn⟩:=gex hlt
  obtain⟨pv,hp⟩:=gex (l:=l) (i:=i-1) oEw
  rw [drp hp,show i-1+1=i by omega,drp hn] at hq
  (repeat' (first|refine iDw (gm hn) ?_|refine iDw (gm hp) ?_|refine Wz ?_|refine Wb fun hb=>?_|apply Wd <;>intro hh))
  all_goals first
   | (exfalso;omega)
   | (rw [hq,upB];all_goals (refine rEw hM ?_;(first|(simp [one1, *,dB,dI,dS,List.anyB,List.allB];done)|(simp_all [one1,dB,dI,dS,List.anyB,List.allB];done)|(simp_all [one1,dB,dI,dS,List.anyB,List.allB];omega))))
   | exact A0 (i+1) ⟨oEw,by rw [hq,upB,Nat.add_sub_cancel,drp hn];simp [*];try omega⟩ oEw
 ·(repeat' (first|refine Wz ?_|refine Wb fun hb=>?_|apply Wd <;>intro hh))
  all_goals (try exact oMw)
  rw [hq,B1i (by rw [List.length_drop];omega)]
  exact rXw hM
theorem c266 (l : List Int)(a : Int)(hl : l.length ≤ 1099511627776) : Fp Tryz.prog 266 [ints l, dI a] (ints (putI l a)) := by
 refine fXw Tryz.func266 Tryz.ntmps266 fun c hM=>?_
 (repeat' ((fail_if_success (refine H7 (x:=(Code.block 0 _)) ?_));first|refine Wz ?_|fail))
 refine D0 5 5 3 1 Z Z ?_
 (repeat' (first|refine Wz ?_|fail))
 refine X_lp (ι:=Nat × Nat) 268435424 [] (fun q=>[(5,.o 5 q.2),(6,.d (dI q.1))]) (fun q=>[(5,.ls 3 1 q.2 ((l.take q.1).map iC))]) (fun q=>q.1≤l.length∧putI l a=l.take q.1++putI (l.drop q.1) a) (fun q=>l.length-q.1) ((0,0)) ?_ ?_
 ·exact⟨zLw,rfl⟩
 rintro⟨i,ver⟩ ⟨hi,hq⟩
 dsimp only at hi hq
 by_cases hlt:i<l.length
 ·obtain⟨n,hn⟩:=gex hlt
  rw [drp hn,putI] at hq
  by_cases hna:n<a
  ·rw [if_pos hna] at hq
   (repeat' (first|refine iDw (gm hn) ?_|refine Wz ?_|refine Wb fun hb=>?_|apply Wd <;>intro hh))
   all_goals (try exact oMw)
   exact A0 (i+1,ver+1) ⟨hlt,by rw [hq,List.take_succ,hn];simp⟩ (oDw) (hh:=A1 (by show some _=some _;simp [List.take_succ,hn,iC,dI]) (A4 _))
  ·rw [if_neg hna] at hq
   by_cases hne:n=a
   ·rw [if_pos hne] at hq
    (repeat' (first|refine iDw (gm hn) ?_|refine G_x (R3 (a:=i+1) Z Z Z Z (by simp;omega)) Z Z ?_|refine Wz ?_|refine Wb fun hb=>?_|apply Wd <;>intro hh))
    all_goals (try exact oMw)
    refine B9 4 Z Z lOw ?_
    refine rEw hM ?_
    rw [hq,hne]
    simp [one1,iC,dI]
   ·rw [if_neg hne] at hq
    (repeat' (first|refine iDw (gm hn) ?_|refine G_x (R3 (a:=i) Z Z Z Z (by simp;omega)) Z Z ?_|refine Wz ?_|refine Wb fun hb=>?_|apply Wd <;>intro hh))
    all_goals (try exact oMw)
    refine B9 4 Z Z lOw ?_
    refine rEw hM ?_
    rw [hq,← drp hn]
    simp [one1,iC,dI]
 ·have hz:i=l.length:=oEw
  subst hz
  rw [List.drop_length,putI] at hq
  (repeat' (first|refine G_x (R3 (a:=l.length) Z Z Z Z (by simp)) Z Z ?_|refine Wz ?_|refine Wb fun hb=>?_|apply Wd <;>intro hh))
  all_goals (try exact oMw)
  refine B9 4 Z Z lOw ?_
  refine rEw hM ?_
  rw [hq]
  simp [one1,iC,dI]
theorem c225 (l:List Int)(hl:l.length≤1099511627776):Fp Tryz.prog 225 [ints l] (ints (srtR l)):=by
 refine fXw Tryz.func225 Tryz.ntmps225 fun c hM=>?_
 (repeat' ((fail_if_success (refine H7 (x:=(Code.block 0 _)) ?_));first|refine Wz ?_|refine Wb fun hb=>?_))
 refine D3q 3 1 rfl ?_
 skip
 refine X_lp (ι:=Nat) 130968 [] (fun i=>[(3,.d (ints (((l).take i).foldl (putI) ([])))),(7,.d (dI i))]) (fun _=>[]) (fun i=>i≤(l).length) (fun i=>(l).length-i) (0) ?_ ?_
 ·exact zLw
 rintro i hi
 by_cases hlt:i<(l).length
 rotate_left
 ·have hz:i=(l).length:=oEw
  subst hz
  rw [List.take_length]
  ((repeat' (first|refine Wz ?_|apply Wd <;>intro hh)) <;> first|(exfalso;omega)|exact rXw hM)
 obtain⟨n,hn⟩:=gex hlt
 have hmem:=List.mem_of_getElem? hn
 have ht:=J0 (f:=putI) (b:=[]) hn
 (repeat' (first|refine iDw (gm hn) ?_|refine cDw D2d (c266 ((l.take i).foldl putI []) n (by have:=A9m (l.take i) [];rw [List.length_take] at this;simp at this;omega)) ?_|refine Wz ?_|apply Wd <;>intro hh))
 all_goals (try exact oMw)
 all_goals exact A0 (i+1) oEw oEw (by(try dsimp only);rw [ht];(repeat (refine A6 (by first|rfl|simp [*]) ?_));exact B8 _)
theorem c235 (l m:List Int)(hl:l.length+m.length≤1099511627776):Fp Tryz.prog 235 [ints l,ints m] (ints (uniR l m)):=by
 refine fXw Tryz.func235 Tryz.ntmps235 fun c hM=>?_
 (repeat' (first|refine cDw D2i (c225 l oEw) ?_|refine Wz ?_|refine Wb fun hb=>?_))
 have hs:=A9m l []
 refine X_lp (ι:=Nat) 2095200 [] (fun i=>[(5,.d (ints (((m).take i).foldl (putI) (srtR l)))),(11,.d (dI i))]) (fun _=>[]) (fun i=>i≤(m).length) (fun i=>(m).length-i) (0) ?_ ?_
 ·exact zLw
 rintro i hi
 by_cases hlt:i<(m).length
 rotate_left
 ·have hz:i=(m).length:=oEw
  subst hz
  rw [List.take_length]
  ((repeat' (first|refine Wz ?_|apply Wd <;>intro hh)) <;> first|(exfalso;omega)|exact rXw hM)
 obtain⟨n,hn⟩:=gex hlt
 have hmem:=List.mem_of_getElem? hn
 have ht:=J0 (f:=putI) (b:=srtR l) hn
 (repeat' (first|refine iDw (gm hn) ?_|refine cDw D2d (c266 ((m.take i).foldl putI (srtR l)) n (by have:=A9m (m.take i) (srtR l);rw [List.length_take] at this;unfold srtR at this ⊢;simp at this hs;omega)) ?_|refine Wz ?_|apply Wd <;>intro hh))
 all_goals (try exact oMw)
 all_goals exact A0 (i+1) oEw oEw (by(try dsimp only);rw [ht];(repeat (refine A6 (by first|rfl|simp [*]) ?_));exact B8 _)
theorem q20S {p:Prop}(h:p:=by first|(simp [one1, *,dB,dI,dS,List.anyB,List.allB];done)|(simp_all [one1,dB,dI,dS,List.anyB,List.allB];done)|(simp_all [one1,dB,dI,dS,List.anyB,List.allB];omega)):p:=h
theorem q21S {p:Prop}(h:p:=by first|(simp [one1, *,dB,dI,dS,List.anyB,List.allB,fstE];done)|(simp_all [one1,dB,dI,dS,List.anyB,List.allB,fstE];done)|(simp_all [one1,dB,dI,dS,List.anyB,List.allB,fstE];omega)):p:=h
theorem c82 (l:List Pers)(ht:∀ p∈l,p.name.length≤1048576):Fp Tryz.prog 82 [.s 3 (l.map M5)] (dI (C9b l)):=by
 unfold C9b
 refine fXw Tryz.func82 Tryz.ntmps82 fun c hM=>?_
 (repeat' (first|refine Wz ?_|refine Wb fun hb=>?_|apply Wd <;>intro hh))
 ·all_goals (refine rEw hM ?_;exact q20S)
 refine X_lp (ι:=Nat) 8796093021708 [] (fun i=>[(9,.d (dI i))]) (fun _=>[]) (fun i=>i≤(l).length∧(fun i q=>fstE (fun i (p:Pers)=>if idB p.id=false then 2 else if prvB (fun h=>decide (p.id≤h.id)) l i then 10 else if H2 p.name=false then 7 else 0) i q) 0 (l)=(fun i q=>fstE (fun i (p:Pers)=>if idB p.id=false then 2 else if prvB (fun h=>decide (p.id≤h.id)) l i then 10 else if H2 p.name=false then 7 else 0) i q) i ((l).drop i)) (fun i=>(l).length-i) (0) ?_ ?_
 ·exact⟨zLw,rfl⟩
 rintro i ⟨hi,hq⟩
 by_cases hlt:i<(l).length
 rotate_left
 ·have hz:i=(l).length:=oEw
  subst hz
  rw [List.drop_eq_nil_of_le (Nat.le_refl _)] at hq
  try dsimp only at hq
  ((repeat' (first|refine Wz ?_|apply Wd <;>intro hh)) <;> first|(exfalso;omega)|(all_goals (refine rEw hM ?_;exact q21S)))
 obtain⟨n,hn⟩:=gex hlt
 obtain⟨pv,hp⟩:=gex (l:=l) (i:=i-1) oEw
 have hpr:=B6 hp
 have hmem:=List.mem_of_getElem? hn
 rw [drp hn] at hq
 try dsimp only at hq
 obtain⟨b,hb⟩:∃ b,idB n.id=b:=⟨_,rfl⟩;have cb:=c79 n.id;rw [hb] at cb;obtain⟨d,hd⟩:∃ b,H2 n.name=b:=⟨_,rfl⟩;have cd:=c149 n.name (ht n hmem);rw [hd] at cd
 all_goals (repeat' (first|refine iDw (gm hn) ?_|refine iDw (gm hp) ?_|refine cDw en79 cb ?_|refine cDw A9s cd ?_|refine Wz ?_|refine Wd (fun hh=>?_) fun hh=>?_|(refine Wc (fun hg=>?_) (fun hg=>?_) <;>(first|subst hg|(simp at hg;subst hg)|skip))))
 all_goals (try exact oMw)
 all_goals first
  | exact A0 (i+1) ⟨oEw,by(try dsimp only);rw [hq];exact q21S⟩ oEw
  | (refine rEw hM ?_;(try rw [hq]);exact q21S)
theorem c176 (l:List Pers)(r:Rc)(ht:r.name.length≤1048576):Fp Tryz.prog 176 [.s 3 (l.map M5),.g (rcC r)] (dI (recE l r)):=by
 unfold recE
 obtain⟨b,hb⟩:∃ b,idB r.id=b:=⟨_,rfl⟩;have cb:=c79 r.id;rw [hb] at cb;obtain⟨d,hd⟩:∃ b,A2n r.name=b:=⟨_,rfl⟩;have cd:=n150 r.name ht;rw [hd] at cd
 refine fXw Tryz.func176 Tryz.ntmps176 fun c hM=>?_
 (repeat' (first|refine cDw en79 cb ?_|refine cDw C4u cd ?_|refine Wz ?_|refine Wb fun hb=>?_|refine Wd (fun hh=>?_) fun hh=>?_|(refine Wc (fun hg=>?_) (fun hg=>?_) <;>(first|subst hg|(simp at hg;subst hg)|skip))))
 all_goals (try exact oMw)
 all_goals (try (all_goals (refine rEw hM ?_;exact q20S);done))
 refine X_lp (ι:=Nat) 2361183240885066793200 [] (fun i=>[(39,.d (dI i))]) (fun _=>[]) (fun i=>i≤(r.sp).length∧(fun i q=>fstE (fun i s=>if prvB (fun h=>decide (s≤h)) r.sp i then 10 else if (perF l s).isSome=false then 9 else 0) i q) 0 (r.sp)=(fun i q=>fstE (fun i s=>if prvB (fun h=>decide (s≤h)) r.sp i then 10 else if (perF l s).isSome=false then 9 else 0) i q) i ((r.sp).drop i)) (fun i=>(r.sp).length-i) (0) ?_ ?_
 ·exact⟨zLw,rfl⟩
 rintro i ⟨hi,hq⟩
 by_cases hlt:i<(r.sp).length
 rotate_left
 ·have hz:i=(r.sp).length:=oEw
  subst hz
  rw [List.drop_eq_nil_of_le (Nat.le_refl _)] at hq
  try dsimp only at hq
  ((repeat' (first|refine Wz ?_|apply Wd <;>intro hh)) <;> first|(exfalso;omega)|(all_goals (refine rEw hM ?_;exact q21S)))
 obtain⟨n,hn⟩:=gex hlt
 obtain⟨pv,hp⟩:=gex (l:=r.sp) (i:=i-1) oEw
 have hpr:=B6 hp
 have hmem:=List.mem_of_getElem? hn
 rw [drp hn] at hq
 try dsimp only at hq
 obtain⟨e,he⟩:∃ b,perF l n=b:=⟨_,rfl⟩;have ce:=p142 l n;rw [he] at ce;cases e
 all_goals (repeat' (first|refine iDw (gm hn) ?_|refine iDw (gm hp) ?_|refine cDw A6p ce ?_|refine Wz ?_|apply Wd <;>intro hh))
 all_goals (try exact oMw)
 all_goals first
  | exact A0 (i+1) ⟨oEw,by(try dsimp only);rw [hq];exact q21S⟩ oEw
  | (refine rEw hM ?_;(try rw [hq]);exact q21S)
theorem c83 (l : List Pers)(rs : List Rc)(ht : ∀ r ∈ rs, r.name.length ≤ 1048576) : Fp Tryz.prog 83 [.s 3 (l.map M5), .s 5 (rs.map rcC)] (dI (C3a l rs)) := by
 unfold C3a
 refine fXw Tryz.func83 Tryz.ntmps83 fun c hM=>?_
 (repeat' (first|refine Wz ?_|refine Wb fun hb=>?_|apply Wd <;>intro hh))
 all_goals (try exact oMw)
 all_goals (try (all_goals (refine rEw hM ?_;exact q20S);done))
 refine X_lp (ι:=Nat) 288230376151703792 [] (fun i=>[(13,.d (dI i))]) (fun _=>[]) (fun i=>i≤(rs).length∧(fun i q=>fstE (fun i r=>if recE l r≠0 then recE l r else if prvB (fun h=>decide (r.id≤h.id)) rs i then 10 else if ((rs.take i).anyB fun x=>decide (x.name=r.name)) then 8 else 0) i q) 0 (rs)=(fun i q=>fstE (fun i r=>if recE l r≠0 then recE l r else if prvB (fun h=>decide (r.id≤h.id)) rs i then 10 else if ((rs.take i).anyB fun x=>decide (x.name=r.name)) then 8 else 0) i q) i ((rs).drop i)) (fun i=>(rs).length-i) (0) ?_ ?_
 ·exact⟨zLw,rfl⟩
 rintro i ⟨hi,hq⟩
 by_cases hlt:i<(rs).length
 rotate_left
 ·have hz:i=(rs).length:=oEw
  subst hz
  rw [List.drop_eq_nil_of_le (Nat.le_refl _)] at hq
  try dsimp only at hq
  ((repeat' (first|refine Wz ?_|apply Wd <;>intro hh)) <;> first|(exfalso;omega)|(all_goals (refine rEw hM ?_;(try rw [hq]);exact q21S)))
 obtain⟨n,hn⟩:=gex hlt
 obtain⟨pv,hp⟩:=gex (l:=rs) (i:=i-1) oEw
 have hpr:=B6 hp
 have hmem:=List.mem_of_getElem? hn
 rw [drp hn] at hq
 try dsimp only at hq
 (repeat' (first|refine iDw (gm hn) ?_|refine iDw (gm hp) ?_|refine cDw G9s (c176 l n (ht n hmem)) ?_|refine Wz ?_|apply Wd <;>intro hh))
 all_goals (try exact oMw)
 all_goals (try (all_goals (refine rEw hM ?_;(try rw [hq]);exact q21S);done))
 all_goals (
  refine X_lp (ι:=Nat) 144112989052600464 [] (fun k=>[(7,.d (dI k))]) (fun _=>[]) (fun k=>k≤i∧((rs).take i).anyB (fun m=>decide (m.name=n.name))=(((rs).take i).drop k).anyB (fun m=>decide (m.name=n.name))) (fun k=>i-k) (0) ?_ ?_
  ·exact⟨zLw,rfl⟩
  rintro k ⟨hk,hqk⟩
  by_cases hltk:k<i
  ·obtain⟨m,hm⟩:=gex (l:=rs) (i:=k) oEw
   have hmt:((rs).take i)[k]?=some m:=by rw [List.getElem?_take_of_lt hltk];exact hm
   rw [drp hmt] at hqk
   (repeat' (first|refine iDw (gm hm) ?_|refine iDw (gm hn) ?_|refine Wz ?_|apply Wd <;>intro hh))
   all_goals (try exact oMw)
   all_goals first
    | exact A0 (k+1) ⟨oEw,by rw [hqk];exact q21S⟩ oEw
    | (refine rEw hM ?_;(try rw [hq]);exact q21S)
  have hzk:i=k:=oEw
  subst hzk
  rw [List.drop_eq_nil_of_le (by rw [List.length_take];omega)] at hqk
  simp only [List.anyB] at hqk
  (repeat' (first|refine Wz ?_|apply Wd <;>intro hh))
  all_goals (try exact oMw)
  all_goals first
   | exact A0 (i+1) ⟨oEw,by(try dsimp only);rw [hq];exact q21S⟩ oEw
   | (refine rEw hM ?_;(try rw [hq]);exact q21S))
end
end Go.Proofs.YtojadfppncgphaaGreatDoor