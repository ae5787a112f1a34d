/- Own text. -/
import Derived.Test.YtojadfppncgphaaGreatDoorY9
set_option linter.all false
set_option maxHeartbeats 16000000
set_option maxRecDepth 8000
namespace Go.Proofs.YtojadfppncgphaaGreatDoor
section
open Go.RowKit Go.En Go.Dl Go.Tp
attribute [local irreducible] X XL XW XG XK Val LS Fp Fo Calls bodyPost Code.wp
theorem C6p:Shp Tryz.prog 190 [(false,3,0),(false,3,1)]:=⟨by kernel_rfl,by kernel_rfl,by kernel_rfl,by kernel_rfl⟩
theorem G1u (c:Cls):EqS Tryz.prog 10000 190 (.agg #[int (c.mask),int (c.value)]):=
 H3 (d:=9999) C6p ⟨rfl,⟨_,C5 Tryz.underlying3 rfl,D2 Tryz.underlying3⟩,rfl,⟨_,C5 Tryz.underlying3 rfl,D2 Tryz.underlying3⟩,trivial⟩
theorem C6o:Shp Tryz.prog 197 [(false,3,0),(false,3,1),(false,3,2)]:=⟨by kernel_rfl,by kernel_rfl,by kernel_rfl,by kernel_rfl⟩
theorem G1t (c:Stp):EqS Tryz.prog 10000 197 (.agg #[int (c.frm),int (c.cls),int (c.til)]):=
 H3 (d:=9999) C6o ⟨rfl,⟨_,C5 Tryz.underlying3 rfl,D2 Tryz.underlying3⟩,rfl,⟨_,C5 Tryz.underlying3 rfl,D2 Tryz.underlying3⟩,rfl,⟨_,C5 Tryz.underlying3 rfl,D2 Tryz.underlying3⟩,trivial⟩
theorem C6n:Shp Tryz.prog 200 [(false,9,0),(false,3,1)]:=⟨by kernel_rfl,by kernel_rfl,by kernel_rfl,by kernel_rfl⟩
theorem G1s (c:Phn):EqS Tryz.prog 10000 200 (.agg #[str (c.name),int (c.feat)]):=
 H3 (d:=9999) C6n ⟨rfl,⟨_,V8 Tryz.underlying9 rfl,A1i Tryz.underlying9⟩,rfl,⟨_,C5 Tryz.underlying3 rfl,D2 Tryz.underlying3⟩,trivial⟩
theorem C6r:Shp Tryz.prog 138 [(false,9,0),(false,3,1),(false,3,2),(false,3,3)]:=⟨by kernel_rfl,by kernel_rfl,by kernel_rfl,by kernel_rfl⟩
theorem G1w (c:Tier):EqS Tryz.prog 10000 138 (.agg #[str (c.name),int (c.kind),int (c.role),int (c.parent)]):=
 H3 (d:=9999) C6r ⟨rfl,⟨_,V8 Tryz.underlying9 rfl,A1i Tryz.underlying9⟩,rfl,⟨_,C5 Tryz.underlying3 rfl,D2 Tryz.underlying3⟩,rfl,⟨_,C5 Tryz.underlying3 rfl,D2 Tryz.underlying3⟩,rfl,⟨_,C5 Tryz.underlying3 rfl,D2 Tryz.underlying3⟩,trivial⟩
theorem C6m:Shp Tryz.prog 208 [(false,3,0),(false,3,1),(false,3,2)]:=⟨by kernel_rfl,by kernel_rfl,by kernel_rfl,by kernel_rfl⟩
theorem G1r (c:Prt):EqS Tryz.prog 10000 208 (.agg #[int (c.entry),int (c.alt),int (c.sense)]):=
 H3 (d:=9999) C6m ⟨rfl,⟨_,C5 Tryz.underlying3 rfl,D2 Tryz.underlying3⟩,rfl,⟨_,C5 Tryz.underlying3 rfl,D2 Tryz.underlying3⟩,rfl,⟨_,C5 Tryz.underlying3 rfl,D2 Tryz.underlying3⟩,trivial⟩
theorem C6j:Shp Tryz.prog 77 [(false,3,0),(false,3,1)]:=⟨by kernel_rfl,by kernel_rfl,by kernel_rfl,by kernel_rfl⟩
theorem D7d (c:Rf):EqS Tryz.prog 10000 77 (.agg #[int (c.rcd),int (c.note)]):=
 H3 (d:=9999) C6j ⟨rfl,⟨_,C5 Tryz.underlying3 rfl,D2 Tryz.underlying3⟩,rfl,⟨_,C5 Tryz.underlying3 rfl,D2 Tryz.underlying3⟩,trivial⟩
theorem D6n:Shp Tryz.prog 53 [(false,3,0),(false,9,1),(false,4,2)]:=⟨by kernel_rfl,by kernel_rfl,by kernel_rfl,by kernel_rfl⟩
theorem G4f (c:Pers):EqS Tryz.prog 10000 53 (.agg #[int (c.id),str (c.name),.bool (c.member)]):=
 H3 (d:=9999) D6n ⟨rfl,⟨_,C5 Tryz.underlying3 rfl,D2 Tryz.underlying3⟩,rfl,⟨_,V8 Tryz.underlying9 rfl,A1i Tryz.underlying9⟩,rfl,⟨_,C3y Tryz.underlying4 rfl,C9t Tryz.underlying4⟩,trivial⟩
theorem D6m:Shp Tryz.prog 56 [(false,3,0),(false,3,1),(false,3,2),(false,3,3)]:=⟨by kernel_rfl,by kernel_rfl,by kernel_rfl,by kernel_rfl⟩
theorem G4e (c:Cons):EqS Tryz.prog 10000 56 (.agg #[int (c.person),int (c.rcd),int (c.day),int (c.kind)]):=
 H3 (d:=9999) D6m ⟨rfl,⟨_,C5 Tryz.underlying3 rfl,D2 Tryz.underlying3⟩,rfl,⟨_,C5 Tryz.underlying3 rfl,D2 Tryz.underlying3⟩,rfl,⟨_,C5 Tryz.underlying3 rfl,D2 Tryz.underlying3⟩,rfl,⟨_,C5 Tryz.underlying3 rfl,D2 Tryz.underlying3⟩,trivial⟩
theorem C6k:Shp Tryz.prog 257 [(false,9,0),(false,9,1)]:=⟨by kernel_rfl,by kernel_rfl,by kernel_rfl,by kernel_rfl⟩
theorem G1p (c:Sns):EqS Tryz.prog 10000 257 (.agg #[str (c.gloss),str (c.dfn)]):=
 H3 (d:=9999) C6k ⟨rfl,⟨_,V8 Tryz.underlying9 rfl,A1i Tryz.underlying9⟩,rfl,⟨_,V8 Tryz.underlying9 rfl,A1i Tryz.underlying9⟩,trivial⟩
theorem C6l:Shp Tryz.prog 220 [(false,3,0),(false,3,1)]:=⟨by kernel_rfl,by kernel_rfl,by kernel_rfl,by kernel_rfl⟩
theorem G1q (c:Lnk):EqS Tryz.prog 10000 220 (.agg #[int (c.kind),int (c.to)]):=
 H3 (d:=9999) C6l ⟨rfl,⟨_,C5 Tryz.underlying3 rfl,D2 Tryz.underlying3⟩,rfl,⟨_,C5 Tryz.underlying3 rfl,D2 Tryz.underlying3⟩,trivial⟩
theorem C6i:Shp Tryz.prog 82 [(false,3,0),(false,3,1)]:=⟨by kernel_rfl,by kernel_rfl,by kernel_rfl,by kernel_rfl⟩
theorem G4d (a b:Int):EqS Tryz.prog 9999 82 (.agg #[int (a),int (b)]):=
 H3 (d:=9998) C6i ⟨rfl,⟨_,C5 Tryz.underlying3 rfl,D2 Tryz.underlying3⟩,rfl,⟨_,C5 Tryz.underlying3 rfl,D2 Tryz.underlying3⟩,trivial⟩
theorem C6q:Shp Tryz.prog 142 [(false,3,0),(false,3,1),(false,3,2),(false,82,3),(false,3,5),(false,9,6)]:=⟨by kernel_rfl,by kernel_rfl,by kernel_rfl,by kernel_rfl⟩
theorem G1v (n:Note):EqS Tryz.prog 10000 142 (.agg #[int n.id,int n.tier,int n.parent,int n.frm,int n.til,int n.rank,str n.text]):=
 H3 (d:=9999) C6q ⟨rfl,⟨_,C5 Tryz.underlying3 rfl,D2 Tryz.underlying3⟩,rfl,⟨_,C5 Tryz.underlying3 rfl,D2 Tryz.underlying3⟩,rfl,⟨_,C5 Tryz.underlying3 rfl,D2 Tryz.underlying3⟩,
  rfl,⟨_,C7o rfl (ys:=#[int n.frm,int n.til]) rfl,G4d _ _⟩,rfl,⟨_,C5 Tryz.underlying3 rfl,D2 Tryz.underlying3⟩,rfl,⟨_,V8 Tryz.underlying9 rfl,A1i Tryz.underlying9⟩,trivial⟩
theorem c88 (l:List Int):Fp Tryz.prog 88 [ints l,ints l] (dB true):=by
 refine fXw Tryz.func88 Tryz.ntmps88 fun c hM=>?_
 (repeat' (first|refine Wz ?_|refine Wb fun hb=>?_|refine Wd (fun hh=>?_) fun hh=>?_))
 ·exact absurd rfl hh
 refine X_lp (ι:=Nat) 67100720 [] (fun i=>[(13,.d (dI i))]) (fun _=>[]) (fun i=>i≤l.length) (fun i=>l.length-i) (0) ?_ ?_
 ·exact Nat.zero_le _
 rintro i hi
 by_cases hlt:i<l.length
 ·obtain⟨n,hn⟩:=gex hlt
  (repeat' (first|refine iDw (gm hn) ?_|refine Wz ?_|refine Wd (fun hh=>?_) fun hh=>?_))
  all_goals first|(exfalso;omega)|exact absurd rfl hh|exact A0 (i+1) (by omega) (by omega)
 ·(repeat' (first|refine Wz ?_|refine Wd (fun hh=>?_) fun hh=>?_))
  all_goals first|(exfalso;omega)|exact rXw hM
theorem c93 (l:List Tx):Fp Tryz.prog 93 [txts l,txts l] (dB true):=by
 refine fXw Tryz.func93 Tryz.ntmps93 fun c hM=>?_
 (repeat' (first|refine Wz ?_|refine Wb fun hb=>?_|refine Wd (fun hh=>?_) fun hh=>?_))
 ·exact absurd rfl hh
 refine X_lp (ι:=Nat) 67100720 [] (fun i=>[(13,.d (dI i))]) (fun _=>[]) (fun i=>i≤l.length) (fun i=>l.length-i) (0) ?_ ?_
 ·exact Nat.zero_le _
 rintro i hi
 by_cases hlt:i<l.length
 ·obtain⟨n,hn⟩:=gex hlt
  (repeat' (first|refine iDw (gm hn) ?_|refine Wz ?_|refine Wd (fun hh=>?_) fun hh=>?_))
  all_goals first|(exfalso;omega)|exact absurd rfl hh|exact A0 (i+1) (by omega) (by omega)
 ·(repeat' (first|refine Wz ?_|refine Wd (fun hh=>?_) fun hh=>?_))
  all_goals first|(exfalso;omega)|exact rXw hM
theorem c90 (l:List Cls):Fp Tryz.prog 90 [.s 2 (l.map clsC),.s 2 (l.map clsC)] (dB true):=by
 refine fXw Tryz.func90 Tryz.ntmps90 fun c hM=>?_
 (repeat' (first|refine Wz ?_|refine Wb fun hb=>?_|refine Wd (fun hh=>?_) fun hh=>?_))
 ·exact absurd rfl hh
 refine X_lp (ι:=Nat) 67100720 [] (fun i=>[(13,.d (dI i))]) (fun _=>[]) (fun i=>i≤l.length) (fun i=>l.length-i) (0) ?_ ?_
 ·exact Nat.zero_le _
 rintro i hi
 by_cases hlt:i<l.length
 ·obtain⟨n,hn⟩:=gex hlt
  (repeat' (first|refine G_x (A2 (m:=i) Z Z Z Z (gm hn)) Z Z ?_|refine G_x (A5 fun _=>G6 C6p (G1u n) Z Z Z) Z Z ?_|refine Wz ?_|refine Wd (fun hh=>?_) fun hh=>?_))
  all_goals first|(exfalso;omega)|exact absurd rfl hh|exact A0 (i+1) (by omega) (by omega)
 ·(repeat' (first|refine Wz ?_|refine Wd (fun hh=>?_) fun hh=>?_))
  all_goals first|(exfalso;omega)|exact rXw hM
theorem c94 (l:List Stp):Fp Tryz.prog 94 [.s 3 (l.map stC),.s 3 (l.map stC)] (dB true):=by
 refine fXw Tryz.func94 Tryz.ntmps94 fun c hM=>?_
 (repeat' (first|refine Wz ?_|refine Wb fun hb=>?_|refine Wd (fun hh=>?_) fun hh=>?_))
 ·exact absurd rfl hh
 refine X_lp (ι:=Nat) 67100720 [] (fun i=>[(13,.d (dI i))]) (fun _=>[]) (fun i=>i≤l.length) (fun i=>l.length-i) (0) ?_ ?_
 ·exact Nat.zero_le _
 rintro i hi
 by_cases hlt:i<l.length
 ·obtain⟨n,hn⟩:=gex hlt
  (repeat' (first|refine G_x (A2 (m:=i) Z Z Z Z (gm hn)) Z Z ?_|refine G_x (A5 fun _=>G6 C6o (G1t n) Z Z Z) Z Z ?_|refine Wz ?_|refine Wd (fun hh=>?_) fun hh=>?_))
  all_goals first|(exfalso;omega)|exact absurd rfl hh|exact A0 (i+1) (by omega) (by omega)
 ·(repeat' (first|refine Wz ?_|refine Wd (fun hh=>?_) fun hh=>?_))
  all_goals first|(exfalso;omega)|exact rXw hM
theorem c95 (l:List Phn):Fp Tryz.prog 95 [.s 2 (l.map phC),.s 2 (l.map phC)] (dB true):=by
 refine fXw Tryz.func95 Tryz.ntmps95 fun c hM=>?_
 (repeat' (first|refine Wz ?_|refine Wb fun hb=>?_|refine Wd (fun hh=>?_) fun hh=>?_))
 ·exact absurd rfl hh
 refine X_lp (ι:=Nat) 67100720 [] (fun i=>[(13,.d (dI i))]) (fun _=>[]) (fun i=>i≤l.length) (fun i=>l.length-i) (0) ?_ ?_
 ·exact Nat.zero_le _
 rintro i hi
 by_cases hlt:i<l.length
 ·obtain⟨n,hn⟩:=gex hlt
  (repeat' (first|refine G_x (A2 (m:=i) Z Z Z Z (gm hn)) Z Z ?_|refine G_x (A5 fun _=>G6 C6n (G1s n) Z Z Z) Z Z ?_|refine Wz ?_|refine Wd (fun hh=>?_) fun hh=>?_))
  all_goals first|(exfalso;omega)|exact absurd rfl hh|exact A0 (i+1) (by omega) (by omega)
 ·(repeat' (first|refine Wz ?_|refine Wd (fun hh=>?_) fun hh=>?_))
  all_goals first|(exfalso;omega)|exact rXw hM
theorem c98 (l:List Tier):Fp Tryz.prog 98 [.s 4 (l.map V6),.s 4 (l.map V6)] (dB true):=by
 refine fXw Tryz.func98 Tryz.ntmps98 fun c hM=>?_
 (repeat' (first|refine Wz ?_|refine Wb fun hb=>?_|refine Wd (fun hh=>?_) fun hh=>?_))
 ·exact absurd rfl hh
 refine X_lp (ι:=Nat) 67100720 [] (fun i=>[(13,.d (dI i))]) (fun _=>[]) (fun i=>i≤l.length) (fun i=>l.length-i) (0) ?_ ?_
 ·exact Nat.zero_le _
 rintro i hi
 by_cases hlt:i<l.length
 ·obtain⟨n,hn⟩:=gex hlt
  (repeat' (first|refine G_x (A2 (m:=i) Z Z Z Z (gm hn)) Z Z ?_|refine G_x (A5 fun _=>G6 C6r (G1w n) Z Z Z) Z Z ?_|refine Wz ?_|refine Wd (fun hh=>?_) fun hh=>?_))
  all_goals first|(exfalso;omega)|exact absurd rfl hh|exact A0 (i+1) (by omega) (by omega)
 ·(repeat' (first|refine Wz ?_|refine Wd (fun hh=>?_) fun hh=>?_))
  all_goals first|(exfalso;omega)|exact rXw hM
theorem c99 (l:List Note):Fp Tryz.prog 99 [.s 7 (l.map D0),.s 7 (l.map D0)] (dB true):=by
 refine fXw Tryz.func99 Tryz.ntmps99 fun c hM=>?_
 (repeat' (first|refine Wz ?_|refine Wb fun hb=>?_|refine Wd (fun hh=>?_) fun hh=>?_))
 ·exact absurd rfl hh
 refine X_lp (ι:=Nat) 67100720 [] (fun i=>[(13,.d (dI i))]) (fun _=>[]) (fun i=>i≤l.length) (fun i=>l.length-i) (0) ?_ ?_
 ·exact Nat.zero_le _
 rintro i hi
 by_cases hlt:i<l.length
 ·obtain⟨n,hn⟩:=gex hlt
  (repeat' (first|refine G_x (A2 (m:=i) Z Z Z Z (gm hn)) Z Z ?_|refine G_x (A5 fun _=>G6 C6q (G1v n) Z Z Z) Z Z ?_|refine Wz ?_|refine Wd (fun hh=>?_) fun hh=>?_))
  all_goals first|(exfalso;omega)|exact absurd rfl hh|exact A0 (i+1) (by omega) (by omega)
 ·(repeat' (first|refine Wz ?_|refine Wd (fun hh=>?_) fun hh=>?_))
  all_goals first|(exfalso;omega)|exact rXw hM
theorem c102 (l:List Prt):Fp Tryz.prog 102 [.s 3 (l.map prtC),.s 3 (l.map prtC)] (dB true):=by
 refine fXw Tryz.func102 Tryz.ntmps102 fun c hM=>?_
 (repeat' (first|refine Wz ?_|refine Wb fun hb=>?_|refine Wd (fun hh=>?_) fun hh=>?_))
 ·exact absurd rfl hh
 refine X_lp (ι:=Nat) 67100720 [] (fun i=>[(13,.d (dI i))]) (fun _=>[]) (fun i=>i≤l.length) (fun i=>l.length-i) (0) ?_ ?_
 ·exact Nat.zero_le _
 rintro i hi
 by_cases hlt:i<l.length
 ·obtain⟨n,hn⟩:=gex hlt
  (repeat' (first|refine G_x (A2 (m:=i) Z Z Z Z (gm hn)) Z Z ?_|refine G_x (A5 fun _=>G6 C6m (G1r n) Z Z Z) Z Z ?_|refine Wz ?_|refine Wd (fun hh=>?_) fun hh=>?_))
  all_goals first|(exfalso;omega)|exact absurd rfl hh|exact A0 (i+1) (by omega) (by omega)
 ·(repeat' (first|refine Wz ?_|refine Wd (fun hh=>?_) fun hh=>?_))
  all_goals first|(exfalso;omega)|exact rXw hM
theorem c103 (l:List Rf):Fp Tryz.prog 103 [.s 2 (l.map rfC),.s 2 (l.map rfC)] (dB true):=by
 refine fXw Tryz.func103 Tryz.ntmps103 fun c hM=>?_
 (repeat' (first|refine Wz ?_|refine Wb fun hb=>?_|refine Wd (fun hh=>?_) fun hh=>?_))
 ·exact absurd rfl hh
 refine X_lp (ι:=Nat) 67100720 [] (fun i=>[(13,.d (dI i))]) (fun _=>[]) (fun i=>i≤l.length) (fun i=>l.length-i) (0) ?_ ?_
 ·exact Nat.zero_le _
 rintro i hi
 by_cases hlt:i<l.length
 ·obtain⟨n,hn⟩:=gex hlt
  (repeat' (first|refine G_x (A2 (m:=i) Z Z Z Z (gm hn)) Z Z ?_|refine G_x (A5 fun _=>G6 C6j (D7d n) Z Z Z) Z Z ?_|refine Wz ?_|refine Wd (fun hh=>?_) fun hh=>?_))
  all_goals first|(exfalso;omega)|exact absurd rfl hh|exact A0 (i+1) (by omega) (by omega)
 ·(repeat' (first|refine Wz ?_|refine Wd (fun hh=>?_) fun hh=>?_))
  all_goals first|(exfalso;omega)|exact rXw hM
theorem c106 (l:List Pers):Fp Tryz.prog 106 [.s 3 (l.map L2),.s 3 (l.map L2)] (dB true):=by
 refine fXw Tryz.func106 Tryz.ntmps106 fun c hM=>?_
 (repeat' (first|refine Wz ?_|refine Wb fun hb=>?_|refine Wd (fun hh=>?_) fun hh=>?_))
 ·exact absurd rfl hh
 refine X_lp (ι:=Nat) 67100720 [] (fun i=>[(13,.d (dI i))]) (fun _=>[]) (fun i=>i≤l.length) (fun i=>l.length-i) (0) ?_ ?_
 ·exact Nat.zero_le _
 rintro i hi
 by_cases hlt:i<l.length
 ·obtain⟨n,hn⟩:=gex hlt
  (repeat' (first|refine G_x (A2 (m:=i) Z Z Z Z (gm hn)) Z Z ?_|refine G_x (A5 fun _=>G6 D6n (G4f n) Z Z Z) Z Z ?_|refine Wz ?_|refine Wd (fun hh=>?_) fun hh=>?_))
  all_goals first|(exfalso;omega)|exact absurd rfl hh|exact A0 (i+1) (by omega) (by omega)
 ·(repeat' (first|refine Wz ?_|refine Wd (fun hh=>?_) fun hh=>?_))
  all_goals first|(exfalso;omega)|exact rXw hM
theorem c108 (l:List Cons):Fp Tryz.prog 108 [.s 4 (l.map T1),.s 4 (l.map T1)] (dB true):=by
 refine fXw Tryz.func108 Tryz.ntmps108 fun c hM=>?_
 (repeat' (first|refine Wz ?_|refine Wb fun hb=>?_|refine Wd (fun hh=>?_) fun hh=>?_))
 ·exact absurd rfl hh
 refine X_lp (ι:=Nat) 67100720 [] (fun i=>[(13,.d (dI i))]) (fun _=>[]) (fun i=>i≤l.length) (fun i=>l.length-i) (0) ?_ ?_
 ·exact Nat.zero_le _
 rintro i hi
 by_cases hlt:i<l.length
 ·obtain⟨n,hn⟩:=gex hlt
  (repeat' (first|refine G_x (A2 (m:=i) Z Z Z Z (gm hn)) Z Z ?_|refine G_x (A5 fun _=>G6 D6m (G4e n) Z Z Z) Z Z ?_|refine Wz ?_|refine Wd (fun hh=>?_) fun hh=>?_))
  all_goals first|(exfalso;omega)|exact absurd rfl hh|exact A0 (i+1) (by omega) (by omega)
 ·(repeat' (first|refine Wz ?_|refine Wd (fun hh=>?_) fun hh=>?_))
  all_goals first|(exfalso;omega)|exact rXw hM
theorem c238 (l:List Sns):Fp Tryz.prog 238 [.s 2 (l.map snC),.s 2 (l.map snC)] (dB true):=by
 refine fXw Tryz.func238 Tryz.ntmps238 fun c hM=>?_
 (repeat' (first|refine Wz ?_|refine Wb fun hb=>?_|refine Wd (fun hh=>?_) fun hh=>?_))
 ·exact absurd rfl hh
 refine X_lp (ι:=Nat) 67100720 [] (fun i=>[(13,.d (dI i))]) (fun _=>[]) (fun i=>i≤l.length) (fun i=>l.length-i) (0) ?_ ?_
 ·exact Nat.zero_le _
 rintro i hi
 by_cases hlt:i<l.length
 ·obtain⟨n,hn⟩:=gex hlt
  (repeat' (first|refine G_x (A2 (m:=i) Z Z Z Z (gm hn)) Z Z ?_|refine G_x (A5 fun _=>G6 C6k (G1p n) Z Z Z) Z Z ?_|refine Wz ?_|refine Wd (fun hh=>?_) fun hh=>?_))
  all_goals first|(exfalso;omega)|exact absurd rfl hh|exact A0 (i+1) (by omega) (by omega)
 ·(repeat' (first|refine Wz ?_|refine Wd (fun hh=>?_) fun hh=>?_))
  all_goals first|(exfalso;omega)|exact rXw hM
theorem c239 (l:List Lnk):Fp Tryz.prog 239 [.s 2 (l.map lkC),.s 2 (l.map lkC)] (dB true):=by
 refine fXw Tryz.func239 Tryz.ntmps239 fun c hM=>?_
 (repeat' (first|refine Wz ?_|refine Wb fun hb=>?_|refine Wd (fun hh=>?_) fun hh=>?_))
 ·exact absurd rfl hh
 refine X_lp (ι:=Nat) 67100720 [] (fun i=>[(13,.d (dI i))]) (fun _=>[]) (fun i=>i≤l.length) (fun i=>l.length-i) (0) ?_ ?_
 ·exact Nat.zero_le _
 rintro i hi
 by_cases hlt:i<l.length
 ·obtain⟨n,hn⟩:=gex hlt
  (repeat' (first|refine G_x (A2 (m:=i) Z Z Z Z (gm hn)) Z Z ?_|refine G_x (A5 fun _=>G6 C6l (G1q n) Z Z Z) Z Z ?_|refine Wz ?_|refine Wd (fun hh=>?_) fun hh=>?_))
  all_goals first|(exfalso;omega)|exact absurd rfl hh|exact A0 (i+1) (by omega) (by omega)
 ·(repeat' (first|refine Wz ?_|refine Wd (fun hh=>?_) fun hh=>?_))
  all_goals first|(exfalso;omega)|exact rXw hM
end
section
open Go.RowKit Go.En Go.Dl Go.Tp
attribute [local irreducible] X XL XW XG XK Val LS Fp Fo Calls bodyPost Code.wp
theorem c87 (u:Unt):Fp Tryz.prog 87 [.g (untC u),.g (untC u)] (dB true):=by
 refine fXw Tryz.func87 Tryz.ntmps87 fun c hM=>?_
 (repeat' (first|refine cDw en88 (c88 u.segs) ?_|refine Wz ?_|refine Wd (fun hh=>?_) fun hh=>?_))
 all_goals first|exact absurd rfl hh|exact rXw hM
theorem c91 (l:List Unt):Fp Tryz.prog 91 [.s 2 (l.map untC),.s 2 (l.map untC),.v (.func (.func 87) #[] #[])] (dB true):=by
 refine fXw Tryz.func91 Tryz.ntmps91 fun c hM=>?_
 (repeat' (first|refine Wz ?_|refine Wb fun hb=>?_|refine Wd (fun hh=>?_) fun hh=>?_))
 ·exact absurd rfl hh
 refine X_lp (ι:=Nat) 4294837184 [] (fun i=>[(17,.d (dI i))]) (fun _=>[]) (fun i=>i≤l.length) (fun i=>l.length-i) (0) ?_ ?_
 ·exact Nat.zero_le _
 rintro i hi
 by_cases hlt:i<l.length
 ·obtain⟨n,hn⟩:=gex hlt
  (repeat' (first|refine iDw (gm hn) ?_|refine G_x (G8 rfl rfl rfl rfl en87 (c87 n)) rfl rfl ?_|refine Wz ?_|refine Wd (fun hh=>?_) fun hh=>?_))
  all_goals first|(exfalso;omega)|exact A0 (i+1) (by omega) (by omega)
 ·(repeat' (first|refine Wz ?_|refine Wd (fun hh=>?_) fun hh=>?_))
  all_goals first|(exfalso;omega)|exact rXw hM
theorem c92 (l:List (List Tx)):Fp Tryz.prog 92 [.s 1 (l.map fun q=>[txts q]),.s 1 (l.map fun q=>[txts q]),.v (.func (.func 93) #[] #[])] (dB true):=by
 refine fXw Tryz.func92 Tryz.ntmps92 fun c hM=>?_
 (repeat' (first|refine Wz ?_|refine Wb fun hb=>?_|refine Wd (fun hh=>?_) fun hh=>?_))
 ·exact absurd rfl hh
 refine X_lp (ι:=Nat) 4294837184 [] (fun i=>[(17,.d (dI i))]) (fun _=>[]) (fun i=>i≤l.length) (fun i=>l.length-i) (0) ?_ ?_
 ·exact Nat.zero_le _
 rintro i hi
 by_cases hlt:i<l.length
 ·obtain⟨n,hn⟩:=gex hlt
  (repeat' (first|refine iDw (gm hn) ?_|refine G_x (G8 rfl rfl rfl rfl en93 (c93 n)) rfl rfl ?_|refine Wz ?_|refine Wd (fun hh=>?_) fun hh=>?_))
  all_goals first|(exfalso;omega)|exact A0 (i+1) (by omega) (by omega)
 ·(repeat' (first|refine Wz ?_|refine Wd (fun hh=>?_) fun hh=>?_))
  all_goals first|(exfalso;omega)|exact rXw hM
theorem c237 (l:List (List Int)):Fp Tryz.prog 237 [.s 1 (l.map fun q=>[ints q]),.s 1 (l.map fun q=>[ints q]),.v (.func (.func 88) #[] #[])] (dB true):=by
 refine fXw Tryz.func237 Tryz.ntmps237 fun c hM=>?_
 (repeat' (first|refine Wz ?_|refine Wb fun hb=>?_|refine Wd (fun hh=>?_) fun hh=>?_))
 ·exact absurd rfl hh
 refine X_lp (ι:=Nat) 4294837184 [] (fun i=>[(17,.d (dI i))]) (fun _=>[]) (fun i=>i≤l.length) (fun i=>l.length-i) (0) ?_ ?_
 ·exact Nat.zero_le _
 rintro i hi
 by_cases hlt:i<l.length
 ·obtain⟨n,hn⟩:=gex hlt
  (repeat' (first|refine iDw (gm hn) ?_|refine G_x (G8 rfl rfl rfl rfl en88 (c88 n)) rfl rfl ?_|refine Wz ?_|refine Wd (fun hh=>?_) fun hh=>?_))
  all_goals first|(exfalso;omega)|exact A0 (i+1) (by omega) (by omega)
 ·(repeat' (first|refine Wz ?_|refine Wd (fun hh=>?_) fun hh=>?_))
  all_goals first|(exfalso;omega)|exact rXw hM
end
section
open Go.RowKit Go.En Go.Dl Go.Tp
attribute [local irreducible] X XL XW XG XK Val LS Fp Fo Calls bodyPost Code.wp
theorem G1o (a b:Int):EqS Tryz.prog 10000 82 (.agg #[int a,int b]):=
 H3 (d:=9999) C6i ⟨rfl,⟨_,C5 Tryz.underlying3 rfl,D2 Tryz.underlying3⟩,rfl,⟨_,C5 Tryz.underlying3 rfl,D2 Tryz.underlying3⟩,trivial⟩
theorem c184 (e:Entr):Fp Tryz.prog 184 [.g (entC e),.g (entC e)] (dB true):=by
 refine fXw Tryz.func184 Tryz.ntmps184 fun c hM=>?_
 (repeat' (first|refine G_x (A1 rfl rfl rfl en88 (c88 e.form) (.eq rfl)) rfl rfl ?_|refine G_x (A1 rfl rfl rfl G6e (c237 e.alts) (.eq rfl)) rfl rfl ?_|refine G_x (A1 rfl rfl rfl G6d (c238 e.senses) (.eq rfl)) rfl rfl ?_|refine G_x (A1 rfl rfl rfl G6c (c239 e.links) (.eq rfl)) rfl rfl ?_|refine G_x (A1 rfl rfl rfl D9i (c103 e.refs) (.eq rfl)) rfl rfl ?_|refine Wz ?_|refine Wd (fun hh=>?_) fun hh=>?_))
 all_goals first|exact absurd rfl hh|exact rXw hM
theorem c34 (d:Doc):Fp Tryz.prog 34 [.g (docC d),.g (docC d)] (dB true):=by
 refine fXw Tryz.func34 Tryz.ntmps34 fun c hM=>?_
 (repeat' (first|refine G_x (A1 rfl rfl rfl en88 (c88 d.rc.sp) (.eq rfl)) rfl rfl ?_|refine G_x (A1 rfl rfl rfl en98 (c98 d.tiers) (.eq rfl)) rfl rfl ?_|refine G_x (A1 rfl rfl rfl en99 (c99 d.notes) (.eq rfl)) rfl rfl ?_|refine Wz ?_|refine Wd (fun hh=>?_) fun hh=>?_))
 all_goals first|exact absurd rfl hh|exact rXw hM
theorem c89 (r:Rew):Fp Tryz.prog 89 [.g (rewC r),.g (rewC r)] (dB true):=by
 refine fXw Tryz.func89 Tryz.ntmps89 fun c hM=>?_
 (repeat' (first|refine G_x (A1 rfl rfl rfl en88 (c88 r.frm) (.eq rfl)) rfl rfl ?_|refine G_x (A1 rfl rfl rfl en88 (c88 r.til) (.eq rfl)) rfl rfl ?_|refine G_x (A1 rfl rfl rfl en90 (c90 r.left) (.eq rfl)) rfl rfl ?_|refine G_x (A1 rfl rfl rfl en90 (c90 r.right) (.eq rfl)) rfl rfl ?_|refine Wz ?_|fail))
 all_goals first|exact absurd rfl hh|exact rXw hM
theorem c101 (d:Dcn):Fp Tryz.prog 101 [.g (dcnC d),.g (dcnC d)] (dB true):=by
 refine fXw Tryz.func101 Tryz.ntmps101 fun c hM=>?_
 (repeat' (first|refine G_x (A5 fun _=>A2s C6j (D7d d.ref) Z Z Z) Z Z ?_|refine G_x (A1 rfl rfl rfl G8r (c102 d.pick) (.eq rfl)) Z Z ?_|refine Wz ?_|fail))
 all_goals first|exact absurd rfl hh|exact rXw hM
theorem c37 (p:Pnt):Fp Tryz.prog 37 [.g (pntC p),.g (pntC p)] (dB true):=by
 refine fXw Tryz.func37 Tryz.ntmps37 fun c hM=>?_
 (repeat' (first|refine G_x (A1 rfl rfl rfl en88 (c88 p.entries) (.eq rfl)) rfl rfl ?_|refine G_x (A1 rfl rfl rfl D9i (c103 p.refs) (.eq rfl)) rfl rfl ?_|refine Wz ?_|refine Wd (fun hh=>?_) fun hh=>?_))
 all_goals first|exact absurd rfl hh|exact rXw hM
theorem c104 (g:Grp):Fp Tryz.prog 104 [.g (grpC g),.g (grpC g)] (dB true):=by
 refine fXw Tryz.func104 Tryz.ntmps104 fun c hM=>?_
 (repeat' (first|refine G_x (A1 rfl rfl rfl en88 (c88 g.people) (.eq rfl)) rfl rfl ?_|refine G_x (A1 rfl rfl rfl en88 (c88 g.subs) (.eq rfl)) rfl rfl ?_|refine Wz ?_|refine Wd (fun hh=>?_) fun hh=>?_))
 all_goals first|exact absurd rfl hh|exact rXw hM
theorem c105 (r:Rul):Fp Tryz.prog 105 [.g (rulC r),.g (rulC r)] (dB true):=by
 refine fXw Tryz.func105 Tryz.ntmps105 fun c hM=>?_
 (repeat' (first|refine G_x (A5 fun _=>A2s C6i (G1o _ _) Z Z Z) Z Z ?_|refine G_x (A1 rfl rfl rfl en88 (c88 r.prot.groups) (.eq rfl)) Z Z ?_|refine Wz ?_|refine Wd (fun hh=>?_) fun hh=>?_))
 all_goals first|exact absurd rfl hh|exact rXw hM
theorem c33 (l:List Doc):Fp Tryz.prog 33 [docs l,docs l,.v (.func (.func 34) #[] #[])] (dB true):=by
 refine fXw Tryz.func33 Tryz.ntmps33 fun c hM=>?_
 (repeat' (first|refine Wz ?_|refine Wb fun hb=>?_|refine Wd (fun hh=>?_) fun hh=>?_))
 ·exact absurd rfl hh
 refine X_lp (ι:=Nat) 4294837184 [] (fun i=>[(17,.d (dI i))]) (fun _=>[]) (fun i=>i≤l.length) (fun i=>l.length-i) (0) ?_ ?_
 ·exact Nat.zero_le _
 rintro i hi
 by_cases hlt:i<l.length
 ·obtain⟨n,hn⟩:=gex hlt
  (repeat' (first|refine iDw (gm hn) ?_|refine G_x (G8 rfl rfl rfl rfl en34 (c34 n)) rfl rfl ?_|refine Wz ?_|refine Wd (fun hh=>?_) fun hh=>?_))
  all_goals first|(exfalso;omega)|exact A0 (i+1) (by omega) (by omega)
 ·(repeat' (first|refine Wz ?_|refine Wd (fun hh=>?_) fun hh=>?_))
  all_goals first|(exfalso;omega)|exact rXw hM
theorem c36 (l:List Pnt):Fp Tryz.prog 36 [pnts l,pnts l,.v (.func (.func 37) #[] #[])] (dB true):=by
 refine fXw Tryz.func36 Tryz.ntmps36 fun c hM=>?_
 (repeat' (first|refine Wz ?_|refine Wb fun hb=>?_|refine Wd (fun hh=>?_) fun hh=>?_))
 ·exact absurd rfl hh
 refine X_lp (ι:=Nat) 4294837184 [] (fun i=>[(17,.d (dI i))]) (fun _=>[]) (fun i=>i≤l.length) (fun i=>l.length-i) (0) ?_ ?_
 ·exact Nat.zero_le _
 rintro i hi
 by_cases hlt:i<l.length
 ·obtain⟨n,hn⟩:=gex hlt
  (repeat' (first|refine iDw (gm hn) ?_|refine G_x (G8 rfl rfl rfl rfl en37 (c37 n)) rfl rfl ?_|refine Wz ?_|refine Wd (fun hh=>?_) fun hh=>?_))
  all_goals first|(exfalso;omega)|exact A0 (i+1) (by omega) (by omega)
 ·(repeat' (first|refine Wz ?_|refine Wd (fun hh=>?_) fun hh=>?_))
  all_goals first|(exfalso;omega)|exact rXw hM
theorem c96 (l:List Rew):Fp Tryz.prog 96 [.s 6 (l.map rewC),.s 6 (l.map rewC),.v (.func (.func 89) #[] #[])] (dB true):=by
 refine fXw Tryz.func96 Tryz.ntmps96 fun c hM=>?_
 (repeat' (first|refine Wz ?_|refine Wb fun hb=>?_|refine Wd (fun hh=>?_) fun hh=>?_))
 ·exact absurd rfl hh
 refine X_lp (ι:=Nat) 4294837184 [] (fun i=>[(17,.d (dI i))]) (fun _=>[]) (fun i=>i≤l.length) (fun i=>l.length-i) (0) ?_ ?_
 ·exact Nat.zero_le _
 rintro i hi
 by_cases hlt:i<l.length
 ·obtain⟨n,hn⟩:=gex hlt
  (repeat' (first|refine iDw (gm hn) ?_|refine G_x (G8 rfl rfl rfl rfl en89 (c89 n)) rfl rfl ?_|refine Wz ?_|refine Wd (fun hh=>?_) fun hh=>?_))
  all_goals first|(exfalso;omega)|exact A0 (i+1) (by omega) (by omega)
 ·(repeat' (first|refine Wz ?_|refine Wd (fun hh=>?_) fun hh=>?_))
  all_goals first|(exfalso;omega)|exact rXw hM
theorem c100 (l:List Dcn):Fp Tryz.prog 100 [dcns l,dcns l,.v (.func (.func 101) #[] #[])] (dB true):=by
 refine fXw Tryz.func100 Tryz.ntmps100 fun c hM=>?_
 (repeat' (first|refine Wz ?_|refine Wb fun hb=>?_|refine Wd (fun hh=>?_) fun hh=>?_))
 ·exact absurd rfl hh
 refine X_lp (ι:=Nat) 4294837184 [] (fun i=>[(17,.d (dI i))]) (fun _=>[]) (fun i=>i≤l.length) (fun i=>l.length-i) (0) ?_ ?_
 ·exact Nat.zero_le _
 rintro i hi
 by_cases hlt:i<l.length
 ·obtain⟨n,hn⟩:=gex hlt
  (repeat' (first|refine iDw (gm hn) ?_|refine G_x (G8 rfl rfl rfl rfl G8s (c101 n)) rfl rfl ?_|refine Wz ?_|refine Wd (fun hh=>?_) fun hh=>?_))
  all_goals first|(exfalso;omega)|exact A0 (i+1) (by omega) (by omega)
 ·(repeat' (first|refine Wz ?_|refine Wd (fun hh=>?_) fun hh=>?_))
  all_goals first|(exfalso;omega)|exact rXw hM
theorem c107 (l:List Grp):Fp Tryz.prog 107 [.s 4 (l.map grpC),.s 4 (l.map grpC),.v (.func (.func 104) #[] #[])] (dB true):=by
 refine fXw Tryz.func107 Tryz.ntmps107 fun c hM=>?_
 (repeat' (first|refine Wz ?_|refine Wb fun hb=>?_|refine Wd (fun hh=>?_) fun hh=>?_))
 ·exact absurd rfl hh
 refine X_lp (ι:=Nat) 4294837184 [] (fun i=>[(17,.d (dI i))]) (fun _=>[]) (fun i=>i≤l.length) (fun i=>l.length-i) (0) ?_ ?_
 ·exact Nat.zero_le _
 rintro i hi
 by_cases hlt:i<l.length
 ·obtain⟨n,hn⟩:=gex hlt
  (repeat' (first|refine iDw (gm hn) ?_|refine G_x (G8 rfl rfl rfl rfl G8q (c104 n)) rfl rfl ?_|refine Wz ?_|refine Wd (fun hh=>?_) fun hh=>?_))
  all_goals first|(exfalso;omega)|exact A0 (i+1) (by omega) (by omega)
 ·(repeat' (first|refine Wz ?_|refine Wd (fun hh=>?_) fun hh=>?_))
  all_goals first|(exfalso;omega)|exact rXw hM
theorem c109 (l:List Rul):Fp Tryz.prog 109 [.s 6 (l.map rulC),.s 6 (l.map rulC),.v (.func (.func 105) #[] #[])] (dB true):=by
 refine fXw Tryz.func109 Tryz.ntmps109 fun c hM=>?_
 (repeat' (first|refine Wz ?_|refine Wb fun hb=>?_|refine Wd (fun hh=>?_) fun hh=>?_))
 ·exact absurd rfl hh
 refine X_lp (ι:=Nat) 4294837184 [] (fun i=>[(17,.d (dI i))]) (fun _=>[]) (fun i=>i≤l.length) (fun i=>l.length-i) (0) ?_ ?_
 ·exact Nat.zero_le _
 rintro i hi
 by_cases hlt:i<l.length
 ·obtain⟨n,hn⟩:=gex hlt
  (repeat' (first|refine iDw (gm hn) ?_|refine G_x (G8 rfl rfl rfl rfl G8p (c105 n)) rfl rfl ?_|refine Wz ?_|refine Wd (fun hh=>?_) fun hh=>?_))
  all_goals first|(exfalso;omega)|exact A0 (i+1) (by omega) (by omega)
 ·(repeat' (first|refine Wz ?_|refine Wd (fun hh=>?_) fun hh=>?_))
  all_goals first|(exfalso;omega)|exact rXw hM
theorem c183 (l:List Entr):Fp Tryz.prog 183 [lexD l,lexD l,.v (.func (.func 184) #[] #[])] (dB true):=by
 refine fXw Tryz.func183 Tryz.ntmps183 fun c hM=>?_
 (repeat' (first|refine Wz ?_|refine Wb fun hb=>?_|refine Wd (fun hh=>?_) fun hh=>?_))
 ·exact absurd rfl hh
 refine X_lp (ι:=Nat) 4294837184 [] (fun i=>[(17,.d (dI i))]) (fun _=>[]) (fun i=>i≤l.length) (fun i=>l.length-i) (0) ?_ ?_
 ·exact Nat.zero_le _
 rintro i hi
 by_cases hlt:i<l.length
 ·obtain⟨n,hn⟩:=gex hlt
  (repeat' (first|refine iDw (gm hn) ?_|refine G_x (G8 rfl rfl rfl rfl G7d (c184 n)) rfl rfl ?_|refine Wz ?_|refine Wd (fun hh=>?_) fun hh=>?_))
  all_goals first|(exfalso;omega)|exact A0 (i+1) (by omega) (by omega)
 ·(repeat' (first|refine Wz ?_|refine Wd (fun hh=>?_) fun hh=>?_))
  all_goals first|(exfalso;omega)|exact rXw hM
theorem c97 (l:List Entr):Fp Tryz.prog 97 [lexD l,lexD l] (dB true):=by
 refine fXw Tryz.func97 Tryz.ntmps97 fun c hM=>?_
 (repeat' (first|refine G_x (A1 rfl rfl rfl G7e (c183 l) (.eq rfl)) rfl rfl ?_|refine Wz ?_|fail))
 all_goals first|exact absurd rfl hh|exact rXw hM
theorem c35 (l:List Dcn):Fp Tryz.prog 35 [dcns l,dcns l] (dB true):=by
 refine fXw Tryz.func35 Tryz.ntmps35 fun c hM=>?_
 (repeat' (first|refine G_x (A1 rfl rfl rfl G8t (c100 l) (.eq rfl)) rfl rfl ?_|refine Wz ?_|fail))
 all_goals first|exact absurd rfl hh|exact rXw hM
theorem c38 (r:Rgts):Fp Tryz.prog 38 [.g (Z2 r),.g (Z2 r)] (dB true):=by
 refine fXw Tryz.func38 Tryz.ntmps38 fun c hM=>?_
 (repeat' (first|refine G_x (A1 rfl rfl rfl G8o (c106 r.people) (.eq rfl)) rfl rfl ?_|refine G_x (A1 rfl rfl rfl G8n (c107 r.groups) (.eq rfl)) rfl rfl ?_|refine G_x (A1 rfl rfl rfl G8m (c108 r.consents) (.eq rfl)) rfl rfl ?_|refine G_x (A1 rfl rfl rfl G8l (c109 r.rules) (.eq rfl)) rfl rfl ?_|refine Wz ?_|fail))
 all_goals first|exact absurd rfl hh|exact rXw hM
theorem c32 (g:Lng):Fp Tryz.prog 32 [.g (lngC g),.g (lngC g)] (dB true):=by
 refine fXw Tryz.func32 Tryz.ntmps32 fun c hM=>?_
 (repeat' (first|refine G_x (A1 rfl rfl rfl en91 (c91 g.ortho.units) (.eq rfl)) rfl rfl ?_|refine G_x (A1 rfl rfl rfl en92 (c92 g.ortho.letters) (.eq rfl)) rfl rfl ?_|refine G_x (A1 rfl rfl rfl en94 (c94 g.net.steps) (.eq rfl)) rfl rfl ?_|refine G_x (A1 rfl rfl rfl en88 (c88 g.net.final) (.eq rfl)) rfl rfl ?_|refine G_x (A1 rfl rfl rfl en95 (c95 g.segs) (.eq rfl)) rfl rfl ?_|refine G_x (A1 rfl rfl rfl en96 (c96 g.rules) (.eq rfl)) rfl rfl ?_|refine G_x (A1 rfl rfl rfl en97 (c97 g.lex) (.eq rfl)) rfl rfl ?_|refine Wz ?_|refine Wd (fun hh=>?_) fun hh=>?_))
 all_goals first|exact absurd rfl hh|exact rXw hM
theorem c9 (p:Prj):Fp Tryz.prog 9 [.g (prjC p),.g (prjC p)] (dB true):=by
 refine fXw Tryz.func9 Tryz.ntmps9 fun c hM=>?_
 (repeat' (first|refine G_x (A1 rfl rfl rfl en32 (c32 p.lang) (.eq rfl)) rfl rfl ?_|refine G_x (A1 rfl rfl rfl en33 (c33 p.docs) (.eq rfl)) rfl rfl ?_|refine G_x (A1 rfl rfl rfl en35 (c35 p.dcns) (.eq rfl)) rfl rfl ?_|refine G_x (A1 rfl rfl rfl en36 (c36 p.pnts) (.eq rfl)) rfl rfl ?_|refine G_x (A1 rfl rfl rfl en38 (c38 p.rgts) (.eq rfl)) rfl rfl ?_|refine Wz ?_|fail))
 all_goals first|exact absurd rfl hh|exact rXw hM
end
end Go.Proofs.YtojadfppncgphaaGreatDoor