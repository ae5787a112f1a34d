/- Own text. -/
import Derived.Test.YtojadfppncgphaaGreatDoorUf
import Derived.Test.YtojadfppncgphaaGreatDoorUd
set_option linter.all false
set_option maxHeartbeats 16000000
set_option maxRecDepth 8000
namespace Go.Proofs.YtojadfppncgphaaGreatDoor
open Go.RowKit Go.En Go.Dl Go.Tp
theorem B9s {p:Prj} (h:PrjS p) (person day:Int):PrjS (Z5 p person day):={ lang:=h.lang,docs:=h.docs,names:=h.names,notes:=h.notes,recs:=h.recs,pnts:=h.pnts,people:=h.people,groups:=h.groups,subs:=h.subs }
theorem D2d {p:Prj} (h:PrjS p) (k:Doc→Bool):PrjS (cutP p k):={ lang:=h.lang,docs:=Nat.le_trans (List.length_filter_le _ _) h.docs,names:=fun d hd=>h.names d (List.mem_filter.mp hd).1,notes:=fun d hd=>h.notes d (List.mem_filter.mp hd).1,recs:=fun d hd=>h.recs d (List.mem_filter.mp hd).1,pnts:=h.pnts,people:=h.people,groups:=h.groups,subs:=h.subs }
theorem D1m {α:Type} {p:α→Bool} {l:List α} {i:Nat} {x:α} (h:l[i]?=some x):(l.take (i+1)).any p=((l.take i).any p||p x):=by
 rw [List.take_add_one,h,List.any_append];simp
abbrev yB (x:Prj) (l:Lf):Ob:=.box 47 (((prjC x).map .d).set 9 l)
attribute [local irreducible] X XL XW XG XK Val LS Fp Fo Calls bodyPost Code.wp
theorem law3 (p:Prj) (v:Vwr) (b:UInt8) (hS:PrjS p):Fp Tryz.prog 3 [.g (prjC p),.g (vwrC v),.v (.int .u8 (b.toNat:Int))] (dB true):=by
 have e5:=c5 p hS
 cases hL:prjL p with
 | false=>
  rw [hL] at e5
  refine fXw Tryz.func3 Tryz.ntmps3 fun c hM=>?_
  (repeat' (first|refine cDw en5 e5 ?_|refine cDw en6 c6 ?_|refine Wz ?_|fail))
  all_goals (try exact oMw)
  all_goals exact rXw hM
 | true=>
 rw [hL] at e5
 have F:=B8z hL
 by_cases hne:p.rgts.people.length=0
 ·refine fXw Tryz.func3 Tryz.ntmps3 fun c hM=>?_
  (repeat' (first|refine cDw en5 e5 ?_|refine cDw en6 c6 ?_|refine Wz ?_|refine Wb fun hb=>?_|refine Wd (fun hh=>?_) fun hh=>?_))
  all_goals (try exact oMw)
  all_goals exact rXw hM
 by_cases hd1:v.day<1
 ·refine fXw Tryz.func3 Tryz.ntmps3 fun c hM=>?_
  (repeat' (first|refine cDw en5 e5 ?_|refine cDw en6 c6 ?_|refine Wz ?_|refine Wb fun hb=>?_|refine Wd (fun hh=>?_) fun hh=>?_))
  all_goals (try exact oMw)
  all_goals exact rXw hM
 by_cases hd2:109573<v.day
 ·refine fXw Tryz.func3 Tryz.ntmps3 fun c hM=>?_
  (repeat' (first|refine cDw en5 e5 ?_|refine cDw en6 c6 ?_|refine Wz ?_|refine Wb fun hb=>?_|refine Wd (fun hh=>?_) fun hh=>?_))
  all_goals (try exact oMw)
  all_goals exact rXw hM
 obtain⟨m,hm⟩:∃ m:Nat,b.toNat % p.rgts.people.length=m:=⟨_,rfl⟩
 have hmlt:m<p.rgts.people.length:=by rw [← hm];exact Nat.mod_lt _ (by omega)
 have hmi:((b.toNat:Int) % (p.rgts.people.length:Int))=(m:Int):=by rw [← hm];exact(Int.natCast_emod _ _).symm
 obtain⟨q,hq⟩:=gex hmlt
 have e7:=c7 p.rgts.consents ⟨q.id,0,v.day,0⟩ (by have:=F.cons;omega)
 have hSx:=B9s hS q.id v.day
 have hVx:=C5e F F.cons q.id v.day
 have hvw:=B8i F q.id v
 obtain⟨k,hk⟩:∃ k,spkB q.id=k:=⟨_,rfl⟩
 rw [hk] at hvw
 refine fXw Tryz.func3 Tryz.ntmps3 fun c hM=>?_
 (repeat' (first|refine cDw en5 e5 ?_|(refine G_x (A2 (m:=m) rfl rfl rfl hmi (gm hq)) rfl rfl ?_)|refine cDw en7 e7 ?_|refine Wz ?_|refine Wb fun hb=>?_|refine Wd (fun hh=>?_) fun hh=>?_))
 all_goals (try exact oMw)
 refine A1m 9 9 901 62 7 rfl rfl rfl rfl rfl ?_
 refine X_lp (ι:=Nat × Nat) 81129638414605528774284398304256 [9,901] (fun s=>[(10,.d (dI s.1))]) (fun s=>[(9,yB (Z5 p q.id v.day) (.o 901 s.2)),(901,.ls 62 7 s.2 (((p.docs.take s.1).filter k).map docC))]) (fun s=>s.1≤p.docs.length) (fun s=>p.docs.length-s.1) ((0,0)) ?_ ?_
 ·exact Nat.zero_le _
 rintro⟨i,u⟩ hi
 dsimp only at hi ⊢
 have hnd:=F.nd
 by_cases hlt:i<p.docs.length
 ·obtain⟨d,hd⟩:=gex hlt
  have hle:((p.docs.take i).filter k).length≤i:=Nat.le_trans (List.length_filter_le _ _) (by rw [List.length_take];omega)
  have hkd:k d=!(d.rc.sp.any fun s=>decide (s=q.id)):=by rw [← hk];rfl
  (repeat' (first|refine Wz ?_|refine Wb fun hb=>?_|refine Wd (fun hh=>?_) fun hh=>?_))
  all_goals (try exact oMw)
  refine X_lp (ι:=Nat) 19807040480992131808709580800 [] (fun j=>[(11,.d (dB ((d.rc.sp.take j).any fun s=>decide (s=q.id)))),(12,.d (dI j))]) (fun _=>[]) (fun j=>j≤d.rc.sp.length) (fun j=>d.rc.sp.length-j) (0) ?_ ?_
  ·exact Nat.zero_le _
  rintro j hj
  by_cases hjl:j<d.rc.sp.length
  ·obtain⟨s,hs⟩:=gex hjl
   have hnx:=D1m (p:=fun s=>decide (s=q.id)) hs
   cases hb:(d.rc.sp.take j).any fun s=>decide (s=q.id) with
   | true=>
    rw [hb,Bool.true_or] at hnx
    (repeat' (first|refine iDw (gm hd) ?_|refine Wz ?_|refine Wb fun hb=>?_|refine Wd (fun hh=>?_) fun hh=>?_))
    all_goals (try exact oMw)
    exact A0 (j+1) (by omega) (by omega) (hf:=A6 (by rw [hnx];rfl) (A6 rfl (B9 _)))
   | false=>
    rw [hb,Bool.false_or] at hnx
    by_cases hsq:s=q.id
    ·rw [decide_eq_true hsq] at hnx
     (repeat' (first|refine iDw (gm hd) ?_|refine iDw (gm hs) ?_|refine Wz ?_|refine Wb fun hb=>?_|refine Wd (fun hh=>?_) fun hh=>?_))
     all_goals (try exact oMw)
     exact A0 (j+1) (by omega) (by omega) (hf:=A6 (by rw [hnx];rfl) (A6 rfl (B9 _)))
    ·rw [decide_eq_false hsq] at hnx
     (repeat' (first|refine iDw (gm hd) ?_|refine iDw (gm hs) ?_|refine Wz ?_|refine Wb fun hb=>?_|refine Wd (fun hh=>?_) fun hh=>?_))
     all_goals (try exact oMw)
     exact A0 (j+1) (by omega) (by omega) (hf:=A6 (by rw [hnx];rfl) (A6 rfl (B9 _)))
  have hz:j=d.rc.sp.length:=by omega
  subst hz
  rw [List.take_length]
  cases hb:d.rc.sp.any fun s=>decide (s=q.id) with
  | true=>
   rw [hb] at hkd
   have hkd2:k d=false:=hkd
   (repeat' (first|refine iDw (gm hd) ?_|refine Wz ?_|refine Wb fun hb=>?_|refine Wd (fun hh=>?_) fun hh=>?_))
   all_goals (try exact oMw)
   exact A0 (i+1,u) (by dsimp only;omega) (by dsimp only;omega) (hh:=A3 rfl (A3 (by dsimp only;rw [G3 hd hkd2];rfl) (A4 _))) (hh':=hSw)
  | false=>
   rw [hb] at hkd
   have hkd2:k d=true:=hkd
   have hrow:((p.docs.take (i+1)).filter k).map docC=((p.docs.take i).filter k).map docC++[docC d]:=by rw [G1 hd hkd2];simp
   (repeat' (first|refine iDw (gm hd) ?_|refine Wz ?_|refine Wb fun hb=>?_|refine Wd (fun hh=>?_) fun hh=>?_))
   all_goals (try exact oMw)
   exact A0 (i+1,u+1) (by dsimp only;omega) (by dsimp only;omega) (hh:=A3 rfl (A3 (by dsimp only;rw [hrow];rfl) (A4 _))) (hh':=hSw)
 have hz:i=p.docs.length:=by omega
 subst hz
 rw [List.take_length]
 have hcl:=List.length_filter_le k p.docs
 (repeat' ((fail_if_success (refine J1 (x:=(Code.region 18 _ _)) ?_));first|refine Wz ?_|refine Wb fun hb=>?_|refine Wd (fun hh=>?_) fun hh=>?_))
 all_goals (try exact oMw)
 refine T4 9 9 rfl rfl rfl (by rw [List.length_map];omega) ?_
 have e8:=c8 _ hSx
 have e8y:=c8 _ (D2d hSx k)
 by_cases hx8:prjE (Z5 p q.id v.day)=0
 rotate_left
 ·(repeat' (first|refine G_x (A1 rfl rfl rfl en8 (e8) (.eq rfl)) rfl rfl ?_|refine cDw en6 c6 ?_|refine Wz ?_|refine Wd (fun hh=>?_) fun hh=>?_))
  all_goals (try exact oMw)
  all_goals exact rXw hM
 by_cases hy8:prjE (cutP (Z5 p q.id v.day) k)=0
 rotate_left
 ·(repeat' (first|refine G_x (A1 rfl rfl rfl en8 (e8) (.eq rfl)) rfl rfl ?_|refine G_x (A1 rfl rfl rfl en8 (e8y) (.eq rfl)) rfl rfl ?_|refine cDw en6 c6 ?_|refine Wz ?_|refine Wd (fun hh=>?_) fun hh=>?_))
  all_goals (try exact oMw)
  all_goals exact rXw hM
 have ex:=c10 _ v hVx
 have ey:=c10 _ v (D5z hVx k)
 rw [hvw] at ey
 have e9:=c9 (Q4 (Z5 p q.id v.day) v)
 (repeat' (first|refine G_x (A1 rfl rfl rfl en8 (e8) (.eq rfl)) rfl rfl ?_|refine G_x (A1 rfl rfl rfl en8 (e8y) (.eq rfl)) rfl rfl ?_|refine G_x (A1 rfl rfl rfl en10 (ex) (.eq rfl)) rfl rfl ?_|refine G_x (A1 rfl rfl rfl en10 (ey) (.eq rfl)) rfl rfl ?_|refine cDw en9 e9 ?_|refine cDw en6 c6 ?_|refine Wz ?_|refine Wd (fun hh=>?_) fun hh=>?_))
 all_goals (try exact oMw)
 all_goals exact rXw hM
end Go.Proofs.YtojadfppncgphaaGreatDoor
