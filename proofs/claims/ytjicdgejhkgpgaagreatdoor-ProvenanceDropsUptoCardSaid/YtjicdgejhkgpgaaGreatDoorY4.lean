/-
  Own text of the proof.
-/
import Derived.Test.YtjicdgejhkgpgaaGreatDoorY3
import Derived.Test.YtjicdgejhkgpgaaGreatDoorY2
import Derived.Test.YtjicdgejhkgpgaaGreatDoorYe
import Derived.Test.YtjicdgejhkgpgaaGreatDoorYf
import Derived.Test.YtjicdgejhkgpgaaGreatDoorYp
import Derived.Test.YtjicdgejhkgpgaaGreatDoorYx
set_option linter.all false
set_option maxHeartbeats 8000000
set_option maxRecDepth 8000
namespace Go.Proofs.YtjicdgejhkgpgaaGreatDoor
section
open Go.RowKit Go.En Go.Pv
theorem A4h (s:List UInt8) (a n:Nat):(s.take (a+n)).drop a=(s.drop a).take n:=by rw [List.drop_take];congr 1;omega
attribute [local irreducible] E EL K Val Enters Rt Calls bodyPost Code.wp RQ
theorem B3i (us:List Unt) (hg:∀ u∈us,1≤u.graph.length∧u.graph.length≤32) (s:List UInt8) (hs:s.length≤1000000) (nm:List UInt8) (uv tv:Value) (w:World) (hu:Sl w uv us):Calls Tryz.prog 69 #[.agg #[str nm,uv,tv],str s] w (Rt fun u w'=>(∃ v,u=.tuple #[v,int (G3 us s.length s).2]∧Sl w' v (G3 us s.length s).1)∧Ext w w'):=by
  have hu0:=hu
  have hg1:∀ u∈us,1≤u.graph.length:=fun u hu=>(hg u hu).1
  obtain⟨ua,uc,rfl,_,hum,hup⟩:=hu.sl
  refine A6 (n:=68) (args:=[.agg #[str nm,.slice ua us.length uc,tv],str s]) Tryz.func69 rfl Tryz.ntmps69 (by simp) ?_
  refine B4 ?_
  refine A9 ?_
  refine C6 Z Z Z Z (fun bO wO xO hbO rO0=>?_)
  have rO:Row wO bO 29 [str nm,.slice ua us.length uc,tv]:=rO0
  clear rO0
  have hbOl:=rO.lt
  have rO1:=rO
  obtain⟨U,hU⟩:∃ U,U=G3 us s.length s:=⟨_,rfl⟩
  have hUl:=(A3r hg1 s.length s).1
  rw [← hU] at hUl ⊢
  (repeat' (first|refine Sy ?_))
  refine E_scope ?_
  (repeat' (first|refine Ly ?_))
  refine B0 (ι:=Nat × Nat) (fun z=>[(1,str s),(2,.pointer (some ⟨bO,0,none⟩)),(6,int z.2),(15,.slice ua us.length uc),(16,int us.length),(17,int z.1)])
    (fun z wr=>z.1≤us.length∧Ext wO wr∧z.2≤32∧∀(j:Nat) (v:Unt),j<z.1→us[j]?=some v→v.graph.length≤z.2) (fun z=>us.length-z.1) (0,0)
    ⟨rfl,rfl,rfl,rfl,rfl,by rfl,trivial⟩ ⟨Nat.zero_le _,Ext.refl _,Nat.zero_le _,fun _ _ h=>absurd h (by omega)⟩ ?_
  rintro⟨i,most⟩ wr ⟨hi,hx,hm32,hmost⟩
  dsimp only at hi hx hm32 hmost ⊢
  replace rO:=rO.ext hx
  have hX:=xO.trans hx
  by_cases hlt:i<us.length
  · obtain⟨ub,uo,rfl⟩:=hup (by omega)
    obtain⟨u,hui⟩:∃ u,us[i]?=some u:=⟨_,List.getElem?_eq_getElem hlt⟩
    have hgu:=hg u (List.mem_of_getElem? hui)
    obtain⟨a0,c0,hat,_⟩:=V6 (hu0.ext hX) hui
    (repeat' (first|refine eV Z Z (A0 (m:=i) Z Z Z (by first|rfl|omega) (by omega)) ?_|(refine C1 Z Z Z Z Z Z Z Z Z Z (fun bV wV xV hbV rV=>?_);replace hx:=hx.trans xV)|refine eV Z Z (B0t Z Z Z) ?_|refine Ly ?_|refine Dy (fun hh=>?_) fun hh=>?_))
    all_goals (try (exfalso;omega))
    refine B3 (i+1,if u.graph.length>most then u.graph.length else most) ⟨rfl,rfl,by(show some (int _)=some (int _);congr 2;split <;> split <;> omega),rfl,rfl,rfl,trivial⟩ ⟨by dsimp only;omega,hx,by dsimp only;split <;> omega,fun j v hj hv=>?_⟩ (by dsimp only;omega)
    dsimp only at hj ⊢
    by_cases e:j=i
    · subst e;rw [hui] at hv;cases hv;split <;> omega
    · have:=hmost j v (by omega) hv;split <;> omega
  obtain rfl:i=us.length:=by omega
  have hbig0:∀(j:Nat) (v:Unt),us[j]?=some v→v.graph.length≤most:=fun j v hv=>hmost j v (List.getElem?_eq_some_iff.1 hv).1 hv
  (repeat' (first|refine Sy ?_|refine Dy (fun hh=>?_) fun hh=>?_))
  all_goals (try (exfalso;omega))
  refine E_label ?_
  (repeat' (first|refine Sy ?_))
  refine B0 (ι:=Nat × Value × List Int) (fun z=>[(1,str s),(2,.pointer (some ⟨bO,0,none⟩)),(6,int most),(9,z.2.1),(10,int z.1)])
    (fun z wr=>z.1≤s.length∧Ext wO wr∧Row wr bO 29 [str nm,.slice ua us.length uc,tv]∧wr.ownsRow wO.heap.size 3 1 z.2.1 z.2.2.length (z.2.2.map int)∧z.2.2++(G3 us (s.drop z.1).length (s.drop z.1)).1=U.1∧z.1+(G3 us (s.drop z.1).length (s.drop z.1)).2=U.2) (fun z=>s.length-z.1) (0,.slice none 0 0,[])
    ⟨rfl,rfl,rfl,rfl,rfl,trivial⟩ ⟨Nat.zero_le _,hx,rO,World.ownsRow_nil _ _ _ _,by rw [List.drop_zero,hU];rfl,by rw [List.drop_zero,hU,Nat.zero_add]⟩ ?_
  rintro⟨at0,vO,o⟩ wd ⟨hat0,hxd,rOd,hown,h1,h2⟩
  dsimp only at hat0 hxd rOd hown h1 h2 ⊢
  have hol:o.length≤s.length:=by have:=congrArg List.length h1;rw [List.length_append] at this;omega
  by_cases hls:at0<s.length
  · have hne:s.drop at0≠[]:=fun e=>by have:=congrArg List.length e;rw [List.length_drop] at this;simp at this;omega
    (repeat' (first|refine eV Z Z (B0s Z Z Z) ?_|refine Sy ?_|refine Dy (fun hh=>?_) fun hh=>?_))
    all_goals (try (exfalso;omega))
    refine B0 (ι:=Nat) (fun n=>[(1,str s),(2,.pointer (some ⟨bO,0,none⟩)),(6,int most),(9,vO),(10,int at0),(11,int n)])
      (fun n wr=>n≤s.length-at0∧Ext wd wr∧∀(j:Nat) (v:Unt),us[j]?=some v→begB (s.drop at0) v.graph=true→v.graph.length≤n) (fun n=>n) (if s.length-at0<most then s.length-at0 else most)
      ⟨rfl,rfl,rfl,rfl,rfl,by(show some (int _)=some (int _);congr 2;split <;> split <;> omega),trivial⟩ ⟨by split <;> omega,Ext.refl _,fun j v hv hb=>?_⟩ ?_
    · have h3:=hbig0 j v hv
      have h4:=congrArg List.length (A3h.1 hb)
      rw [List.length_take,List.length_drop] at h4
      split <;> omega
    rintro n wn ⟨hn,hxn,hbig⟩
    by_cases hn0:n=0
    · subst hn0
      rw [B6q (.inr (C2z hg1 hbig))] at h1 h2
      rw [List.append_nil] at h1
      (repeat' (first|refine Sy ?_|refine Dy (fun hh=>?_) fun hh=>?_))
      all_goals (try (exfalso;omega))
      refine B5x ?_
      skip
      rw [← h1,← h2]
      exact A4n Z Z Z ⟨⟨_,rfl,N4 (css:=o.map fun z=>[int z]) (by rw [D8];exact C7 hown hxn) (H1 _ _) Z (by omega)⟩,xO.trans (hxd.trans hxn)⟩
    obtain⟨n',rfl⟩:∃ n',n=n'+1:=⟨n-1,by omega⟩
    have rOn:=rOd.ext hxn
    (repeat' (first|refine Ly ?_|refine Dy (fun hh=>?_) fun hh=>?_))
    all_goals (try (exfalso;omega))
    refine B0 (ι:=Nat) (fun i=>[(1,str s),(2,.pointer (some ⟨bO,0,none⟩)),(6,int most),(9,vO),(10,int at0),(11,int (n'+1:Nat)),(42,.slice ua us.length uc),(43,int us.length),(44,int i)])
      (fun i wr=>i≤us.length∧Ext wn wr∧∀(j:Nat) (v:Unt),j<i→us[j]?=some v→v.graph≠(s.drop at0).take (n'+1)) (fun i=>us.length-i) 0
      ⟨rfl,rfl,rfl,rfl,rfl,rfl,rfl,rfl,rfl,trivial⟩ ⟨Nat.zero_le _,Ext.refl _,fun _ _ h=>absurd h (by omega)⟩ ?_
    rintro i wi ⟨hi,hxi,hlow⟩
    have hXi:=xO.trans (hxd.trans (hxn.trans hxi))
    by_cases hil:i<us.length
    · obtain⟨ub,uo,rfl⟩:=hup (by omega)
      obtain⟨u,hui⟩:∃ u,us[i]?=some u:=⟨_,List.getElem?_eq_getElem hil⟩
      obtain⟨a0,c0,hat,_⟩:=V6 (hu0.ext hXi) hui
      have hgu:=hg u (List.mem_of_getElem? hui)
      by_cases hgr:u.graph=(s.drop at0).take (n'+1)
      · have hbf:=B8y (by rw [List.length_drop];omega) hbig hlow hui hgr
        have hgl:u.graph.length=n'+1:=(B5s (by rw [List.length_drop];omega) hgr).2
        rw [B6r hg1 hne hbf hui] at h1 h2
        dsimp only at h1 h2
        rw [List.drop_drop,hgl] at h1 h2
        (repeat' (first|refine eV Z Z (A0 (m:=i) Z Z Z (by first|rfl|omega) (by omega)) ?_|(refine C3 Z Z Z (fun bV wV xV hbV rV=>?_))|(refine B7 (cs:=[str u.graph,.slice a0 u.segs.length c0]) rV xV (Nat.le_of_eq hbV.symm) Z Z Z Z Z Z Z Z (Nat.le_refl _) (fun wU rU0 xU kU=>?_);have rU:Row wU bV 108 [str u.graph,.slice a0 u.segs.length c0]:=rU0;replace hxi:=hxi.trans xU;clear rV rU0)|refine yV Z Z (fun _ _ _=>V1 (a:=at0) (b:=at0+(n'+1)) Z Z Z Z Z (by first|rfl|omega) (by omega) (by omega)) ?_|(refine D5 (w0:=wO) (news:=[int i]) (C7 hown (hxn.trans (hxi.trans (xq.trans xS)))) (hxd.trans (hxn.trans (hxi.trans (xq.trans xS)))) (fun _=>⟨_,_,rfl,rS.at⟩) Z Z Z Z Z Z Z Z Z (by omega) (by omega) (fun vJ wJ oJ xJ kJ hJ=>?_))|refine Ly ?_|refine Dy (fun hh=>?_) fun hh=>?_|refine yqY ?_|refine yqZ ?_|refine yqX (fun hh=>?_) fun hh=>?_|refine eL Z Z Z Z Z Z Z Z (fun bS wS xS hbS rS=>?_)|refine E_dq B5 (by kernel_rfl) Z ?_|refine yN Z (fun wq xq=>?_)))
        all_goals (try (exfalso;omega))
        all_goals (first|(exfalso;exact absurd (hgr.trans (A4h s at0 (n'+1)).symm) (by assumption))|skip)
        refine B3 (at0+(n'+1),vJ,o++[(i:Int)]) ⟨rfl,rfl,rfl,rfl,by rfl,trivial⟩ ⟨by dsimp only;omega,xJ,?_,?_,?_,?_⟩ (by dsimp only;omega)
        · exact kJ.row (((rOn.ext hxi).ext xq).ext xS) (fun e=>by have:=(hown.lt bO e.symm).1;omega)
        · dsimp only;simpa using oJ
        · dsimp only
          rw [List.append_assoc]
          exact h1
        · dsimp only;omega
      · (repeat' (first|refine eV Z Z (A0 (m:=i) Z Z Z (by first|rfl|omega) (by omega)) ?_|(refine C3 Z Z Z (fun bV wV xV hbV rV=>?_))|(refine B7 (cs:=[str u.graph,.slice a0 u.segs.length c0]) rV xV (Nat.le_of_eq hbV.symm) Z Z Z Z Z Z Z Z (Nat.le_refl _) (fun wU rU0 xU kU=>?_);have rU:Row wU bV 108 [str u.graph,.slice a0 u.segs.length c0]:=rU0;replace hxi:=hxi.trans xU;clear rV rU0)|refine yV Z Z (fun _ _ _=>V1 (a:=at0) (b:=at0+(n'+1)) Z Z Z Z Z (by first|rfl|omega) (by omega) (by omega)) ?_|refine Ly ?_|refine Dy (fun hh=>?_) fun hh=>?_|refine yqY ?_|refine yqZ ?_|refine yqX (fun hh=>?_) fun hh=>?_|refine eL Z Z Z Z Z Z Z Z (fun bS wS xS hbS rS=>?_)|refine E_dq B5 (by kernel_rfl) Z ?_|refine yN Z (fun wq xq=>?_)))
        all_goals (try (exfalso;omega))
        all_goals (first|(exfalso;apply hgr;rw [← A4h s at0 (n'+1)];assumption)|skip)
        refine B3 (i+1) ⟨rfl,rfl,rfl,rfl,rfl,rfl,rfl,rfl,rfl,trivial⟩ ⟨by omega,hxi.trans xq,fun j v hj hv=>?_⟩ (by omega)
        by_cases e:j=i
        · subst e;rw [hui] at hv;cases hv;exact hgr
        · exact hlow j v (by omega) hv
    · obtain rfl:i=us.length:=by omega
      have hb':=C6j hbig (fun j v hv=>hlow j v (List.getElem?_eq_some_iff.1 hv).1 hv)
      (repeat' (first|refine Sy ?_|refine Dy (fun hh=>?_) fun hh=>?_))
      all_goals (try (exfalso;omega))
      exact B3 n' ⟨rfl,rfl,rfl,rfl,rfl,by(show some (int _)=some (int _);congr 2;omega),trivial⟩ ⟨by omega,hxn.trans hxi,hb'⟩ (by omega)
  · obtain rfl:at0=s.length:=by omega
    rw [List.drop_length] at h1 h2
    have e0:G3 us ([]:List UInt8).length []=([],0):=rfl
    rw [e0] at h1 h2
    rw [List.append_nil] at h1
    (repeat' (first|refine Sy ?_|refine Dy (fun hh=>?_) fun hh=>?_))
    all_goals (try (exfalso;omega))
    refine B5x ?_
    skip
    rw [← h1,← h2]
    exact A4n Z Z Z ⟨⟨_,rfl,N4 (css:=o.map fun z=>[int z]) (by rw [D8];exact hown) (H1 _ _) Z (by omega)⟩,xO.trans hxd⟩
theorem B7l (us:List Unt) (hg:∀ u∈us,1≤u.graph.length∧u.graph.length≤32∧u.segs.length≤3) (s:List UInt8) (hs:s.length≤1000000) (nm:List UInt8) (uv tv:Value) (w:World) (hu:Sl w uv us):Calls Tryz.prog 38 #[.agg #[str nm,uv,tv],str s] w (Rt fun u w'=>(∃(v:Value) (a:Int),u=.tuple #[v,int a,int (Q6 us s).2]∧Sl w' v (Q6 us s).1)∧Ext w w'):=by
  have hu0:=hu
  have hg2:∀ u∈us,1≤u.graph.length∧u.graph.length≤32:=fun u hu=>⟨(hg u hu).1,(hg u hu).2.1⟩
  have hg1:∀ u∈us,1≤u.graph.length:=fun u hu=>(hg u hu).1
  obtain⟨ua,uc,rfl,_,hum,hup⟩:=hu.sl
  refine A6 (n:=44) (args:=[.agg #[str nm,.slice ua us.length uc,tv],str s]) Tryz.func38 rfl Tryz.ntmps38 (by simp) ?_
  refine B4 ?_
  refine A9 ?_
  refine C6 Z Z Z Z (fun bO wO xO hbO rO0=>?_)
  have rO:Row wO bO 29 [str nm,.slice ua us.length uc,tv]:=rO0
  clear rO0
  by_cases h0:s=[]
  · have hr:Q6 us s=([],4):=by unfold Q6;rw [if_pos h0]
    rw [hr]
    subst h0
    (repeat' (first|refine Sy ?_|refine Dy (fun hh=>?_) fun hh=>?_))
    all_goals (try (exfalso;omega))
    all_goals first
      | exact B9x Z Z Z Z ⟨⟨_,_,rfl,SlG.nil⟩,xO⟩
      | exact absurd hh (by simp)
      | exact absurd rfl (by assumption)
  · obtain⟨U,hU⟩:∃ U,U=G3 us s.length s:=⟨_,rfl⟩
    have hUl:=A3r hg1 s.length s
    rw [← hU] at hUl
    have cu:=B3i us hg2 s hs nm _ tv wO (hu0.ext xO)
    rw [← hU] at cu
    (repeat' ((fail_if_success (refine B4 (x:=(Code.region 4 _ _)) ?_));first|(refine A8 Z Z (A5 Z Z en69) cu (fun vC wC hC=>?_);obtain⟨⟨v,rfl,sC⟩,xC⟩:=hC;replace rO:=rO.ext xC)|refine Ly ?_|refine Dy (fun hh=>?_) fun hh=>?_))
    all_goals (try (exact absurd (by assumption) h0))
    all_goals (try (exfalso;omega))
    have hX:=xO.trans xC
    by_cases hlt:U.2<s.length
    · have hr:Q6 us s=([],20):=by unfold Q6;rw [if_neg h0,← hU];dsimp only;rw [if_pos hlt]
      rw [hr]
      (repeat' (first|refine Sy ?_|refine Dy (fun hh=>?_) fun hh=>?_))
      all_goals (try (exfalso;omega))
      exact B9x Z Z Z Z ⟨⟨_,_,rfl,SlG.nil⟩,hX⟩
    · have hlen:U.1.length≤s.length:=hUl.1
      obtain⟨SG,hSG⟩:∃ SG:Int→List Int,SG=fun z=>match us[z.toNat]? with|some u=>u.segs|none=>[]:=⟨_,rfl⟩
      have hr:Q6 us s=if 24<(U.1.flatMap SG).length then ([],5) else (U.1.flatMap SG,0):=by unfold Q6;rw [if_neg h0,← hU];dsimp only;rw [if_neg hlt,hSG];rfl
      have sC0:=sC
      obtain⟨va,vc,rfl,_,_,hvp⟩:=sC.sl
      have hSl:∀ z∈U.1,(SG z).length≤3:=fun z hz=>by
        rw [hSG];dsimp only
        cases hz2:us[z.toNat]? with
        | none=>simp
        | some u=>exact(hg u (List.mem_of_getElem? hz2)).2.2
      have hbOl:=rO.lt
      (repeat' (first|refine Sy ?_|refine Dy (fun hh=>?_) fun hh=>?_))
      all_goals (try (exfalso;omega))
      refine B0 (ι:=Nat × Value) (fun z=>[(2,.pointer (some ⟨bO,0,none⟩)),(9,z.2),(25,.slice va U.1.length vc),(26,int U.1.length),(27,int z.1)])
        (fun z wr=>z.1≤U.1.length∧Ext wC wr∧wr.ownsRow wC.heap.size 3 1 z.2 ((U.1.take z.1).flatMap SG).length (((U.1.take z.1).flatMap SG).map int)) (fun z=>U.1.length-z.1) (0,.slice none 0 0)
        ⟨rfl,rfl,rfl,rfl,rfl,trivial⟩ ⟨Nat.zero_le _,Ext.refl _,World.ownsRow_nil _ _ _ _⟩ ?_
      rintro⟨i,vO⟩ wr ⟨hi,hx,hown⟩
      dsimp only at hi hx hown ⊢
      replace rO:=rO.ext hx
      have hXr:=hX.trans hx
      have hol:((U.1.take i).flatMap SG).length≤i*3:=by
        have:=C0n (l:=U.1.take i) (f:=SG) (c:=3) (fun z hz=>hSl z (List.mem_of_mem_take hz))
        rw [List.length_take] at this
        exact Nat.le_trans this (Nat.mul_le_mul_right _ (Nat.min_le_left _ _))
      by_cases hil:i<U.1.length
      · obtain⟨vb,vo,rfl⟩:=hvp (by omega)
        obtain⟨z,hz⟩:∃ z,U.1[i]?=some z:=⟨_,List.getElem?_eq_getElem hil⟩
        have hzm:=List.mem_of_getElem? hz
        have hzr:=hUl.2 z hzm
        obtain⟨m,rfl⟩:∃ m:Nat,z=(m:Int):=⟨z.toNat,by omega⟩
        obtain⟨u,hu1⟩:∃ u,us[m]?=some u:=⟨_,List.getElem?_eq_getElem (by omega)⟩
        obtain⟨ub,uo,rfl⟩:=hup (by omega)
        have hatz:=(Go.Pv.int_elem (sC0.ext hx) hz).one
        obtain⟨a0,c0,hatu,_,hsg⟩:=V6 (hu0.ext hXr) hu1
        have hSGm:SG (m:Int)=u.segs:=by rw [hSG];dsimp only;rw [Int.toNat_natCast,hu1]
        have hsegl:=hSl _ hzm
        rw [hSGm] at hsegl
        have htk:(U.1.take (i+1)).flatMap SG=(U.1.take i).flatMap SG++u.segs:=by
          obtain⟨h1,h2⟩:=List.getElem?_eq_some_iff.1 hz
          rw [List.take_succ_eq_append_getElem h1,h2,List.flatMap_append];simp [hSGm]
        obtain⟨ss,q1,q2⟩:=SlG.css hsg
        have fs:ss.flatten.length=u.segs.length*1:=AtsG.flat q1
        have hsi:=A3j q1
        (repeat' (first|refine eV Z Z (A0 (m:=i) Z Z Z (by first|rfl|omega) (by omega)) ?_|refine eV Z Z (A0 (m:=m) Z Z Z (by first|rfl|omega) (by omega)) ?_|(refine D5 (news:=ss.flatten) hown hx (fun h0=>?_) Z Z Z Z Z fs (AtsG.ones q1) Z Z (by omega) (by omega) (fun vJ wJ oJ xJ kJ hJ=>?_);(obtain⟨b,so,e,_,hat⟩:=q2 (by omega);exact⟨b,so,e,hat⟩))|refine Ly ?_|refine Dy (fun hh=>?_) fun hh=>?_))
        all_goals (try (exfalso;omega))
        refine B3 (i+1,vJ) ⟨rfl,rfl,rfl,rfl,rfl,trivial⟩ ⟨by dsimp only;omega,xJ,?_⟩ (by dsimp only;omega)
        dsimp only
        rw [htk]
        rw [hsi,D8] at oJ
        simpa using oJ
      · obtain rfl:i=U.1.length:=by omega
        rw [List.take_length] at hown hol
        obtain⟨oa,oc,hvo⟩:∃ oa oc,vO=.slice oa (U.1.flatMap SG).length oc:=by
          rcases W0 hown with⟨h1,h2,_⟩|⟨b,cap,h1,_⟩
          · exact⟨none,0,by rw [h1,h2]⟩
          · exact⟨_,_,h1⟩
        subst hvo
        by_cases h24:24<(U.1.flatMap SG).length
        · rw [if_pos h24] at hr
          rw [hr]
          (repeat' (first|refine Sy ?_|refine Dy (fun hh=>?_) fun hh=>?_))
          all_goals (try (exfalso;omega))
          exact B9x Z Z Z Z ⟨⟨_,_,rfl,SlG.nil⟩,hXr⟩
        · rw [if_neg h24] at hr
          rw [hr]
          (repeat' (first|refine Sy ?_|refine Dy (fun hh=>?_) fun hh=>?_))
          all_goals (try (exfalso;omega))
          exact B9x Z Z Z Z ⟨⟨_,_,rfl,N4 (css:=(U.1.flatMap SG).map fun z=>[int z]) (by rw [D8];exact hown) (H1 _ _) Z (by show(U.1.flatMap SG).length≤_;omega)⟩,hXr⟩
end
section
open Go.RowKit Go.En Go.Pv
theorem A0s {α:Type} {p:α→Bool} {l:List α} {i:Nat} {x:α} (h:l[i]?=some x):(l.take (i+1)).filter p=(l.take i).filter p++if p x then [x] else []:=by
  obtain⟨h1,h2⟩:=List.getElem?_eq_some_iff.1 h
  rw [List.take_succ_eq_append_getElem h1,h2,List.filter_append]
  congr 1
  cases hp:p x <;> simp [hp]
theorem L9 {α:Type} {p:α→Bool} {l:List α} {i:Nat}:((l.take i).filter p).length≤i:=by
  have:=List.length_filter_le p (l.take i)
  rw [List.length_take] at this;omega
theorem B0e {g:Lg} (hok:LangOK g) (id:Int):(entD g.lex id).refs.length≤12:=by
  unfold entD
  cases h:getE g.lex id with
  | none=>simp [A5s]
  | some e=>exact(hok.lex e (List.mem_of_find?_eq_some h)).2.2.2.2.2.2.1
attribute [local irreducible] E EL K Val Enters Rt Calls bodyPost Code.wp RQ
theorem Z6 {α β:Type} {p:α→Bool} {f:α→β} {l:List α} {i:Nat} {x:α} (h:l[i]?=some x):((l.take (i+1)).filter p).map f=((l.take i).filter p).map f++if p x then [f x] else []:=by
  rw [A0s h,List.map_append]
  cases p x <;> rfl
theorem C2o {α:Type} {l:List α}:l.isEmpty=decide ((l.length:Int)=0):=by cases l <;> simp;omega
theorem C5e:Ints Tryz.prog 39 3 2:=⟨by kernel_rfl,by kernel_rfl,by kernel_rfl,by kernel_rfl,Tryz.underlying3⟩
theorem rf_eq {x y:Rf}:[y.rcd,y.note]=[x.rcd,x.note]↔y=x:=by cases x;cases y;simp
end
end Go.Proofs.YtjicdgejhkgpgaaGreatDoor