/-
  Own text of the proof.
-/
import Derived.Test.YtjicdgejhkgpgaaGreatDoorY7
import Derived.Test.YtjicdgejhkgpgaaGreatDoorY6
import Derived.Test.YtjicdgejhkgpgaaGreatDoorYf
import Derived.Test.YtjicdgejhkgpgaaGreatDoorYh
import Derived.Test.YtjicdgejhkgpgaaGreatDoorYi
import Derived.Test.YtjicdgejhkgpgaaGreatDoorYw
set_option linter.all false
set_option maxHeartbeats 8000000
set_option maxRecDepth 8000
namespace Go.Proofs.YtjicdgejhkgpgaaGreatDoor
open Go.RowKit Go.En Go.Pv
theorem Mt (s:List UInt8) (a n:Nat):(s.take (a+n)).drop a=(s.drop a).take n:=by rw [List.drop_take];congr 1;omega
attribute [local irreducible] E EL K Val Enters Rt Calls bodyPost Code.wp RQ
theorem units69_any (us:List Unt) (hg:∀ u∈us,1≤u.graph.length∧u.graph.length≤32) (s:List UInt8) (hs:s.length≤1000000) (nm:List UInt8) (uv tv:Value) (w:World) (hu:Sl w uv us):Calls Tryz.prog 69 #[.agg #[str nm,uv,tv],str s] w (Rt fun u w'=>(∃ v,u=.tuple #[v,int (B5 us s.length s).2]∧Sl w' v (B5 us s.length s).1)∧Ext w w'):=by
  have hu0:=hu
  have hg1:∀ u∈us,1≤u.graph.length:=fun u hu=>(hg u hu).1
  obtain⟨ua,uc,rfl,_,hum,hup⟩:=hu.sl
  refine A7 (n:=68) (args:=[.agg #[str nm,.slice ua us.length uc,tv],str s]) Tryz.func69 rfl Tryz.ntmps69 (by simp) ?_
  refine Ac ?_
  refine A8 ?_
  refine Aj Z Z Z Z (fun bO wO xO hbO rO0=>?_)
  have rO:Row wO bO 29 [str nm,.slice ua us.length uc,tv]:=rO0
  clear rO0
  have hbOl:=rO.lt
  have rO1:=rO
  obtain⟨U,hU⟩:∃ U,U=B5 us s.length s:=⟨_,rfl⟩
  have hUl:=(Hd hg1 s.length s).1
  rw [← hU] at hUl ⊢
  (repeat' (first|refine Sy ?_))
  refine E_scope ?_
  (repeat' (first|refine Ly ?_))
  refine Ae (ι:=Nat × Nat) (fun z=>[(1,str s),(2,.pointer (some ⟨bO,0,none⟩)),(6,int z.2),(15,.slice ua us.length uc),(16,int us.length),(17,int z.1)])
    (fun z wr=>z.1≤us.length∧Ext wO wr∧z.2≤32∧∀(j:Nat) (v:Unt),j<z.1→us[j]?=some v→v.graph.length≤z.2) (fun z=>us.length-z.1) (0,0)
    ⟨rfl,rfl,rfl,rfl,rfl,by rfl,trivial⟩ ⟨Nat.zero_le _,Ext.refl _,Nat.zero_le _,fun _ _ h=>absurd h (by omega)⟩ ?_
  rintro⟨i,most⟩ wr ⟨hi,hx,hm32,hmost⟩
  dsimp only at hi hx hm32 hmost ⊢
  replace rO:=rO.ext hx
  have hX:=xO.trans hx
  by_cases hlt:i<us.length
  · obtain⟨ub,uo,rfl⟩:=hup (by omega)
    obtain⟨u,hui⟩:∃ u,us[i]?=some u:=⟨_,List.getElem?_eq_getElem hlt⟩
    have hgu:=hg u (List.mem_of_getElem? hui)
    obtain⟨a0,c0,hat,_⟩:=Cx (hu0.ext hX) hui
    (repeat' (first|refine eV Z Z (A0 (m:=i) Z Z Z (by first|rfl|omega) (by omega)) ?_|(refine Am Z Z Z Z Z Z Z Z Z Z (fun bV wV xV hbV rV=>?_);replace hx:=hx.trans xV)|refine eV Z Z (val_max Z Z Z) ?_|refine Ly ?_|refine Dy (fun hh=>?_) fun hh=>?_))
    all_goals (try (exfalso;omega))
    refine Ad (i+1,if u.graph.length>most then u.graph.length else most) ⟨rfl,rfl,by(show some (int _)=some (int _);congr 2;split <;> split <;> omega),rfl,rfl,rfl,trivial⟩ ⟨by dsimp only;omega,hx,by dsimp only;split <;> omega,fun j v hj hv=>?_⟩ (by dsimp only;omega)
    dsimp only at hj ⊢
    by_cases e:j=i
    · subst e;rw [hui] at hv;cases hv;split <;> omega
    · have:=hmost j v (by omega) hv;split <;> omega
  obtain rfl:i=us.length:=by omega
  have hbig0:∀(j:Nat) (v:Unt),us[j]?=some v→v.graph.length≤most:=fun j v hv=>hmost j v (List.getElem?_eq_some_iff.1 hv).1 hv
  (repeat' (first|refine Sy ?_|refine Dy (fun hh=>?_) fun hh=>?_))
  all_goals (try (exfalso;omega))
  refine E_label ?_
  (repeat' (first|refine Sy ?_))
  refine Ae (ι:=Nat × Value × List Int) (fun z=>[(1,str s),(2,.pointer (some ⟨bO,0,none⟩)),(6,int most),(9,z.2.1),(10,int z.1)])
    (fun z wr=>z.1≤s.length∧Ext wO wr∧Row wr bO 29 [str nm,.slice ua us.length uc,tv]∧wr.ownsRow wO.heap.size 3 1 z.2.1 z.2.2.length (z.2.2.map int)∧z.2.2++(B5 us (s.drop z.1).length (s.drop z.1)).1=U.1∧z.1+(B5 us (s.drop z.1).length (s.drop z.1)).2=U.2) (fun z=>s.length-z.1) (0,.slice none 0 0,[])
    ⟨rfl,rfl,rfl,rfl,rfl,trivial⟩ ⟨Nat.zero_le _,hx,rO,World.ownsRow_nil _ _ _ _,by rw [List.drop_zero,hU];rfl,by rw [List.drop_zero,hU,Nat.zero_add]⟩ ?_
  rintro⟨at0,vO,o⟩ wd ⟨hat0,hxd,rOd,hown,h1,h2⟩
  dsimp only at hat0 hxd rOd hown h1 h2 ⊢
  have hol:o.length≤s.length:=by have:=congrArg List.length h1;rw [List.length_append] at this;omega
  by_cases hls:at0<s.length
  · have hne:s.drop at0≠[]:=fun e=>by have:=congrArg List.length e;rw [List.length_drop] at this;simp at this;omega
    (repeat' (first|refine eV Z Z (val_min Z Z Z) ?_|refine Sy ?_|refine Dy (fun hh=>?_) fun hh=>?_))
    all_goals (try (exfalso;omega))
    refine Ae (ι:=Nat) (fun n=>[(1,str s),(2,.pointer (some ⟨bO,0,none⟩)),(6,int most),(9,vO),(10,int at0),(11,int n)])
      (fun n wr=>n≤s.length-at0∧Ext wd wr∧∀(j:Nat) (v:Unt),us[j]?=some v→begB (s.drop at0) v.graph=true→v.graph.length≤n) (fun n=>n) (if s.length-at0<most then s.length-at0 else most)
      ⟨rfl,rfl,rfl,rfl,rfl,by(show some (int _)=some (int _);congr 2;split <;> split <;> omega),trivial⟩ ⟨by split <;> omega,Ext.refl _,fun j v hv hb=>?_⟩ ?_
    · have h3:=hbig0 j v hv
      have h4:=congrArg List.length (Gp.1 hb)
      rw [List.length_take,List.length_drop] at h4
      split <;> omega
    rintro n wn ⟨hn,hxn,hbig⟩
    by_cases hn0:n=0
    · subst hn0
      rw [Oc (.inr (best_none hg1 hbig))] at h1 h2
      rw [List.append_nil] at h1
      (repeat' (first|refine Sy ?_|refine Dy (fun hh=>?_) fun hh=>?_))
      all_goals (try (exfalso;omega))
      refine K_ng_ret ?_
      skip
      rw [← h1,← h2]
      exact Hg Z Z Z ⟨⟨_,rfl,Ce (css:=o.map fun z=>[int z]) (by rw [Av];exact Ak hown hxn) (B4 _ _) Z (by omega)⟩,xO.trans (hxd.trans hxn)⟩
    obtain⟨n',rfl⟩:∃ n',n=n'+1:=⟨n-1,by omega⟩
    have rOn:=rOd.ext hxn
    (repeat' (first|refine Ly ?_|refine Dy (fun hh=>?_) fun hh=>?_))
    all_goals (try (exfalso;omega))
    refine Ae (ι:=Nat) (fun i=>[(1,str s),(2,.pointer (some ⟨bO,0,none⟩)),(6,int most),(9,vO),(10,int at0),(11,int (n'+1:Nat)),(42,.slice ua us.length uc),(43,int us.length),(44,int i)])
      (fun i wr=>i≤us.length∧Ext wn wr∧∀(j:Nat) (v:Unt),j<i→us[j]?=some v→v.graph≠(s.drop at0).take (n'+1)) (fun i=>us.length-i) 0
      ⟨rfl,rfl,rfl,rfl,rfl,rfl,rfl,rfl,rfl,trivial⟩ ⟨Nat.zero_le _,Ext.refl _,fun _ _ h=>absurd h (by omega)⟩ ?_
    rintro i wi ⟨hi,hxi,hlow⟩
    have hXi:=xO.trans (hxd.trans (hxn.trans hxi))
    by_cases hil:i<us.length
    · obtain⟨ub,uo,rfl⟩:=hup (by omega)
      obtain⟨u,hui⟩:∃ u,us[i]?=some u:=⟨_,List.getElem?_eq_getElem hil⟩
      obtain⟨a0,c0,hat,_⟩:=Cx (hu0.ext hXi) hui
      have hgu:=hg u (List.mem_of_getElem? hui)
      by_cases hgr:u.graph=(s.drop at0).take (n'+1)
      · have hbf:=best_found (by rw [List.length_drop];omega) hbig hlow hui hgr
        have hgl:u.graph.length=n'+1:=(beg_take (by rw [List.length_drop];omega) hgr).2
        rw [Od hg1 hne hbf hui] at h1 h2
        dsimp only at h1 h2
        rw [List.drop_drop,hgl] at h1 h2
        (repeat' (first|refine eV Z Z (A0 (m:=i) Z Z Z (by first|rfl|omega) (by omega)) ?_|(refine Ap Z Z Z (fun bV wV xV hbV rV=>?_))|(refine Ah (cs:=[str u.graph,.slice a0 u.segs.length c0]) rV xV (Nat.le_of_eq hbV.symm) Z Z Z Z Z Z Z Z (Nat.le_refl _) (fun wU rU0 xU kU=>?_);have rU:Row wU bV 108 [str u.graph,.slice a0 u.segs.length c0]:=rU0;replace hxi:=hxi.trans xU;clear rV rU0)|refine yV Z Z (fun _ _ _=>H5 (a:=at0) (b:=at0+(n'+1)) Z Z Z Z Z (by first|rfl|omega) (by omega) (by omega)) ?_|(refine Ay (w0:=wO) (news:=[int i]) (Ak hown (hxn.trans (hxi.trans (xq.trans xS)))) (hxd.trans (hxn.trans (hxi.trans (xq.trans xS)))) (fun _=>⟨_,_,rfl,rS.at⟩) Z Z Z Z Z Z Z Z Z (by omega) (by omega) (fun vJ wJ oJ xJ kJ hJ=>?_))|refine Ly ?_|refine Dy (fun hh=>?_) fun hh=>?_|refine yqY ?_|refine yqZ ?_|refine yqX (fun hh=>?_) fun hh=>?_|refine eL Z Z Z Z Z Z Z Z (fun bS wS xS hbS rS=>?_)|refine E_dq Aa (by kernel_rfl) Z ?_|refine yN Z (fun wq xq=>?_)))
        all_goals (try (exfalso;omega))
        all_goals (first|(exfalso;exact absurd (hgr.trans (Mt s at0 (n'+1)).symm) (by assumption))|skip)
        refine Ad (at0+(n'+1),vJ,o++[(i:Int)]) ⟨rfl,rfl,rfl,rfl,by rfl,trivial⟩ ⟨by dsimp only;omega,xJ,?_,?_,?_,?_⟩ (by dsimp only;omega)
        · exact kJ.row (((rOn.ext hxi).ext xq).ext xS) (fun e=>by have:=(hown.lt bO e.symm).1;omega)
        · dsimp only;simpa using oJ
        · dsimp only
          rw [List.append_assoc]
          exact h1
        · dsimp only;omega
      · (repeat' (first|refine eV Z Z (A0 (m:=i) Z Z Z (by first|rfl|omega) (by omega)) ?_|(refine Ap Z Z Z (fun bV wV xV hbV rV=>?_))|(refine Ah (cs:=[str u.graph,.slice a0 u.segs.length c0]) rV xV (Nat.le_of_eq hbV.symm) Z Z Z Z Z Z Z Z (Nat.le_refl _) (fun wU rU0 xU kU=>?_);have rU:Row wU bV 108 [str u.graph,.slice a0 u.segs.length c0]:=rU0;replace hxi:=hxi.trans xU;clear rV rU0)|refine yV Z Z (fun _ _ _=>H5 (a:=at0) (b:=at0+(n'+1)) Z Z Z Z Z (by first|rfl|omega) (by omega) (by omega)) ?_|refine Ly ?_|refine Dy (fun hh=>?_) fun hh=>?_|refine yqY ?_|refine yqZ ?_|refine yqX (fun hh=>?_) fun hh=>?_|refine eL Z Z Z Z Z Z Z Z (fun bS wS xS hbS rS=>?_)|refine E_dq Aa (by kernel_rfl) Z ?_|refine yN Z (fun wq xq=>?_)))
        all_goals (try (exfalso;omega))
        all_goals (first|(exfalso;apply hgr;rw [← Mt s at0 (n'+1)];assumption)|skip)
        refine Ad (i+1) ⟨rfl,rfl,rfl,rfl,rfl,rfl,rfl,rfl,rfl,trivial⟩ ⟨by omega,hxi.trans xq,fun j v hj hv=>?_⟩ (by omega)
        by_cases e:j=i
        · subst e;rw [hui] at hv;cases hv;exact hgr
        · exact hlow j v (by omega) hv
    · obtain rfl:i=us.length:=by omega
      have hb':=big_step hbig (fun j v hv=>hlow j v (List.getElem?_eq_some_iff.1 hv).1 hv)
      (repeat' (first|refine Sy ?_|refine Dy (fun hh=>?_) fun hh=>?_))
      all_goals (try (exfalso;omega))
      exact Ad n' ⟨rfl,rfl,rfl,rfl,rfl,by(show some (int _)=some (int _);congr 2;omega),trivial⟩ ⟨by omega,hxn.trans hxi,hb'⟩ (by omega)
  · obtain rfl:at0=s.length:=by omega
    rw [List.drop_length] at h1 h2
    have e0:B5 us ([]:List UInt8).length []=([],0):=rfl
    rw [e0] at h1 h2
    rw [List.append_nil] at h1
    (repeat' (first|refine Sy ?_|refine Dy (fun hh=>?_) fun hh=>?_))
    all_goals (try (exfalso;omega))
    refine K_ng_ret ?_
    skip
    rw [← h1,← h2]
    exact Hg Z Z Z ⟨⟨_,rfl,Ce (css:=o.map fun z=>[int z]) (by rw [Av];exact hown) (B4 _ _) Z (by omega)⟩,xO.trans hxd⟩
theorem Oy (us:List Unt) (hg:∀ u∈us,1≤u.graph.length∧u.graph.length≤32∧u.segs.length≤3) (s:List UInt8) (hs:s.length≤1000000) (nm:List UInt8) (uv tv:Value) (w:World) (hu:Sl w uv us):Calls Tryz.prog 38 #[.agg #[str nm,uv,tv],str s] w (Rt fun u w'=>(∃(v:Value) (a:Int),u=.tuple #[v,int a,int (Bm us s).2]∧Sl w' v (Bm us s).1)∧Ext w w'):=by
  have hu0:=hu
  have hg2:∀ u∈us,1≤u.graph.length∧u.graph.length≤32:=fun u hu=>⟨(hg u hu).1,(hg u hu).2.1⟩
  have hg1:∀ u∈us,1≤u.graph.length:=fun u hu=>(hg u hu).1
  obtain⟨ua,uc,rfl,_,hum,hup⟩:=hu.sl
  refine A7 (n:=44) (args:=[.agg #[str nm,.slice ua us.length uc,tv],str s]) Tryz.func38 rfl Tryz.ntmps38 (by simp) ?_
  refine Ac ?_
  refine A8 ?_
  refine Aj Z Z Z Z (fun bO wO xO hbO rO0=>?_)
  have rO:Row wO bO 29 [str nm,.slice ua us.length uc,tv]:=rO0
  clear rO0
  by_cases h0:s=[]
  · have hr:Bm us s=([],4):=by unfold Bm;rw [if_pos h0]
    rw [hr]
    subst h0
    (repeat' (first|refine Sy ?_|refine Dy (fun hh=>?_) fun hh=>?_))
    all_goals (try (exfalso;omega))
    all_goals first
      | exact Mw Z Z Z Z ⟨⟨_,_,rfl,SlG.nil⟩,xO⟩
      | exact absurd hh (by simp)
      | exact absurd rfl (by assumption)
  · obtain⟨U,hU⟩:∃ U,U=B5 us s.length s:=⟨_,rfl⟩
    have hUl:=Hd hg1 s.length s
    rw [← hU] at hUl
    have cu:=units69_any us hg2 s hs nm _ tv wO (hu0.ext xO)
    rw [← hU] at cu
    (repeat' ((fail_if_success (refine Ac (x:=(Code.region 4 _ _)) ?_));first|(refine A9 Z Z (A3 Z Z en69) cu (fun vC wC hC=>?_);obtain⟨⟨v,rfl,sC⟩,xC⟩:=hC;replace rO:=rO.ext xC)|refine Ly ?_|refine Dy (fun hh=>?_) fun hh=>?_))
    all_goals (try (exact absurd (by assumption) h0))
    all_goals (try (exfalso;omega))
    have hX:=xO.trans xC
    by_cases hlt:U.2<s.length
    · have hr:Bm us s=([],20):=by unfold Bm;rw [if_neg h0,← hU];dsimp only;rw [if_pos hlt]
      rw [hr]
      (repeat' (first|refine Sy ?_|refine Dy (fun hh=>?_) fun hh=>?_))
      all_goals (try (exfalso;omega))
      exact Mw Z Z Z Z ⟨⟨_,_,rfl,SlG.nil⟩,hX⟩
    · have hlen:U.1.length≤s.length:=hUl.1
      obtain⟨SG,hSG⟩:∃ SG:Int→List Int,SG=fun z=>match us[z.toNat]? with|some u=>u.segs|none=>[]:=⟨_,rfl⟩
      have hr:Bm us s=if 24<(U.1.flatMap SG).length then ([],5) else (U.1.flatMap SG,0):=by unfold Bm;rw [if_neg h0,← hU];dsimp only;rw [if_neg hlt,hSG];rfl
      have sC0:=sC
      obtain⟨va,vc,rfl,_,_,hvp⟩:=sC.sl
      have hSl:∀ z∈U.1,(SG z).length≤3:=fun z hz=>by
        rw [hSG];dsimp only
        cases hz2:us[z.toNat]? with
        | none=>simp
        | some u=>exact(hg u (List.mem_of_getElem? hz2)).2.2
      have hbOl:=rO.lt
      (repeat' (first|refine Sy ?_|refine Dy (fun hh=>?_) fun hh=>?_))
      all_goals (try (exfalso;omega))
      refine Ae (ι:=Nat × Value) (fun z=>[(2,.pointer (some ⟨bO,0,none⟩)),(9,z.2),(25,.slice va U.1.length vc),(26,int U.1.length),(27,int z.1)])
        (fun z wr=>z.1≤U.1.length∧Ext wC wr∧wr.ownsRow wC.heap.size 3 1 z.2 ((U.1.take z.1).flatMap SG).length (((U.1.take z.1).flatMap SG).map int)) (fun z=>U.1.length-z.1) (0,.slice none 0 0)
        ⟨rfl,rfl,rfl,rfl,rfl,trivial⟩ ⟨Nat.zero_le _,Ext.refl _,World.ownsRow_nil _ _ _ _⟩ ?_
      rintro⟨i,vO⟩ wr ⟨hi,hx,hown⟩
      dsimp only at hi hx hown ⊢
      replace rO:=rO.ext hx
      have hXr:=hX.trans hx
      have hol:((U.1.take i).flatMap SG).length≤i*3:=by
        have:=flat_le (l:=U.1.take i) (f:=SG) (c:=3) (fun z hz=>hSl z (List.mem_of_mem_take hz))
        rw [List.length_take] at this
        exact Nat.le_trans this (Nat.mul_le_mul_right _ (Nat.min_le_left _ _))
      by_cases hil:i<U.1.length
      · obtain⟨vb,vo,rfl⟩:=hvp (by omega)
        obtain⟨z,hz⟩:∃ z,U.1[i]?=some z:=⟨_,List.getElem?_eq_getElem hil⟩
        have hzm:=List.mem_of_getElem? hz
        have hzr:=hUl.2 z hzm
        obtain⟨m,rfl⟩:∃ m:Nat,z=(m:Int):=⟨z.toNat,by omega⟩
        obtain⟨u,hu1⟩:∃ u,us[m]?=some u:=⟨_,List.getElem?_eq_getElem (by omega)⟩
        obtain⟨ub,uo,rfl⟩:=hup (by omega)
        have hatz:=(Go.Pv.int_elem (sC0.ext hx) hz).one
        obtain⟨a0,c0,hatu,_,hsg⟩:=Cx (hu0.ext hXr) hu1
        have hSGm:SG (m:Int)=u.segs:=by rw [hSG];dsimp only;rw [Int.toNat_natCast,hu1]
        have hsegl:=hSl _ hzm
        rw [hSGm] at hsegl
        have htk:(U.1.take (i+1)).flatMap SG=(U.1.take i).flatMap SG++u.segs:=by
          obtain⟨h1,h2⟩:=List.getElem?_eq_some_iff.1 hz
          rw [List.take_succ_eq_append_getElem h1,h2,List.flatMap_append];simp [hSGm]
        obtain⟨ss,q1,q2⟩:=SlG.css hsg
        have fs:ss.flatten.length=u.segs.length*1:=AtsG.flat q1
        have hsi:=Hq q1
        (repeat' (first|refine eV Z Z (A0 (m:=i) Z Z Z (by first|rfl|omega) (by omega)) ?_|refine eV Z Z (A0 (m:=m) Z Z Z (by first|rfl|omega) (by omega)) ?_|(refine Ay (news:=ss.flatten) hown hx (fun h0=>?_) Z Z Z Z Z fs (AtsG.ones q1) Z Z (by omega) (by omega) (fun vJ wJ oJ xJ kJ hJ=>?_);(obtain⟨b,so,e,_,hat⟩:=q2 (by omega);exact⟨b,so,e,hat⟩))|refine Ly ?_|refine Dy (fun hh=>?_) fun hh=>?_))
        all_goals (try (exfalso;omega))
        refine Ad (i+1,vJ) ⟨rfl,rfl,rfl,rfl,rfl,trivial⟩ ⟨by dsimp only;omega,xJ,?_⟩ (by dsimp only;omega)
        dsimp only
        rw [htk]
        rw [hsi,Av] at oJ
        simpa using oJ
      · obtain rfl:i=U.1.length:=by omega
        rw [List.take_length] at hown hol
        obtain⟨oa,oc,hvo⟩:∃ oa oc,vO=.slice oa (U.1.flatMap SG).length oc:=by
          rcases Dl hown with⟨h1,h2,_⟩|⟨b,cap,h1,_⟩
          · exact⟨none,0,by rw [h1,h2]⟩
          · exact⟨_,_,h1⟩
        subst hvo
        by_cases h24:24<(U.1.flatMap SG).length
        · rw [if_pos h24] at hr
          rw [hr]
          (repeat' (first|refine Sy ?_|refine Dy (fun hh=>?_) fun hh=>?_))
          all_goals (try (exfalso;omega))
          exact Mw Z Z Z Z ⟨⟨_,_,rfl,SlG.nil⟩,hXr⟩
        · rw [if_neg h24] at hr
          rw [hr]
          (repeat' (first|refine Sy ?_|refine Dy (fun hh=>?_) fun hh=>?_))
          all_goals (try (exfalso;omega))
          exact Mw Z Z Z Z ⟨⟨_,_,rfl,Ce (css:=(U.1.flatMap SG).map fun z=>[int z]) (by rw [Av];exact hown) (B4 _ _) Z (by show(U.1.flatMap SG).length≤_;omega)⟩,hXr⟩
end Go.Proofs.YtjicdgejhkgpgaaGreatDoor
namespace Go.En
open Go.RowKit
theorem M2 {α:Type} [Rep α] {Gx:Nat→Prop} {u0 w:World} {e:TypeId} {xs:List α} {ov:Value} {P:Program} {n:Nat} {ops rest:List Oper} {Q:Post} {L:List (Nat × Value)} {o:Oper} {d bS:Nat} {t:TypeId} {s y:Operand} {z:Value} {size bytes:Nat} {x:α} {X:List Value} [ut:UT P t (.slice e)] [ti:TI P e z size bytes]
    (h:Grow Gx u0 e xs ov w) (hr:Row w bS e X) (hx:Rep.at_ (Gq Gx ov) w x X) (hg:gst ops L o=some true) (hd:odst n o.dst=some d) (ho:o.op=.call { callee:=.builtin .append,args:=#[s,y],argTypes:=#[t,t] })
    (hsv:ev L s=some ov) (hy:ev L y=some (.slice (some ⟨bS,0,none⟩) 1 1)) (hz:z.cells.size=size) (hsz:Nat.beq size (Rep.sz α)=true) (hmax:(xs.length+1)*bytes≤140737488355328) (hmax':xs.length+1≤140737488355328)
    (k:∀ v' w',Grow Gx u0 e (xs++[x]) v' w'→Kb ov.ownBlock w w'→(v'.ownBlock=ov.ownBlock∨v'.ownBlock=some w.heap.size)→EL P n ops Q rest ((d,v')::L) w'):EL P n ops Q (o::rest) L w:=by
  have e0:=Nat.eq_of_beq_eq_true hsz
  subst e0
  obtain⟨h1,css,h2,h3⟩:=h
  have hp:0<Rep.sz α:=Rep.pos
  have hl:X.length=Rep.sz α:=Rep.len hx
  refine Ay (w0:=u0) (news:=X) (q:=1) (c:=1) h2 h1 (fun _=>⟨bS,0,rfl,hr.at⟩) hg hd ho hsv hy (by simp [hl]) (Rep.one hx) hz (Nat.ble_eq_true_of_le hp) hmax (by omega) (fun vJ wJ oJ xJ kJ hJ=>?_)
  have mv:∀ b,Gq Gx ov b→b<w.heap.size→Gq Gx vJ b∧wJ.heap[b]?=w.heap[b]?:=fun b hb hlt=>⟨⟨hb.1,(Nb.mv kJ hJ b hb.2 hlt).1⟩,(Nb.mv kJ hJ b hb.2 hlt).2⟩
  refine k vJ wJ ⟨xJ,css++[X],?_,AllAt.append (AtsG.move h3 mv) (AllAt.one (Rep.move hx mv))⟩ kJ hJ
  rw [List.flatten_append,List.length_append]
  simpa using oJ
end Go.En
namespace Go.Proofs.YtjicdgejhkgpgaaGreatDoor
open Go.RowKit Go.En Go.Pv
theorem entryF_eq (ds:List Dc) (g:Lg) (id:Int):Cu ds g id=(entD g.lex id).refs.filter (attF ds g id):=by
  unfold Cu entD
  cases getE g.lex id <;> rfl
theorem H1 {α:Type} {p:α→Bool} {l:List α} {i:Nat} {x:α} (h:l[i]?=some x):(l.take (i+1)).filter p=(l.take i).filter p++if p x then [x] else []:=by
  obtain⟨h1,h2⟩:=List.getElem?_eq_some_iff.1 h
  rw [List.take_succ_eq_append_getElem h1,h2,List.filter_append]
  congr 1
  cases hp:p x <;> simp [hp]
theorem C0 {α:Type} {p:α→Bool} {l:List α} {i:Nat}:((l.take i).filter p).length≤i:=by
  have:=List.length_filter_le p (l.take i)
  rw [List.length_take] at this;omega
theorem Mj {g:Lg} (hok:LangOK g) (id:Int):(entD g.lex id).refs.length≤12:=by
  unfold entD
  cases h:getE g.lex id with
  | none=>simp [zeroEn]
  | some e=>exact(hok.lex e (List.mem_of_find?_eq_some h)).2.2.2.2.2.2.1
attribute [local irreducible] E EL K Val Enters Rt Calls bodyPost Code.wp RQ
theorem N7 {ds:List Dc} (hL:LightDs ds) (g:Lg) (hok:LangOK g) (n:Nat) (hn:g.net.states=(n:Int)) (id:Int) (dv pv uv tv rv sv fv ev:Value) (w:World) (hv:Sl w dv ds) (hg:LangG Tt w g pv uv tv rv sv fv ev) :
    Calls Tryz.prog 20 #[dv,.agg #[pv,str g.oname,uv,tv,rv,int n,sv,fv,ev],int id] w (Rt fun u w'=>Sl w' u (Cu ds g id)∧Ext w w'):=by
  rw [entryF_eq]
  obtain⟨Y,hrepY,ce⟩:=get53_any g.lex id ev w hg.lex
  have hrl:=Mj hok id
  obtain⟨en,hen⟩:∃ en,en=entD g.lex id:=⟨_,rfl⟩
  rw [← hen] at hrepY hrl ⊢
  obtain⟨e0,k0,e1,k1,e2,k2,e3,k3,e4,k4,rfl,_,_,_,_,hrf⟩:=C6 hrepY
  obtain⟨_,_,ee,_,hrm,hrp⟩:=hrf.sl
  cases ee
  refine A7 (n:=44) (args:=[dv,.agg #[pv,str g.oname,uv,tv,rv,int n,sv,fv,ev],int id]) Tryz.func20 rfl Tryz.ntmps20 (by simp) ?_
  refine Ac ?_
  refine A8 ?_
  refine Ao Z Z Z Z (fun bG wG xG hbG rG=>?_)
  have hX:=Ext.refl w
  replace hX:=hX.trans xG
  have rG0:=rG
  (repeat' (first|(refine eL Z Z Z Z Z Z Z Z (fun bS wS xS hbS rS=>?_);replace hX:=hX.trans xS;replace rG:=rG.ext xS)|(refine cqC (ce _ hX) en53 fun wC xC=>?_;replace hX:=hX.trans xC;replace rG:=rG.ext xC)|(refine Am Z Z Z Z Z Z Z Z Z Z (fun bE wE xE hbE rE=>?_);replace hX:=hX.trans xE;replace rG:=rG.ext xE)|refine Ly ?_))
  have rS2:Row wE bS 39 []:=(rS.ext xC).ext xE
  have hSs:bS<wS.heap.size:=rS.lt
  have hCs:=xC.size
  have hrfE:Sl wE (.slice e4 en.refs.length k4) en.refs:=hrf.ext hX
  refine Ae (ι:=Nat × Value) (fun z=>[(0,dv),(2,int id),(4,.pointer (some ⟨bG,0,none⟩)),(7,z.2),(8,.pointer (some ⟨bE,0,none⟩)),(10,int z.1)])
    (fun z wr=>z.1≤en.refs.length∧Row wr bE 65 [int en.id,.slice e0 en.form.length k0,int en.cls,.slice e1 en.alts.length k1,int en.main,.slice e2 en.senses.length k2,.slice e3 en.links.length k3,.slice e4 en.refs.length k4]∧Nb z.2 bE∧Grow Tt wG 39 ((en.refs.take z.1).filter (attF ds g id)) z.2 wr) (fun z=>en.refs.length-z.1) (0,.slice (some ⟨bS,0,none⟩) 0 0)
    ⟨rfl,rfl,rfl,rfl,rfl,rfl,trivial⟩ ⟨Nat.zero_le _,rE,fun e'=>by have:bE=bS:=Option.some.inj e';omega,Grow.nil rS2 (xS.trans (xC.trans xE)) (by omega)⟩ ?_
  rintro⟨i,ov⟩ wr ⟨hi,rEr,hnE,hgr⟩
  dsimp only at hi rEr hnE hgr ⊢
  have hXr:=xG.trans hgr.x
  have rGr:=rG0.ext hgr.x
  have hrr:=hrf.ext hXr
  by_cases hlt:i<en.refs.length
  · obtain⟨b,off,rfl⟩:=hrp (by omega)
    obtain⟨x,hxi⟩:∃ x,en.refs[i]?=some x:=⟨_,List.getElem?_eq_getElem hlt⟩
    have hft:=H1 (p:=attF ds g id) hxi
    have hfl:=C0 (p:=attF ds g id) (l:=en.refs) (i:=i)
    have hat:=Dk hrr hxi
    obtain⟨ba,hba⟩:∃ b,attF ds g id x=b:=⟨_,rfl⟩
    have ca:=fun wz h1 h2=>Kd hL g hok n hn id x dv pv uv tv rv sv fv ev wz h1 h2
    rw [hba] at ca hft
    have hvr:=hv.ext hXr
    have hgr2:=hg.ext hXr
    cases ba
    · rw [if_neg (by simp),List.append_nil] at hft
      (repeat' (first|(refine yN Z (fun wq xq=>?_);replace rEr:=rEr.ext xq;replace hgr:=hgr.ext xq)|refine yV Z Z (fun _ _ _=>A0 (m:=i) Z Z Z (by first|rfl|omega) (by omega)) ?_|refine An Z Z (fun _ _ _=>A3 Z Z en17) (fun wq xz=>ca wq (hvr.ext xz) (hgr2.ext xz)) ?_|refine Ly ?_|refine Dy (fun hh=>?_) fun hh=>?_|refine yqY ?_|refine yqZ ?_|refine E_dq Aa (by kernel_rfl) Z ?_))
      all_goals (try (exfalso;omega))
      exact Ad (i+1,ov) ⟨rfl,rfl,rfl,rfl,rfl,rfl,trivial⟩ ⟨by dsimp only;omega,rEr,hnE,by dsimp only;rw [hft];exact hgr⟩ (by dsimp only;omega)
    · rw [if_pos rfl] at hft
      (repeat' (first|(refine yN Z (fun wq xq=>?_);replace rEr:=rEr.ext xq;replace hgr:=hgr.ext xq;replace hat:=hat.ext xq)|refine eV Z Z (A0 (m:=i) Z Z Z (by first|rfl|omega) (by omega)) ?_|refine yV Z Z (fun _ _ _=>A0 (m:=i) Z Z Z (by first|rfl|omega) (by omega)) ?_|refine An Z Z (fun _ _ _=>A3 Z Z en17) (fun wq xz=>ca wq (hvr.ext xz) (hgr2.ext xz)) ?_|(refine M2 (x:=x) (hgr.ext xS) rS rfl rfl rfl rfl rfl rfl rfl rfl (by omega) (by omega) (fun vK wK hK kK hJ=>?_))|refine Ly ?_|refine Dy (fun hh=>?_) fun hh=>?_|refine yqY ?_|refine yqZ ?_|refine eL Z Z Z Z Z Z Z Z (fun bS wS xS hbS rS=>?_)|refine E_dq Aa (by kernel_rfl) Z ?_))
      all_goals (try (exfalso;omega))
      have hkp:Kp ov vK wS wK:=⟨kK,hJ.imp (fun h=>h) (fun h=>⟨_,h,Nat.le_refl _⟩)⟩
      obtain⟨rEK,hnK⟩:=hkp.row (rEr.ext xS) hnE
      exact Ad (i+1,vK) ⟨rfl,rfl,rfl,rfl,rfl,rfl,trivial⟩ ⟨by dsimp only;omega,rEK,hnK,by dsimp only;rw [hft];exact hK⟩ (by dsimp only;omega)
  · obtain rfl:i=en.refs.length:=by omega
    rw [List.take_length] at hgr
    have hfl:=List.length_filter_le (attF ds g id) en.refs
    (repeat' (first|refine Ly ?_|refine Dy (fun hh=>?_) fun hh=>?_))
    all_goals (try (exfalso;omega))
    exact A5 Z Z ⟨(hgr.sl (fun _ _=>trivial) (by omega)),hXr⟩
theorem missF_eq (ds:List Dc) (g:Lg):P9 ds g=(g.lex.filter fun e=>(Cu ds g e.id).isEmpty).map (·.id):=rfl
theorem Fo {α β:Type} {p:α→Bool} {f:α→β} {l:List α} {i:Nat} {x:α} (h:l[i]?=some x):((l.take (i+1)).filter p).map f=((l.take i).filter p).map f++if p x then [f x] else []:=by
  rw [H1 h,List.map_append]
  cases p x <;> rfl
theorem empty_iff {α:Type} {l:List α}:l.isEmpty=decide ((l.length:Int)=0):=by cases l <;> simp;omega
theorem missing23_any {ds:List Dc} (hL:LightDs ds) (g:Lg) (hok:LangOK g) (n:Nat) (hn:g.net.states=(n:Int)) (dv pv uv tv rv sv fv ev:Value) (w:World) (hv:Sl w dv ds) (hg:LangG Tt w g pv uv tv rv sv fv ev) :
    Calls Tryz.prog 23 #[dv,.agg #[pv,str g.oname,uv,tv,rv,int n,sv,fv,ev] ] w (Rt fun u w'=>Sl w' u (P9 ds g)∧Ext w w'):=by
  rw [missF_eq]
  have hl0:=hg.lex
  obtain⟨la,lc,rfl,_,hlm,hlp⟩:=hl0.sl
  have hnl:=hok.nlex
  refine A7 (n:=36) (args:=[dv,.agg #[pv,str g.oname,uv,tv,rv,int n,sv,fv,.slice la g.lex.length lc] ]) Tryz.func23 rfl Tryz.ntmps23 (by simp) ?_
  refine Ac ?_
  refine A8 ?_
  refine Ao Z Z Z Z (fun bG wG xG hbG rG=>?_)
  (repeat' (first|refine Sy ?_|refine eL Z Z Z Z Z Z Z Z (fun bS wS xS hbS rS=>?_)))
  refine Ae (ι:=Nat × Value) (fun z=>[(0,dv),(3,.pointer (some ⟨bG,0,none⟩)),(5,z.2),(6,int z.1)])
    (fun z wr=>z.1≤g.lex.length∧Grow Tt wG 3 (((g.lex.take z.1).filter fun e=>(Cu ds g e.id).isEmpty).map (·.id)) z.2 wr) (fun z=>g.lex.length-z.1) (0,.slice (some ⟨bS,0,none⟩) 0 0)
    ⟨rfl,rfl,rfl,rfl,trivial⟩ ⟨Nat.zero_le _,Grow.nil rS xS (by omega)⟩ ?_
  rintro⟨i,ov⟩ wr ⟨hi,hgr⟩
  dsimp only at hi hgr ⊢
  have hXr:=xG.trans hgr.x
  have rGr:=rG.ext hgr.x
  by_cases hlt:i<g.lex.length
  · obtain⟨b,off,rfl⟩:=hlp (by omega)
    obtain⟨e,hei⟩:∃ e,g.lex[i]?=some e:=⟨_,List.getElem?_eq_getElem hlt⟩
    have hft:=Fo (p:=fun e:En=>(Cu ds g e.id).isEmpty) (f:=(·.id)) hei
    have hfl:=C0 (p:=fun e:En=>(Cu ds g e.id).isEmpty) (l:=g.lex) (i:=i)
    have hml:(((g.lex.take i).filter fun e=>(Cu ds g e.id).isEmpty).map (·.id)).length≤i:=by rw [List.length_map];exact hfl
    obtain⟨d0,f0,d1,f1,d2,f2,d3,f3,d4,f4,hat,_⟩:=B3 (hl0.ext hXr) hei
    have hvr:=hv.ext hXr
    have hgr2:=hg.ext hXr
    rw [empty_iff] at hft
    (repeat' (first|(refine B8 (fun wq δ xq hR=>?_);replace hgr:=hgr.ext xq;replace hat:=hat.ext xq;replace rGr:=rGr.ext xq)|refine eV Z Z (A0 (m:=i) Z Z Z (by first|rfl|omega) (by omega)) ?_|refine yV Z Z (fun _ _ _=>A0 (m:=i) Z Z Z (by first|rfl|omega) (by omega)) ?_|refine Al (f:=20) (fun u w'=>Sl w' u (Cu ds g e.id)) (fun _=>#[dv,.agg #[pv,str g.oname,uv,tv,rv,int n,sv,fv,.slice (some ⟨b,off,none⟩) g.lex.length lc],int e.id]) Z Z (fun _ _ _ _ xe h=>SlG.ext h xe) (fun _ _ _=>A3 Z Z en20) (fun wq _ xq _=>Ag (N7 hL g hok n hn e.id dv pv uv tv rv sv fv _ wq (hvr.ext xq) (hgr2.ext xq)) (fun _ _ hh=>hh)) ?_|refine M0 Z Z Z Z (fun _=>rfl) ?_|(refine Dv (x:=e.id) (hgr.ext xS) rS rfl rfl rfl rfl rfl rfl rfl rfl (by omega) (by omega) (fun vK wK hK=>?_))|refine Ly ?_|refine Dy (fun hh=>?_) fun hh=>?_|refine yqY ?_|refine yqZ ?_|refine yqX (fun hh=>?_) fun hh=>?_|refine eL Z Z Z Z Z Z Z Z (fun bS wS xS hbS rS=>?_)|refine E_dq Aa (by kernel_rfl) Z ?_))
    all_goals (try (exfalso;omega))
    · rw [decide_eq_true (by assumption),if_pos rfl] at hft
      exact Ad (i+1,vK) ⟨rfl,rfl,rfl,rfl,trivial⟩ ⟨by dsimp only;omega,by dsimp only;rw [hft];exact hK⟩ (by dsimp only;omega)
    · rw [decide_eq_false (by assumption),if_neg (by simp),List.append_nil] at hft
      exact Ad (i+1,ov) ⟨rfl,rfl,rfl,rfl,trivial⟩ ⟨by dsimp only;omega,by dsimp only;rw [hft];exact hgr⟩ (by dsimp only;omega)
  · obtain rfl:i=g.lex.length:=by omega
    rw [List.take_length] at hgr
    have hfl:=List.length_filter_le (fun e:En=>(Cu ds g e.id).isEmpty) g.lex
    (repeat' (first|refine Ly ?_|refine Dy (fun hh=>?_) fun hh=>?_))
    all_goals (try (exfalso;omega))
    exact A5 Z Z ⟨(hgr.sl (fun _ _=>trivial) (by rw [List.length_map];omega)),hXr⟩
theorem ints39:Ints Tryz.prog 39 3 2:=⟨by kernel_rfl,by kernel_rfl,by kernel_rfl,by kernel_rfl,Tryz.underlying3⟩
theorem rf_eq {x y:Rf}:[y.rcd,y.note]=[x.rcd,x.note]↔y=x:=by cases x;cases y;simp
end Go.Proofs.YtjicdgejhkgpgaaGreatDoor
