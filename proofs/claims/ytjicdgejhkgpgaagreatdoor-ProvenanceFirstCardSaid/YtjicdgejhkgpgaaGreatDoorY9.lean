/-
  Walks of the laws: Where. Walks of the laws: Leads. Walks of the laws: Times. Walks of the laws: First.
-/
import Derived.Test.YtjicdgejhkgpgaaGreatDoorY8
set_option linter.all false
namespace Go.Proofs.YtjicdgejhkgpgaaGreatDoor
open Go.RowKit Go.En Go.Pv
attribute [local irreducible] E EL K Val Enters Rt Calls bodyPost Code.wp RQ
set_option maxHeartbeats 8000000 in
set_option maxRecDepth 8000 in
theorem law10_any (ds:List Dc) (hn:∀ d∈ds,Names d) (r:Rf) (dv:Value) (w:World) (hT:Tabs w) (hv:Sl w dv ds) :
    Calls Tryz.prog 10 #[dv,.agg #[int r.rcd,int r.note] ] w (Rt fun u w'=>u=.bool true∧Ext w w'):=by
  refine calls_E (n:=66) (args:=[dv,.agg #[int r.rcd,int r.note] ]) Tryz.func10 rfl Tryz.ntmps10 (by simp) ?_
  refine E_seq ?_
  refine E_region ?_
  refine EL_boxA Z Z Z Z (fun bR wR xR hbR rR=>?_)
  have hX:=xR
  (repeat' ((fail_if_success (refine E_seq (x:=(Code.region 3 _ _)) ?_));first|(refine EL_call Z Z (entersF Z Z en28) (light28_any ds hn dv _ (hv.ext hX)) (fun vC wC hC=>?_);obtain⟨⟨bl,rfl,hl⟩,xC⟩:=hC;replace hX:=hX.trans xC;replace rR:=rR.ext xC;cases bl)|(refine EL_call Z Z (entersF Z Z en13) (awake13_any _ (hT.ext hX)) (fun vA wA hA=>?_);obtain⟨rfl,xA⟩:=hA;replace hX:=hX.trans xA)|(refine at_EL ?_;first|refine eN ?_|refine eV Z Z (zA Z Z) ?_|refine eV Z Z (zB Z Z) ?_|refine eV Z Z (zE Z Z) ?_)|(refine at_K ?_;first|refine K_then ?_|refine K_then_ret ?_)|(refine at_E ?_;first|refine E_seq ?_|refine E_region ?_|refine E_cond_t Z ?_|refine E_cond_f Z ?_|refine E_skip ?_|refine E_ret ?_)))
  all_goals (try (exfalso;omega))
  · exact ret_1 Z Z ⟨rfl,hX⟩
  have hL:=hl rfl
  refine E_seq ?_
  refine E.sub (M:=[(0,dv),(3,.pointer (some ⟨bR,0,none⟩))]) ⟨rfl,rfl,trivial⟩ ?_
  obtain⟨b1,hb1⟩:∃ b,(docF ds r.rcd).isSome=b:=⟨_,rfl⟩
  refine E_rel (id:=3) 8 9 1 5 23 (RD ds r.rcd) mvRD (dx0 dv) (fun y=>y.2.X)
    [.t 18 dv,.c 19 (fun y=>y.1),.t 20 (.pointer (some ⟨bR,0+0,none⟩)),.t 21 (int r.rcd),.d 22 (fun y=>.tuple #[.agg y.2.X.toArray,.bool b1]),.d 17 (fun y=>.tuple #[.agg y.2.X.toArray,.bool b1]),.d 23 (fun y=>.agg y.2.X.toArray),.d 24 (fun _=>.bool b1),.n,.n,.d 6 (fun _=>.bool b1)]
    mixedOk (by kernel_rfl) rfl rfl rfl rfl rfl rfl rfl rfl (by kernel_rfl) (by decide) rfl (fun _=>rfl) (fun y=>y.2.hl) (fun y=>y.2.h1) rfl
    (fun y=>⟨vcV fun _ _=>zA Z Z,⟨15,#[dv],fun _ _=>entersF Z Z en15,fun wq xq=>rd_call hL r.rcd dv wq (hv.ext (hX.trans xq))⟩,vcV fun _ _=>zH Z Z,vcV fun wq xq=>(by first|exact val_load Z Z Z ((Row.ext (by assumption) xq).cellAt (by rfl))|exact val_loadA Z Z Z (Row.ext (by assumption) xq).at (by rfl)|exact val_load Z Z Z ((At.ext (by assumption) xq).cellAt (by rfl))|exact val_loadA Z Z Z (At.ext (by assumption) xq) (by rfl)|exact val_load Z Z Z (Ext.cell xq (by assumption))),
      vdC (fun _ _ _ _=>entersF Z Z en34) (fun wq G xq hR=>by have:=hR.2 wq (Sm.refl _ _);rw [hb1] at this;exact this),vdV fun _ _ _ _=>zA Z Z,vdV fun _ _ _ _=>zF Z Z Z,vdV fun _ _ _ _=>zF Z Z Z,vdV fun _ _ _ _=>zB Z Z,trivial⟩) (fun y bD wD GD xD hbD hGD hRD rD=>?_)
  obtain⟨a1,c1,a2,c2,a3,c3,eX,_⟩:=dc_open hRD.1
  have hrD:=hRD.1
  rw [eX] at rD hrD
  replace hX:=hX.trans xD
  replace rR:=rR.ext xD
  refine K_then ?_
  obtain⟨X2,hrep2,c40⟩:=doc40_any ds r.rcd dv w hv
  rw [hb1] at c40
  obtain⟨p1,q1,p2,q2,p3,q3,rfl,_⟩:=dc_open hrep2
  refine E.sub (M:=[(0,dv),(3,.pointer (some ⟨bR,0,none⟩)),(5,.pointer (some ⟨bD,0,none⟩)),(6,.bool b1)]) ⟨rfl,rfl,rfl,rfl,trivial⟩ ?_
  have hrDD:=rep_any hrD
  have hxD:=Ext.refl wD
  (repeat' ((fail_if_success (refine E_seq (x:=(Code.region 5 _ _)) ?_));first|refine eV Z Z (val_load Z Z Z (Row.cellAt (by assumption) (by rfl))) ?_|(refine EL_call Z Z (entersF Z Z en40) (c40 _ hX) (fun vC wC hC=>?_);obtain⟨rfl,xC⟩:=hC;replace hX:=hX.trans xC;replace rR:=rR.ext xC;replace rD:=rD.ext xC;replace hxD:=hxD.trans xC)|(refine EL_var (t:=72) Z Z Z Z Z Z Z Z Z Z (fun bF wF xF hbF rF=>?_);replace hX:=hX.trans xF;replace rR:=rR.ext xF;replace rD:=rD.ext xF;replace hxD:=hxD.trans xF)|(refine at_EL ?_;first|refine eN ?_|refine eV Z Z (zA Z Z) ?_|refine eV Z Z (zB Z Z) ?_|refine eV Z Z (zF Z Z Z) ?_|refine eV Z Z (zH Z Z) ?_)|(refine at_K ?_;first|refine K_then ?_)|(refine at_E ?_;first|refine E_seq ?_|refine E_region ?_)))
  all_goals (try (exfalso;omega))
  refine E_seq ?_
  refine E.sub (M:=[(0,dv),(3,.pointer (some ⟨bR,0,none⟩)),(5,.pointer (some ⟨bD,0,none⟩)),(6,.bool b1),(7,.pointer (some ⟨bF,0,none⟩)),(8,.bool b1)]) ⟨rfl,rfl,rfl,rfl,rfl,rfl,trivial⟩ ?_
  obtain⟨s1,hs1⟩:∃ z,(whereS ds r).1=z:=⟨_,rfl⟩
  obtain⟨s2,hs2⟩:∃ z,(whereS ds r).2=z:=⟨_,rfl⟩
  obtain⟨lb,hlb⟩:∃ b,leadsB ds r=b:=⟨_,rfl⟩
  have hwd:whereDV ds r=.tuple #[.agg #[int s1,int s2],.bool lb]:=by unfold whereDV;rw [hs1,hs2,hlb]
  refine E_rel (id:=5) 7 8 1 9 37 (RC ds) mvRC dv (fun _=>[int s1,int s2])
    [.t 33 dv,.c 34 (fun y=>y),.t 35 (.agg #[int r.rcd,int r.note]),.d 36 (fun _=>.tuple #[.agg #[int s1,int s2],.bool lb]),.d 32 (fun _=>.tuple #[.agg #[int s1,int s2],.bool lb]),.d 37 (fun _=>.agg #[int s1,int s2]),.d 38 (fun _=>.bool lb),.n,.n,.d 10 (fun _=>.bool lb)]
    mixedOk (by kernel_rfl) rfl rfl rfl rfl rfl rfl rfl rfl (by kernel_rfl) (by decide) rfl (fun _=>rfl) (fun _=>rfl) (fun _=>rfl) rfl
    (fun y=>⟨vcV fun _ _=>zA Z Z,⟨15,#[dv],fun _ _=>entersF Z Z en15,fun wq xq=>rc_call hL dv wq (hv.ext (hX.trans xq))⟩,vcV fun wq xq=>(by first|exact val_load Z Z Z ((Row.ext (by assumption) xq).cellAt (by rfl))|exact val_loadA Z Z Z (Row.ext (by assumption) xq).at (by rfl)|exact val_load Z Z Z ((At.ext (by assumption) xq).cellAt (by rfl))|exact val_loadA Z Z Z (At.ext (by assumption) xq) (by rfl)|exact val_load Z Z Z (Ext.cell xq (by assumption))),
      vdC (fun _ _ _ _=>entersF Z Z en35) (fun wq G xq hR=>by have:=where35_any hL r y wq (SlG.any hR);rw [hwd] at this;exact this),vdV fun _ _ _ _=>zA Z Z,vdV fun _ _ _ _=>zF Z Z Z,vdV fun _ _ _ _=>zF Z Z Z,vdV fun _ _ _ _=>zB Z Z,trivial⟩) (fun y bW wW GW xW hbW hGW hRW rW=>?_)
  replace hX:=hX.trans xW
  replace rR:=rR.ext xW
  replace rD:=rD.ext xW
  replace rF:=rF.ext xW
  replace hxD:=hxD.trans xW
  refine K_then ?_
  have c41:=fun wz (hz:Ext w wz)=>where41_any hL r dv wz (hv.ext hz)
  rw [hwd] at c41
  have c42:=fun wz (hz:Ext wD wz) (hw:Ext w wz)=>same42_self (docD ds r.rcd) _ _ wz (rep_ext hrDD hz) (rep_ext hrep2 hw)
  refine E.sub (M:=[(0,dv),(3,.pointer (some ⟨bR,0,none⟩)),(5,.pointer (some ⟨bD,0,none⟩)),(6,.bool b1),(7,.pointer (some ⟨bF,0,none⟩)),(8,.bool b1),(9,.pointer (some ⟨bW,0,none⟩)),(10,.bool lb)]) ⟨rfl,rfl,rfl,rfl,rfl,rfl,rfl,rfl,trivial⟩ ?_
  (repeat' (first|refine eV Z Z (val_loadA Z Z Z (Row.at (by assumption)) (by rfl)) ?_|(refine EL_call Z Z (entersF Z Z en41) (c41 _ hX) (fun vC wC hC=>?_);obtain⟨rfl,xC⟩:=hC;replace hX:=hX.trans xC;replace rR:=rR.ext xC;replace rD:=rD.ext xC;replace rF:=rF.ext xC;replace rW:=rW.ext xC;replace hxD:=hxD.trans xC)|(refine EL_var (t:=76) Z Z Z Z Z Z Z Z Z Z (fun bV wV xV hbV rV=>?_);replace hX:=hX.trans xV;replace rR:=rR.ext xV;replace rD:=rD.ext xV;replace rF:=rF.ext xV;replace rW:=rW.ext xV;replace hxD:=hxD.trans xV)|(refine EL_call Z Z (entersF Z Z en42) (c42 _ hxD hX) (fun vC wC hC=>?_);obtain⟨rfl,xC⟩:=hC;replace hX:=hX.trans xC;replace rV:=rV.ext xC;replace rW:=rW.ext xC;replace hxD:=hxD.trans xC)|refine eV (v:=.bool true) Z Z (eql_bool rfl rfl rfl) ?_|refine eV Z Z (val_eql_self shp76 (eqs76b s1 s2) Z Z Z) ?_|(refine EL_call Z Z (entersF Z Z en13) (awake13_any _ (hT.ext hX)) (fun vA wA hA=>?_);obtain⟨rfl,xA⟩:=hA;replace hX:=hX.trans xA)|(refine at_EL ?_;first|refine eN ?_|refine eV Z Z (zA Z Z) ?_|refine eV Z Z (zB Z Z) ?_|refine eV Z Z (zC Z Z Z) ?_|refine eV Z Z (zF Z Z Z) ?_)|(refine at_K ?_;first|refine K_then ?_)|(refine at_E ?_;first|refine E_seq ?_|refine E_region ?_|refine E_ret ?_)))
  all_goals (try (exfalso;omega))
  exact ret_1 Z Z ⟨rfl,hX⟩
end Go.Proofs.YtjicdgejhkgpgaaGreatDoor
namespace Go.Proofs.YtjicdgejhkgpgaaGreatDoor
open Go.RowKit Go.En Go.Pv
attribute [local irreducible] E EL K Val Enters Rt Calls bodyPost Code.wp RQ
end Go.Proofs.YtjicdgejhkgpgaaGreatDoor
namespace Go.Proofs.YtjicdgejhkgpgaaGreatDoor
open Go.RowKit Go.En Go.Pv
attribute [local irreducible] E EL K Val Enters Rt Calls bodyPost Code.wp RQ
end Go.Proofs.YtjicdgejhkgpgaaGreatDoor
namespace Go.Proofs.YtjicdgejhkgpgaaGreatDoor
open Go.RowKit Go.En Go.Pv
theorem eql_bools {P:Program} {L:List (Nat × Value)} {w:World} {o:Oper} {t u:TypeId} {x y:Operand} {a b r:Bool} [UT P t .bool] (ho:o.op=.binOp .eql t x y u) (hx:ev L x=some (.bool a)) (hy:ev L y=some (.bool b)) (h:(a==b)=r):Val P L w o (.bool r):=fun ρ ha=>by
  subst h
  have h1:=ha.ev (by rw [ho];simp [Op.operands]) hx
  have h2:=ha.ev (by rw [ho];simp [Op.operands]) hy
  have h4:=run_eql_bool (P:=P) w t a b (UT.u (P:=P) (t:=t) (d:=.bool))
  simp [execOp,ho,h1,h2,go_sem,h4]
attribute [local irreducible] E EL K Val Enters Rt Calls bodyPost Code.wp RQ
set_option maxHeartbeats 8000000 in
set_option maxRecDepth 8000 in
theorem law9_any (ds : List Dc) (hn : ∀ d ∈ ds, Names d) (lex : List En) (l : List Pnt) (dv ev v : Value) (w : World) (hT : Tabs w) (hv : Sl w dv ds) (hx : Sl w ev lex) (hl0 : Sl w v l) :
    Calls Tryz.prog 9 #[dv,ev,v] w (Rt fun u w'=>u=.bool true∧Ext w w'):=by
  have hx0:=hx
  obtain⟨ea,ec,rfl,_,_,_⟩:=hx.sl
  have hl1:=hl0
  obtain⟨pa,pc,rfl,_,hpm,hpp⟩:=hl1.sl
  refine calls_E (n:=122) (args:=[dv,.slice ea lex.length ec,.slice pa l.length pc]) Tryz.func9 rfl Tryz.ntmps9 (by simp) ?_
  have hX:=Ext.refl w
  obtain⟨pz,hpz⟩:∃ z,pointsF labB txtF lex l=z:=⟨_,rfl⟩
  (repeat' ((fail_if_success (refine E_seq (x:=(Code.region 3 _ _)) ?_));first|(refine EL_call Z Z (entersF Z Z en28) (light28_any ds hn dv _ (hv.ext hX)) (fun vC wC hC=>?_);obtain⟨⟨bl,rfl,hl⟩,xC⟩:=hC;replace hX:=hX.trans xC;cases bl)|(refine EL_call Z Z (entersF Z Z en24) (few24_any l _ _ (hl0.ext hX)) (fun vC wC hC=>?_);obtain⟨⟨bf,rfl,hf⟩,xC⟩:=hC;replace hX:=hX.trans xC;cases bf)|(refine EL_call Z Z (entersF Z Z en13) (awake13_any _ (hT.ext hX)) (fun vA wA hA=>?_);obtain⟨rfl,xA⟩:=hA;replace hX:=hX.trans xA)|(refine at_EL ?_;first|refine eN ?_|refine eO Z Z ?_|refine eV Z Z (zA Z Z) ?_|refine eV Z Z (zB Z Z) ?_|(refine at_bin ?_;first|refine eD Z Z (zO Z Z Z) (fun hh=>?_) (fun hh=>?_))|(refine at_call ?_;first|refine eV Z Z (zK Z Z) ?_)|refine eV Z Z (zC Z Z Z) ?_|refine eV Z Z (zD Z Z Z) ?_|refine eV Z Z (zE Z Z) ?_)|(refine at_K ?_;first|refine K_then ?_|refine K_then_ret ?_)|(refine at_E ?_;first|refine E_seq ?_|refine E_region ?_|refine E_cond_t Z ?_|refine E_cond_f Z ?_|refine E_skip ?_|refine E_ret ?_)))
  all_goals (try (exfalso;omega))
  all_goals (try exact ret_1 Z Z ⟨rfl,hX⟩)
  have hL:=hl rfl
  obtain⟨hf1,hf2⟩:=hf rfl
  obtain⟨bz,hbz⟩:∃ b,decide (pz=0)=b:=⟨_,rfl⟩
  (repeat' ((fail_if_success (refine E_seq (x:=(Code.seq (Code.region 4 _ _) _)) ?_));first|(refine EL_call Z Z (entersF Z Z en26) (ptcopy26_any l (by omega) (few_cp hf2) _ _ (hl0.ext hX)) (fun vP wP hP=>?_);obtain⟨xP,sP⟩:=hP;replace hX:=hX.trans xP)|(refine EL_call Z Z (entersF Z Z en25) (points25_any lex l _ _ _ (hT.ext hX) (hx0.ext hX) sP.any) (fun vQ wQ hQ=>?_);rw [hpz] at hQ;obtain⟨rfl,xQ⟩:=hQ;replace hX:=hX.trans xQ)|refine eV (v:=.bool bz) Z Z (by rw [← hbz];exact val_eql Z Z Z) ?_|(refine at_EL ?_;first|refine eN ?_|refine eV Z Z (zA Z Z) ?_|refine eV Z Z (zB Z Z) ?_)|(refine at_K ?_;first|refine K_then ?_)|(refine at_E ?_;first|refine E_seq ?_|refine E_region ?_)))
  all_goals (try (exfalso;omega))
  refine E_mid (ι:=Unit) (fun _=>[(0,dv),(1,.slice ea lex.length ec),(2,.slice pa l.length pc)]) (fun _ wr=>Ext w wr) ?_ ?_
  · (repeat' (first|(refine at_EL ?_;first|refine eN ?_|refine eV Z Z (zB Z Z) ?_)|(refine at_K ?_;first|refine K_then ?_)|(refine at_E ?_;first|refine E_seq ?_|refine E_region ?_|refine E_block ?_)))
    refine E_loop (ι:=Nat) (fun z=>[(0,dv),(1,.slice ea lex.length ec),(2,.slice pa l.length pc),(7,.bool bz),(8,int z)]) (fun z wr=>z≤l.length+1∧Ext w wr) (fun z=>l.length+1-z) 0
      ⟨rfl,rfl,rfl,rfl,rfl,trivial⟩ ⟨by omega,hX⟩ ?_
    rintro n wr ⟨hnl,hX⟩
    by_cases hz:pz=0
    · have hb1:bz=true:=by rw [← hbz];exact decide_eq_true hz
      subst hb1
      by_cases hle:n≤l.length
      · have hk0:=SlG.take (k:=n) hl0 hle
        have hkl:(l.take n).length=n:=by rw [List.length_take];omega
        (repeat' (first|refine eV Z Z (val_slice_h (b:=n) Z Z Z Z (by omega)) ?_|(refine EL_call Z Z (entersF Z Z en26) (ptcopy26_any (l.take n) (by omega) (fun p hp=>few_cp hf2 p (List.mem_of_mem_take hp)) _ _ (hk0.ext hX)) (fun vP wP hP=>?_);obtain⟨xP,sP⟩:=hP;replace hX:=hX.trans xP)|(refine EL_call Z Z (entersF Z Z en25) (points25_any lex (l.take n) _ _ _ (hT.ext hX) (hx0.ext hX) sP.any) (fun vQ wQ hQ=>?_);rw [points_take (hpz.trans hz)] at hQ;obtain⟨rfl,xQ⟩:=hQ;replace hX:=hX.trans xQ)|(refine at_EL ?_;first|refine eN ?_|refine eO Z Z ?_|refine eV Z Z (zA Z Z) ?_|refine eV Z Z (zB Z Z) ?_|(refine at_bin ?_;first|refine eD Z Z (zN Z Z Z) (fun hh=>?_) (fun hh=>?_)|refine eD Z Z (zQ Z Z Z) (fun hh=>?_) (fun hh=>?_)|refine eV Z Z (zU Z Z Z (by omega) (by omega)) ?_)|(refine at_call ?_;first|refine eV Z Z (zK Z Z) ?_)|refine eV Z Z (zC Z Z Z) ?_|refine eV Z Z (zD Z Z Z) ?_)|(refine at_K ?_;first|refine K_then ?_|refine K_in ?_|refine K_then_ret ?_|refine K_then_exit ?_|refine K_in_ret ?_|refine K_in_exit ?_)|(refine at_E ?_;first|refine E_seq ?_|refine E_region ?_|refine E_cond_t Z ?_|refine E_cond_f Z ?_|refine E_block ?_|refine E_skip ?_|refine E_ret ?_|refine E_exit ?_)))
        all_goals (try (exfalso;omega))
        exact K_rnd (n+1) ⟨rfl,rfl,rfl,rfl,rfl,trivial⟩ ⟨by omega,hX⟩ (by omega)
      · (repeat' (first|(refine at_EL ?_;first|refine eN ?_|refine eO Z Z ?_|refine eV Z Z (zA Z Z) ?_|(refine at_bin ?_;first|refine eD Z Z (zN Z Z Z) (fun hh=>?_) (fun hh=>?_))|(refine at_call ?_;first|refine eV Z Z (zK Z Z) ?_)|refine eV Z Z (zC Z Z Z) ?_|refine eV Z Z (zD Z Z Z) ?_)|(refine at_K ?_;first|refine K_then ?_|refine K_then_exit ?_|refine K_in_exit ?_)|(refine at_E ?_;first|refine E_seq ?_|refine E_region ?_|refine E_cond_t Z ?_|refine E_cond_f Z ?_|refine E_block ?_|refine E_skip ?_|refine E_exit ?_)))
        all_goals (try (exfalso;omega))
        all_goals exact K_mid () ⟨rfl,rfl,rfl,trivial⟩ hX
    · have hb1:bz=false:=by rw [← hbz];exact decide_eq_false hz
      subst hb1
      (repeat' (first|(refine at_EL ?_;first|refine eN ?_|refine eO Z Z ?_|refine eV Z Z (zA Z Z) ?_|(refine at_bin ?_;first|refine eD Z Z (zN Z Z Z) (fun hh=>?_) (fun hh=>?_))|(refine at_call ?_;first|refine eV Z Z (zK Z Z) ?_)|refine eV Z Z (zC Z Z Z) ?_|refine eV Z Z (zD Z Z Z) ?_)|(refine at_K ?_;first|refine K_then ?_|refine K_then_exit ?_|refine K_in_exit ?_)|(refine at_E ?_;first|refine E_seq ?_|refine E_region ?_|refine E_cond_f Z ?_|refine E_exit ?_)))
      all_goals (try (exfalso;omega))
      all_goals exact K_mid () ⟨rfl,rfl,rfl,trivial⟩ hX
  · rintro _ wr hX
    refine E_seq ?_
    refine E_region ?_
    refine eV Z Z (zA Z Z) ?_
    refine EL_call Z Z (entersF Z Z en15) (dscopyL hL dv _ (hv.ext hX)) (fun vD wD hD=>?_)
    obtain⟨xD,sD⟩:=hD
    replace hX:=hX.trans xD
    refine eV Z Z (zA Z Z) ?_
    refine EL_call Z Z (entersF Z Z en26) (ptcopy26_any l (by omega) (few_cp hf2) _ _ (hl0.ext hX)) (fun vP wP hP=>?_)
    obtain⟨xP,sP⟩:=hP
    replace hX:=hX.trans xP
    refine EL_call Z Z (entersF Z Z en29) (dangling29_any hL l (by omega) (few_rl hf2) _ _ _ (sD.any.ext xP) sP.any) (fun vQ wQ hQ=>?_)
    obtain⟨sQ0,xQ⟩:=hQ
    have sQ:=sQ0.any
    clear sQ0
    replace hX:=hX.trans xQ
    obtain⟨Q,hQe⟩:∃ Q,danglF (leadsB ds) l=Q:=⟨_,rfl⟩
    rw [hQe] at sQ
    have hQl:Q.length≤(refsTo (leadsB ds) l).length:=by
      have h1:=putAll_len (rs:=refsTo (leadsB ds) l) (l:=[])
      rw [← dangl_eq,hQe] at h1
      simp only [List.length_nil] at h1
      omega
    have hrl:∀ m:Nat,(refsTo (leadsB ds) (l.take m)).length≤100000:=fun m=>by
      have:=refsTo_len (leads:=leadsB ds) (l:=l.take m) (m:=100) (fun q hq=>few_rl hf2 q (List.mem_of_mem_take hq)) (by rw [List.length_take];omega)
      omega
    obtain⟨qa,qc,rfl,_,_,hqp⟩:=sQ.sl
    (repeat' (first|(refine at_EL ?_;first|refine eN ?_|refine eV Z Z (zB Z Z) ?_)|(refine at_K ?_;first|refine K_then ?_)|(refine at_E ?_;first|refine E_seq ?_|refine E_region ?_|refine E_block ?_)))
    refine E_loop (ι:=Nat × Nat) (fun z=>[(0,dv),(2,.slice pa l.length pc),(9,.slice qa Q.length qc),(10,int z.2),(11,int z.1)])
      (fun z wk=>z.1≤l.length∧z.2=(refsTo (leadsB ds) (l.take z.1)).length∧Ext wQ wk) (fun z=>l.length-z.1) (0,0)
      ⟨rfl,rfl,rfl,rfl,rfl,trivial⟩ ⟨Nat.zero_le _,by simp [refsTo],Ext.refl _⟩ ?_
    rintro⟨i,A⟩ wk ⟨hi,hA,hxk⟩
    dsimp only at hi hA ⊢
    have hAl:=hrl i
    rw [← hA] at hAl
    by_cases hlt:i<l.length
    · obtain⟨b,off,rfl⟩:=hpp (by omega)
      obtain⟨p,hpi⟩:∃ p,l[i]?=some p:=⟨_,List.getElem?_eq_getElem hlt⟩
      have hpm':=List.mem_of_getElem? hpi
      have hpr:=few_rl hf2 p hpm'
      have hs:=refsTo_succ (leads:=leadsB ds) hpi
      have hsl:(refsTo (leadsB ds) (l.take (i+1))).length=A+(p.refs.filter fun r=>!leadsB ds r).length:=by rw [hs,List.length_append,hA]
      obtain⟨a0,c0,a1,c1,hatw,_,_,hrs⟩:=pnt_elem hl0 hpi
      obtain⟨_,_,ee,_,_,hrp⟩:=hrs.sl
      cases ee
      have hat0:=hatw.ext (hX.trans hxk)
      (repeat' (first|(refine at_EL ?_;first|refine eN ?_|refine eO Z Z ?_|refine eV Z Z (zA Z Z) ?_|refine eV Z Z (zB Z Z) ?_|(refine at_bin ?_;first|refine eD Z Z (zL Z Z Z) (fun hh=>?_) (fun hh=>?_)|refine eD Z Z (zN Z Z Z) (fun hh=>?_) (fun hh=>?_))|(refine at_call ?_;first|refine eV Z Z (zK Z Z) ?_)|refine eV Z Z (zD Z Z Z) ?_)|(refine at_K ?_;first|refine K_then ?_|refine K_then_exit ?_|refine K_in_exit ?_)|(refine at_E ?_;first|refine E_seq ?_|refine E_region ?_|refine E_cond_t Z ?_|refine E_cond_f Z ?_|refine E_block ?_|refine E_skip ?_|refine E_ret ?_|refine E_exit ?_)))
      all_goals (try (exfalso;omega))
      refine E_loop (ι:=Nat × Nat) (fun z=>[(0,dv),(2,.slice (some ⟨b,off,none⟩) l.length pc),(9,.slice qa Q.length qc),(10,int z.2),(11,int i),(12,int z.1)])
        (fun z wm=>z.1≤p.refs.length∧z.2=A+((p.refs.take z.1).filter fun r=>!leadsB ds r).length∧Ext wQ wm) (fun z=>p.refs.length-z.1) (0,A)
        ⟨rfl,rfl,rfl,rfl,rfl,rfl,trivial⟩ ⟨Nat.zero_le _,by simp,hxk⟩ ?_
      clear hat0 hxk
      rintro⟨k,c⟩ wm ⟨hk,hc,hxm⟩
      dsimp only at hk hc ⊢
      have hcl:=filter_take_len (p:=fun r=>!leadsB ds r) (l:=p.refs) (i:=k)
      have hX0:=hX
      replace hX:=hX.trans hxm
      have hat:=hatw.ext hX
      by_cases hlk:k<p.refs.length
      · obtain⟨rb,ro,rfl⟩:=hrp (by omega)
        obtain⟨r,hrk⟩:∃ r,p.refs[k]?=some r:=⟨_,List.getElem?_eq_getElem hlk⟩
        have hft:=filter_snoc (f:=fun r=>!leadsB ds r) hrk
        have hrw:=rf_elem hrs hrk
        have hatr:=hrw.ext hX
        have hrQ:r∈Q↔leadsB ds r=false:=by
          rw [← hQe,dangl_mem]
          exact⟨fun h=>h.2,fun h=>⟨⟨p,hpm',List.mem_of_getElem? hrk⟩,h⟩⟩
        obtain⟨s1,hs1⟩:∃ z,(whereS ds r).1=z:=⟨_,rfl⟩
        obtain⟨s2,hs2⟩:∃ z,(whereS ds r).2=z:=⟨_,rfl⟩
        obtain⟨lb,hlb⟩:∃ b,leadsB ds r=b:=⟨_,rfl⟩
        have hwd:whereDV ds r=.tuple #[.agg #[int s1,int s2],.bool lb]:=by unfold whereDV;rw [hs1,hs2,hlb]
        rw [hlb] at hrQ hft
        (repeat' ((fail_if_success (refine E_seq (x:=(Code.region 17 _ _)) ?_));first|refine eV Z Z (val_load Z Z Z (At.cellAt (by assumption) (by rfl))) ?_|refine eV Z Z (val_indexAddr (m:=i) Z Z Z (by first|rfl|omega) (by omega)) ?_|(refine at_EL ?_;first|refine eN ?_|refine eV Z Z (zA Z Z) ?_|refine eV Z Z (zB Z Z) ?_|(refine at_bin ?_;first|refine eD Z Z (zL Z Z Z) (fun hh=>?_) (fun hh=>?_)|refine eV Z Z (zU Z Z Z (by omega) (by omega)) ?_)|(refine at_call ?_;first|refine eV Z Z (zK Z Z) ?_)|refine eV Z Z (zH Z Z) ?_)|(refine at_K ?_;first|refine K_then ?_|refine K_in ?_|refine K_then_exit ?_|refine K_in_exit ?_)|(refine at_E ?_;first|refine E_seq ?_|refine E_region ?_|refine E_cond_t Z ?_|refine E_cond_f Z ?_|refine E_block ?_|refine E_skip ?_|refine E_exit ?_)))
        all_goals (try (exfalso;omega))
        try refine E_seq ?_
        refine E.sub (M:=[(0,dv),(2,.slice (some ⟨b,off,none⟩) l.length pc),(9,.slice qa Q.length qc),(10,int c),(11,int i),(12,int k)]) ⟨rfl,rfl,rfl,rfl,rfl,rfl,trivial⟩ ?_
        refine E_rel (id:=17) 14 15 1 13 85 (RC ds) mvRC dv (fun _=>[int s1,int s2])
            [.t 74 dv,.c 75 (fun y=>y),.t 76 (.slice (some ⟨b,off,none⟩) l.length pc),.t 77 (int i),.t 78 (.pointer (some ⟨b,off+i*5,none⟩)),.t 79 (.pointer (some ⟨b,off+i*5+4,none⟩)),.t 80 (.slice (some ⟨rb,ro,none⟩) p.refs.length c1),.t 81 (int k),.t 82 (.pointer (some ⟨rb,ro+k*2,none⟩)),.t 83 (.agg #[int r.rcd,int r.note]),.d 84 (fun _=>.tuple #[.agg #[int s1,int s2],.bool lb]),.d 73 (fun _=>.tuple #[.agg #[int s1,int s2],.bool lb]),.d 85 (fun _=>.agg #[int s1,int s2]),.d 86 (fun _=>.bool lb),.n,.n,.d 14 (fun _=>.bool lb)]
            mixedOk (by kernel_rfl) rfl rfl rfl rfl rfl rfl rfl rfl (by kernel_rfl) (by decide) rfl (fun _=>rfl) (fun _=>rfl) (fun _=>rfl) rfl
            (fun y=>⟨vcV fun _ _=>zA Z Z,⟨15,#[dv],fun _ _=>entersF Z Z en15,fun wq xq=>rc_call hL dv wq (hv.ext (hX.trans xq))⟩,vcV fun _ _=>zA Z Z,vcV fun _ _=>zA Z Z,vcV fun _ _=>val_indexAddr (m:=i) Z Z Z Z hlt,vcV fun _ _=>zH Z Z,vcV fun wq xq=>(by first|exact val_load Z Z Z ((Row.ext (by assumption) xq).cellAt (by rfl))|exact val_loadA Z Z Z (Row.ext (by assumption) xq).at (by rfl)|exact val_load Z Z Z ((At.ext (by assumption) xq).cellAt (by rfl))|exact val_loadA Z Z Z (At.ext (by assumption) xq) (by rfl)|exact val_load Z Z Z (Ext.cell xq (by assumption))),vcV fun _ _=>zA Z Z,vcV fun _ _=>val_indexAddr (m:=k) Z Z Z Z hlk,vcV fun wq xq=>(by first|exact val_load Z Z Z ((Row.ext (by assumption) xq).cellAt (by rfl))|exact val_loadA Z Z Z (Row.ext (by assumption) xq).at (by rfl)|exact val_load Z Z Z ((At.ext (by assumption) xq).cellAt (by rfl))|exact val_loadA Z Z Z (At.ext (by assumption) xq) (by rfl)|exact val_load Z Z Z (Ext.cell xq (by assumption))),
              vdC (fun _ _ _ _=>entersF Z Z en35) (fun wq G xq hR=>by have:=where35_any hL r y wq (SlG.any hR);rw [hwd] at this;exact this),vdV fun _ _ _ _=>zA Z Z,vdV fun _ _ _ _=>zF Z Z Z,vdV fun _ _ _ _=>zF Z Z Z,vdV fun _ _ _ _=>zB Z Z,trivial⟩) (fun y bW wW GW xW hbW hGW hRW rW=>?_)
        replace hat:=hat.ext xW
        replace hatr:=hatr.ext xW
        replace hxm:=hxm.trans xW
        refine K_then ?_
        (repeat' (first|(refine at_EL ?_;first|refine eN ?_|refine eV Z Z (zB Z Z) ?_)|(refine at_K ?_;first|refine K_then ?_)|(refine at_E ?_;first|refine E_seq ?_|refine E_region ?_|refine E_block ?_)))
        refine E_loop (ι:=Nat) (fun z=>[(0,dv),(2,.slice (some ⟨b,off,none⟩) l.length pc),(9,.slice qa Q.length qc),(10,int c),(11,int i),(12,int k),(14,.bool lb),(15,.bool (decide (r∈Q.take z))),(16,int z)])
          (fun z wj=>z≤Q.length∧Ext wQ wj) (fun z=>Q.length-z) 0
          ⟨rfl,rfl,rfl,rfl,rfl,rfl,rfl,rfl,rfl,trivial⟩ ⟨Nat.zero_le _,hxm⟩ ?_
        clear hat hatr hxm hX
        rintro j wj ⟨hj,hxj⟩
        replace hX0:=hX0.trans hxj
        by_cases hlj:j<Q.length
        · obtain⟨qb,qo,rfl⟩:=hqp (by omega)
          obtain⟨x,hxq⟩:∃ x,Q[j]?=some x:=⟨_,List.getElem?_eq_getElem hlj⟩
          have hatq:=rf_elem (sQ.ext hxj) hxq
          have hat:=hatw.ext hX0
          have hatr:=hrw.ext hX0
          have hts:Q.take (j+1)=Q.take j++[x]:=by rw [List.take_add_one,hxq];rfl
          obtain⟨f0,hf0⟩:∃ f,decide (r∈Q.take j)=f:=⟨_,rfl⟩
          obtain⟨f1,hf1'⟩:∃ f,decide (r∈Q.take (j+1))=f:=⟨_,rfl⟩
          obtain⟨ex,hex⟩:∃ f,decide ([x.rcd,x.note]=[r.rcd,r.note])=f:=⟨_,rfl⟩
          have hff:f1=(f0||ex):=by
            rw [← hf1',← hf0,← hex,← Bool.decide_or]
            refine decide_eq_decide.2 ?_
            rw [hts,List.mem_append,List.mem_singleton]
            exact or_congr Iff.rfl ⟨fun h=>rf_eq.2 h.symm,fun h=>(rf_eq.1 h).symm⟩
          rw [hf0]
          cases f0
          all_goals
            (repeat' (first|(refine yN Z (fun wq xq=>?_);replace hxj:=hxj.trans xq)|refine yV Z Z (fun wq _ xq=>val_load Z Z Z ((At.ext (by assumption) xq).cellAt (by rfl))) ?_|refine yV Z Z (fun wq _ xq=>val_loadA Z Z Z (At.ext (by assumption) xq) (by rfl)) ?_|refine yV Z Z (fun _ _ _=>val_indexAddr (m:=j) Z Z Z (by first|rfl|omega) (by omega)) ?_|refine yV Z Z (fun _ _ _=>val_indexAddr (m:=i) Z Z Z (by first|rfl|omega) (by omega)) ?_|refine yV Z Z (fun _ _ _=>val_indexAddr (m:=k) Z Z Z (by first|rfl|omega) (by omega)) ?_|refine yV Z Z (fun _ _ _=>val_eq_ints [x.rcd,x.note] [r.rcd,r.note] (r:=ex) ints39 rfl rfl rfl rfl rfl rfl hex) ?_|(refine at_EL ?_;first|refine eN ?_|refine eV Z Z (zA Z Z) ?_|refine eV Z Z (zB Z Z) ?_|(refine at_bin ?_;first|refine eD Z Z (zL Z Z Z) (fun hh=>?_) (fun hh=>?_)|refine eV Z Z (zU Z Z Z (by omega) (by omega)) ?_)|(refine at_call ?_;first|refine eV Z Z (zK Z Z) ?_))|(refine at_K ?_;first|refine K_then ?_|refine K_in ?_|refine K_then_exit ?_|refine K_in_exit ?_)|(refine at_E ?_;first|refine E_seq ?_|refine E_region ?_|refine E_cond_t Z ?_|refine E_cond_f Z ?_|refine E_block ?_|refine E_skip ?_|refine E_exit ?_|refine E_dq mixedOk (by kernel_rfl) Z ?_)|(refine at_RQ ?_;first|refine yO Z Z ?_|refine yV Z Z (fun _ _ _=>zA Z Z) ?_|refine yV Z Z (fun _ _ _=>zB Z Z) ?_|refine yV Z Z (fun _ _ _=>zC Z Z Z) ?_|refine yV Z Z (fun _ _ _=>zD Z Z Z) ?_|refine yV Z Z (fun _ _ _=>zH Z Z) ?_)))
            all_goals (try (exfalso;omega))
            exact K_rnd (j+1) ⟨rfl,rfl,rfl,rfl,rfl,rfl,rfl,(by rw [hf1',hff];rfl),rfl,trivial⟩ ⟨by omega,hxj⟩ (by omega)
        · have hte:Q.take j=Q:=List.take_of_length_le (by omega)
          rw [hte]
          have hfe:decide (r∈Q)=!lb:=by
            cases lb
            · exact decide_eq_true (hrQ.2 rfl)
            · exact decide_eq_false (fun h=>absurd (hrQ.1 h) (by decide))
          rw [hfe]
          cases lb
          · (repeat' (first|refine eV (v:=.bool false) Z Z (eql_bools rfl rfl rfl (by decide)) ?_|(refine at_EL ?_;first|refine eN ?_|refine eV Z Z (zA Z Z) ?_|refine eV Z Z (zB Z Z) ?_|(refine at_bin ?_;first|refine eD Z Z (zL Z Z Z) (fun hh=>?_) (fun hh=>?_)|refine eV Z Z (zU Z Z Z (by omega) (by omega)) ?_)|(refine at_call ?_;first|refine eV Z Z (zK Z Z) ?_))|(refine at_K ?_;first|refine K_then ?_|refine K_in ?_|refine K_then_exit ?_|refine K_in_exit ?_)|(refine at_E ?_;first|refine E_seq ?_|refine E_region ?_|refine E_cond_t Z ?_|refine E_cond_f Z ?_|refine E_block ?_|refine E_skip ?_|refine E_exit ?_)))
            all_goals (try (exfalso;omega))
            exact K_rnd (k+1,c+1) ⟨rfl,rfl,rfl,rfl,rfl,rfl,trivial⟩ ⟨by dsimp only;omega,by dsimp only;rw [hft,List.length_append,hc];rfl,hxj⟩ (by dsimp only;omega)
          · (repeat' (first|refine eV (v:=.bool false) Z Z (eql_bools rfl rfl rfl (by decide)) ?_|(refine at_EL ?_;first|refine eN ?_|refine eV Z Z (zA Z Z) ?_|refine eV Z Z (zB Z Z) ?_|(refine at_bin ?_;first|refine eD Z Z (zL Z Z Z) (fun hh=>?_) (fun hh=>?_)|refine eV Z Z (zU Z Z Z (by omega) (by omega)) ?_)|(refine at_call ?_;first|refine eV Z Z (zK Z Z) ?_))|(refine at_K ?_;first|refine K_then ?_|refine K_in ?_|refine K_then_exit ?_|refine K_in_exit ?_)|(refine at_E ?_;first|refine E_seq ?_|refine E_region ?_|refine E_cond_t Z ?_|refine E_cond_f Z ?_|refine E_block ?_|refine E_skip ?_|refine E_exit ?_)))
            all_goals (try (exfalso;omega))
            exact K_rnd (k+1,c) ⟨rfl,rfl,rfl,rfl,rfl,rfl,trivial⟩ ⟨by dsimp only;omega,by dsimp only;rw [hft,List.length_append,hc];rfl,hxj⟩ (by dsimp only;omega)
      · rw [List.take_of_length_le (by omega)] at hc
        (repeat' (first|refine eV Z Z (val_load Z Z Z (At.cellAt (by assumption) (by rfl))) ?_|refine eV Z Z (val_indexAddr (m:=i) Z Z Z (by first|rfl|omega) (by omega)) ?_|(refine at_EL ?_;first|refine eN ?_|refine eV Z Z (zA Z Z) ?_|refine eV Z Z (zB Z Z) ?_|(refine at_bin ?_;first|refine eD Z Z (zL Z Z Z) (fun hh=>?_) (fun hh=>?_)|refine eV Z Z (zU Z Z Z (by omega) (by omega)) ?_)|(refine at_call ?_;first|refine eV Z Z (zK Z Z) ?_)|refine eV Z Z (zH Z Z) ?_)|(refine at_K ?_;first|refine K_then ?_|refine K_in ?_|refine K_then_exit ?_|refine K_in_exit ?_)|(refine at_E ?_;first|refine E_seq ?_|refine E_region ?_|refine E_cond_t Z ?_|refine E_cond_f Z ?_|refine E_block ?_|refine E_skip ?_|refine E_exit ?_)))
        all_goals (try (exfalso;omega))
        exact K_rnd (i+1,c) ⟨rfl,rfl,rfl,rfl,rfl,trivial⟩ ⟨by dsimp only;omega,by dsimp only;omega,hxm⟩ (by dsimp only;omega)
    · rw [List.take_of_length_le (by omega)] at hA
      replace hX:=hX.trans hxk
      (repeat' (first|(refine EL_call Z Z (entersF Z Z en13) (awake13_any _ (hT.ext hX)) (fun vA wA hA=>?_);obtain⟨rfl,xA⟩:=hA;replace hX:=hX.trans xA)|(refine at_EL ?_;first|refine eN ?_|refine eO Z Z ?_|refine eV Z Z (zA Z Z) ?_|refine eV Z Z (zB Z Z) ?_|(refine at_bin ?_;first|refine eD Z Z (zL Z Z Z) (fun hh=>?_) (fun hh=>?_)|refine eD Z Z (zN Z Z Z) (fun hh=>?_) (fun hh=>?_))|(refine at_call ?_;first|refine eV Z Z (zK Z Z) ?_)|refine eV Z Z (zC Z Z Z) ?_|refine eV Z Z (zD Z Z Z) ?_)|(refine at_K ?_;first|refine K_then ?_|refine K_then_exit ?_|refine K_in_exit ?_)|(refine at_E ?_;first|refine E_seq ?_|refine E_region ?_|refine E_cond_t Z ?_|refine E_cond_f Z ?_|refine E_block ?_|refine E_skip ?_|refine E_ret ?_|refine E_exit ?_)))
      all_goals (try (exfalso;omega))
      exact ret_1 Z Z ⟨rfl,hX⟩
end Go.Proofs.YtjicdgejhkgpgaaGreatDoor
