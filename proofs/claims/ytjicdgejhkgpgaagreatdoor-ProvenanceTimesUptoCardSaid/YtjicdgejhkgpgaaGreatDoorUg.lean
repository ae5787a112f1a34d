/-
  Own text of the proof.
-/
import Derived.Test.YtjicdgejhkgpgaaGreatDoorUf
import Derived.Test.YtjicdgejhkgpgaaGreatDoorXTO
import Derived.Test.YtjicdgejhkgpgaaGreatDoorYi
import Derived.Test.YtjicdgejhkgpgaaGreatDoorYh
import Derived.Test.YtjicdgejhkgpgaaGreatDoorYk
import Derived.ArgAppend
import Derived.Deep.Upon
set_option linter.all false
set_option maxHeartbeats 16000000
set_option maxRecDepth 16000
namespace Go.Proofs.YtjicdgejhkgpgaaGreatDoor
open Go.RowKit Go.En Go.Pv
theorem Mh (a b:Int):EqS Tryz.prog 10000 76 (.agg #[int a,int b]):=
  eqS_struct (d:=9999) Ol ⟨rfl,⟨_,part_int Tryz.underlying3 rfl,eqS_int Tryz.underlying3⟩,rfl,⟨_,part_int Tryz.underlying3 rfl,eqS_int Tryz.underlying3⟩,trivial⟩
theorem one_rf {w:World} {b:Nat} {x:Rf} (r:Row w b 39 [int x.rcd,int x.note]):Sl w (.slice (some ⟨b,0,none⟩) 1 1) [x]:=Gb (xs:=[x]) (css:=[[int x.rcd,int x.note]]) r ⟨rfl,trivial⟩ (Nat.le_refl _) (by simp)
theorem one_int {w:World} {b:Nat} {x:Int} (r:Row w b 3 [int x]):Sl w (.slice (some ⟨b,0,none⟩) 1 1) [x]:=Gb (xs:=[x]) (css:=[[int x]]) r ⟨rfl,trivial⟩ (Nat.le_refl _) (by simp)
theorem Nn {w:World} {b:Nat} {p:Pnt} {X:List Value} (r:Row w b 90 X) (h:Rep.at_ Tt w p X):Sl w (.slice (some ⟨b,0,none⟩) 1 1) [p]:=Gb (xs:=[p]) (css:=[X]) (by simpa using r) ⟨h,trivial⟩ (Nat.le_refl _) (by simp)
theorem one_dc {w:World} {b:Nat} {d:Dc} {X:List Value} (r:Row w b 72 X) (h:Rep.at_ Tt w d X):Sl w (.slice (some ⟨b,0,none⟩) 1 1) [d]:=Gb (xs:=[d]) (css:=[X]) (by simpa using r) ⟨h,trivial⟩ (Nat.le_refl _) (by simp)
theorem rep_any {α:Type} [Rep α] {G:Nat→Prop} {w:World} {x:α} {X:List Value} (h:Rep.at_ G w x X):Rep.at_ Tt w x X:=Rep.move h fun _ _ _=>⟨trivial,rfl⟩
theorem Ld {α:Type} [Rep α] {w w':World} {x:α} {X:List Value} (h:Rep.at_ Tt w x X) (k:Ext w w'):Rep.at_ Tt w' x X:=Rep.move h k.mv
theorem sample47_L (w:World):Calls Tryz.prog 47 #[] w (Rt fun u w'=>(∃ pv uv tv rv sv fv ev,u=.agg #[pv,str xG.oname,uv,tv,rv,int xG.net.states,sv,fv,ev]∧LangG Tt w' xG pv uv tv rv sv fv ev)∧Ext w w'):=
  Ag (La w) fun _ _ h=>by
    obtain⟨⟨bL,pv,uv,sv,fv,g1,n1,r1,g2,n2,r2,rfl,hs⟩,hx⟩:=h
    exact⟨⟨_,_,_,_,_,_,_,rfl,hs.lang⟩,hx⟩
theorem x_tx:Q8 [xD]:=D5 Kz
attribute [local irreducible] E EL K Val Enters Rt Calls bodyPost Code.wp RQ
theorem Bp (w:World) (hT:Tabs w):Calls Tryz.prog 13 #[] w (Rt fun u w'=>u=.bool true∧Ext w w'):=by
  refine A7 (n:=128) (args:=[]) Tryz.func13 rfl Tryz.ntmps13 (by simp) ?_
  refine Ac ?_;refine A8 ?_
  refine eV Z Z (zB Z Z) ?_
  refine eN ?_;refine Ba ?_;refine Ac ?_;refine A8 ?_
  refine A9 Z Z (A3 Z Z en46) (doc46_any w) (fun vC wC hC=>?_)
  obtain⟨⟨X,rfl,hrX0⟩,hX⟩:=hC
  have hrX:=rep_any hrX0
  clear hrX0
  obtain⟨a1,c1,a2,c2,a3,c3,rfl,s1,s2,s3⟩:=Jy hrX
  refine eL (t:=22) Z Z Z Z Z Z Z Z (fun bD wD xD1 hbD rD=>?_)
  have hD:Sl wD (.slice (some ⟨bD,0,none⟩) 1 1) [xD]:=one_dc rD (Ld hrX xD1)
  replace hX:=hX.trans xD1
  clear hrX s1 s2 s3 rD
  refine eV Z Z (zB Z Z) ?_
  refine eN ?_;refine Ba ?_
  have c35:=fun wz (hz:Ext wD wz)=>Fe Kz ⟨3,8⟩ (.slice (some ⟨bD,0,none⟩) 1 1) wz (hD.ext hz)
  rw [x_where] at c35
  have c35b:=fun wz (hz:Ext wD wz)=>Fe Kz ⟨4,8⟩ (.slice (some ⟨bD,0,none⟩) 1 1) wz (hD.ext hz)
  rw [x_no] at c35b
  have hxD:=Ext.refl wD
  refine Ac ?_;refine A8 ?_
  (repeat' (first|refine eV Z Z (Af (vs:=[(0,int 3),(1,int 8)]) [int 3,int 8] rfl rfl rfl) ?_|refine eV Z Z (Af (vs:=[(0,int 4),(1,int 8)]) [int 4,int 8] rfl rfl rfl) ?_|(refine cqC (c35 _ hxD) en35 fun wE xE=>?_;replace hxD:=hxD.trans xE)|(refine A9 Z Z (A3 Z Z en35) (c35b _ hxD) (fun vE wE2 hE=>?_);obtain⟨rfl,xE2⟩:=hE;replace hxD:=hxD.trans xE2;replace rS1:=rS1.ext xE2)|(refine Am (t:=76) (cs:=[int 300,int 500]) Z Z Z Z Z Z Z Z Z Z (fun bS1 wS1 xS1 hbS1 rS1=>?_);replace hxD:=hxD.trans xS1)|(refine Am (t:=76) (cs:=[int 0,int 0]) Z Z Z Z Z Z Z Z Z Z (fun bS2 wS2 xS2 hbS2 rS2=>?_);replace hxD:=hxD.trans xS2;replace rS1:=rS1.ext xS2)|refine Sy ?_))
  have hD2:=hD.ext hxD
  obtain⟨X3,hrX3,c34⟩:=doc34_any [xD] 3 (.slice (some ⟨bD,0,none⟩) 1 1) _ hD2
  rw [x_doc] at c34
  obtain⟨a1,c1,a2,c2,a3,c3,rfl,s1,s2,s3⟩:=Jy hrX3
  refine A9 Z Z (A3 Z Z en34) (c34 _ (Ext.refl _)) (fun vE wF hE=>?_)
  obtain⟨rfl,xF⟩:=hE
  replace hxD:=hxD.trans xF
  replace rS1:=rS1.ext xF
  (repeat' ((fail_if_success (refine Ac (x:=(Code.region 5 _ _)) ?_));first|(refine Am (t:=72) Z Z Z Z Z Z Z Z Z Z (fun bV wV xV hbV rV=>?_);replace hxD:=hxD.trans xV;replace rS1:=rS1.ext xV)|refine Sy ?_))
  refine Ac ?_;refine A8 ?_
  refine A9 Z Z (A3 Z Z en47) (La _) (fun vE wG hE=>?_)
  obtain⟨⟨bL8,pv8,uv8,sv8,fv8,g1,n1,r1,g2,n2,r2,rfl,hs⟩,xG0⟩:=hE
  obtain⟨p1,q1,rfl,_⟩:=hs.segs.sl
  obtain⟨p2,q2,rfl,_⟩:=hs.units.sl
  obtain⟨p3,q3,rfl,_⟩:=hs.steps.sl
  obtain⟨p4,q4,rfl,_⟩:=hs.final.sl
  refine Am (t:=37) Z Z Z Z Z Z Z Z Z Z (fun b8 w8 x8 hb8 r8=>?_)
  have hlo:=hs.lo
  have hrw:=hs.row.ext x8
  have hbl:=hs.row.lt
  refine eN ?_;refine Ba ?_;refine Ac ?_;refine A8 ?_
  refine eV Z Z (zH Z Z) ?_
  refine eV Z Z (A6 Z Z Z (Row.cellAt r8 (by rfl))) ?_
  refine eV Z Z (A0 (m:=0) Z Z Z Z (by omega)) ?_
  refine eV Z Z (zH Z Z) ?_
  refine Ah (cs:=[.slice none 0 0]) hrw (xG0.trans x8) hlo rfl rfl rfl rfl rfl rfl rfl rfl (Nat.le_of_ble_eq_true rfl) (fun w9 r9 x9 k9=>?_)
  refine eN ?_;refine Ba ?_
  have r9b:Row w9 bL8 65 [int 1,g1,int 1,.slice none 0 0,int 0,n1,.slice none 0 0,.slice none 0 0,int 2,g2,int 2,.slice none 0 0,int 0,n2,.slice none 0 0,r2]:=r9
  have hL:=hs.langn (Go.En.Fd (x8.kb (some bL8)) k9) r9b
  have r8b:=k9.row r8 (fun e=>by cases e;omega)
  clear hs hrw r9 r9b k9 r8
  have hY:=(hX.trans hxD).trans x9
  replace rS1:=rS1.ext x9
  replace hD:=(hD.ext hxD).ext x9
  refine Ac ?_;refine A8 ?_
  refine eL (t:=32) Z Z Z Z Z Z Z Z (fun bI wI xI hbI rI=>?_)
  refine eV Z Z (Af (vs:=[(0,int 3),(1,int 7)]) [int 3,int 7] rfl rfl rfl) ?_
  refine eV Z Z (Af (vs:=[(0,int 3),(1,int 9)]) [int 3,int 9] rfl rfl rfl) ?_
  refine eL (t:=46) Z Z Z Z Z Z Z Z (fun bR wR xR hbR rR=>?_)
  refine eV Z Z (Af (vs:=[(0,int 1),(1,str [112,108,117,114,97,108]),(3,.slice (some ⟨bI,0,none⟩) 1 1),(4,.slice (some ⟨bR,0,none⟩) 2 2)]) [int 1,str [112,108,117,114,97,108],str [],.slice (some ⟨bI,0,none⟩) 1 1,.slice (some ⟨bR,0,none⟩) 2 2] rfl rfl rfl) ?_
  refine Am (t:=90) Z Z Z Z Z Z Z Z Z Z (fun b9 w10 x10 hb9 rP=>?_)
  refine eN ?_;refine Ba ?_;refine Ac ?_;refine A8 ?_
  refine eV Z Z (Ab Z Z Z rP.at rfl) ?_
  refine Am (t:=90) Z Z Z Z Z Z Z Z Z Z (fun b10 w11 x11 hb10 rQ=>?_)
  refine eN ?_;refine Ba ?_;refine Ac ?_;refine A8 ?_
  refine eV Z Z (zH Z Z) ?_
  refine Ah (cs:=[.slice none 0 0]) rQ x11 (by omega) Z Z Z Z Z Z Z Z (Nat.le_of_ble_eq_true rfl) (fun w12 r12 x12 k12=>?_)
  have rQ2:Row w12 b10 90 [int 1,str [112,108,117,114,97,108],str [],.slice (some ⟨bI,0,none⟩) 1 1,.slice none 0 0]:=r12
  have hZ:=(xI.trans (xR.trans x10)).trans x12
  have hW:=hY.trans hZ
  have rI2:=(rI.ext (xR.trans x10)).ext x12
  have rR2:=(rR.ext x10).ext x12
  have rP2:=rP.ext x12
  have hrP:Rep.at_ Tt w12 xP [int 1,str [112,108,117,114,97,108],str [],.slice (some ⟨bI,0,none⟩) 1 1,.slice (some ⟨bR,0,none⟩) 2 2]:=⟨_,_,rfl,Gb (xs:=([2]:List Int)) (css:=[[int 2]]) rI2 ⟨rfl,trivial⟩ (Nat.le_refl _) (by simp),Gb (xs:=xP.refs) (css:=xP.refs.map rfC) rR2 (Ip _ _) (Nat.le_refl _) (by decide)⟩
  have hrQ:Rep.at_ Tt w12 xQ [int 1,str [112,108,117,114,97,108],str [],.slice (some ⟨bI,0,none⟩) 1 1,.slice none 0 0]:=⟨_,_,rfl,Gb (xs:=([2]:List Int)) (css:=[[int 2]]) rI2 ⟨rfl,trivial⟩ (Nat.le_refl _) (by simp),SlG.nil⟩
  have hD3:=hD.ext hZ
  have hL3:=hL.ext hZ
  have r83:=r8b.ext hZ
  have rS3:=rS1.ext hZ
  have hT3:=hT.ext hW
  clear rI2 rR2 rI rR rP rQ r12 k12 hD hL r8b rS1
  refine eN ?_;refine Ba ?_
  (repeat' ((fail_if_success (refine Ac (x:=(Code.region 12 _ _)) ?_));first|refine eV Z Z (Af (vs:=[(0,int 300),(1,int 500)]) [int 300,int 500] rfl rfl rfl) ?_|refine eV Z Z (L5 Ol (Mh 300 500) Z Z Z) ?_|refine Ly ?_))
  all_goals (try (exfalso;omega))
  refine Ac ?_
  refine E.sub (M:=[(1,.slice (some ⟨bD,0,none⟩) 1 1),(8,.pointer (some ⟨b8,0,none⟩)),(9,.pointer (some ⟨b9,0,none⟩)),(10,.pointer (some ⟨b10,0,none⟩))]) ⟨rfl,rfl,rfl,rfl,trivial⟩ ?_
  refine E_dm 73 Aa (by kernel_rfl) Z ?_
  (repeat' (first|(refine Al (f:=47) (fun u w'=>∃ pv uv tv rv sv fv ev,u=.agg #[pv,str xG.oname,uv,tv,rv,int xG.net.states,sv,fv,ev]∧LangG Tt w' xG pv uv tv rv sv fv ev) (fun _=>#[]) Z Z (fun _ _ _ _ xe h=>by obtain⟨pv,uv,tv,rv,sv,fv,ev,e,hl⟩:=h;exact⟨pv,uv,tv,rv,sv,fv,ev,e,hl.ext xe⟩) (fun _ _ _=>A3 Z Z en47) (fun wq _ xq _=>?_) ?_;exact Ag (sample47_L wq) (fun _ _ hh=>hh))|refine yV Z Z (fun _ _ _=>Af (vs:=[(0,int 3),(1,int 7)]) [int 3,int 7] rfl rfl rfl) ?_|refine yV Z Z (fun _ _ _=>Af (vs:=[(0,int 3),(1,int 5)]) [int 3,int 5] rfl rfl rfl) ?_|refine yV Z Z (fun _ _ _=>Af (vs:=[(0,int 3),(1,int 8)]) [int 3,int 8] rfl rfl rfl) ?_|refine yV Z Z (fun _ _ _=>Af (vs:=[(0,int 3),(1,int 9)]) [int 3,int 9] rfl rfl rfl) ?_|refine yV Z Z (fun wq _ xq=>Ab Z Z Z (r83.ext xq).at rfl) ?_|refine yV Z Z (fun wq _ xq=>Ab Z Z Z (rP2.ext xq).at rfl) ?_|refine yV Z Z (fun wq _ xq=>Ab Z Z Z (rQ2.ext xq).at rfl) ?_|(refine B9 (f:=14) (v:=.bool true) (fun δ=>#[.slice (some ⟨bD,0,none⟩) 1 1,δ 57,int 2,.agg #[int 3,int 7] ]) Z Z (fun _ _ _=>A3 Z Z en14) (fun wq δ xq hd=>?_) ?_;(obtain⟨pv,uv,tv,rv,sv,fv,ev,e,hl⟩:=hd 57 rfl _ rfl;rw [e];have:=Ci x_tx xG Nz 2 ⟨3,7⟩ (.slice (some ⟨bD,0,none⟩) 1 1) pv uv tv rv sv fv ev wq (hD3.ext xq) hl;rw [x_att1] at this;exact this))|(refine B9 (f:=14) (v:=.bool false) (fun δ=>#[.slice (some ⟨bD,0,none⟩) 1 1,δ 62,int 2,.agg #[int 3,int 5] ]) Z Z (fun _ _ _=>A3 Z Z en14) (fun wq δ xq hd=>?_) ?_;(obtain⟨pv,uv,tv,rv,sv,fv,ev,e,hl⟩:=hd 62 rfl _ rfl;rw [e];have:=Ci x_tx xG Nz 2 ⟨3,5⟩ (.slice (some ⟨bD,0,none⟩) 1 1) pv uv tv rv sv fv ev wq (hD3.ext xq) hl;rw [x_att2] at this;exact this))|(refine B9 (f:=14) (v:=.bool false) (fun δ=>#[.slice (some ⟨bD,0,none⟩) 1 1,δ 69,int 1,.agg #[int 3,int 8] ]) Z Z (fun _ _ _=>A3 Z Z en14) (fun wq δ xq hd=>?_) ?_;(obtain⟨pv,uv,tv,rv,sv,fv,ev,e,hl⟩:=hd 69 rfl _ rfl;rw [e];have:=Ci x_tx xG Nz 1 ⟨3,8⟩ (.slice (some ⟨bD,0,none⟩) 1 1) pv uv tv rv sv fv ev wq (hD3.ext xq) hl;rw [x_att3] at this;exact this))|(refine Al (f:=19) (fun u w'=>Sl w' u ([⟨3,7⟩]:List Rf)) (fun δ=>#[.slice (some ⟨bD,0,none⟩) 1 1,δ 76,int 2]) Z Z (fun _ _ _ _ xe h=>SlG.ext h xe) (fun _ _ _=>A3 Z Z en19) (fun wq δ xq hd=>?_) ?_;(obtain⟨pv,uv,tv,rv,sv,fv,ev,e,hl⟩:=hd 76 rfl _ rfl;rw [e];have:=H2 x_tx xG Nz 2 (.slice (some ⟨bD,0,none⟩) 1 1) pv uv tv rv sv fv ev wq (hD3.ext xq) hl;rw [x_ent] at this;exact Ag this (fun _ _ hh=>⟨hh.1.any,hh.2⟩)))|refine RQ_lit Z Z Z (fun _=>rfl) Z Z Z Z ?_|(refine B9 (f:=18) (v:=.bool true) (fun δ=>#[δ 77,δ 79]) Z Z (fun _ _ _=>A3 Z Z en18) (fun wq δ xq hd=>?_) ?_;(obtain⟨bl,el,_,rl⟩:=hd 79 rfl _ rfl;rw [el];have:=Kk ([⟨3,7⟩]:List Rf) [⟨3,7⟩] _ _ wq (hd 77 rfl _ rfl) (one_rf (x:=⟨3,7⟩) rl);rw [decide_eq_true rfl] at this;exact this))|(refine Al (f:=22) (fun u w'=>Sl w' u ([]:List Int)) (fun δ=>#[.slice (some ⟨bD,0,none⟩) 1 1,δ 84]) Z Z (fun _ _ _ _ xe h=>SlG.ext h xe) (fun _ _ _=>A3 Z Z en22) (fun wq δ xq hd=>?_) ?_;(obtain⟨pv,uv,tv,rv,sv,fv,ev,e,hl⟩:=hd 84 rfl _ rfl;rw [e];have:=F9 x_tx xG Nz (.slice (some ⟨bD,0,none⟩) 1 1) pv uv tv rv sv fv ev wq (hD3.ext xq) hl;rw [x_miss] at this;exact Ag this (fun _ _ hh=>⟨hh.1.any,hh.2⟩)))|refine M0 Z Z Z Z (fun _=>rfl) ?_|(refine Al (f:=22) (fun u w'=>Sl w' u ([1]:List Int)) (fun δ=>#[.slice (some ⟨bD,0,none⟩) 1 1,.agg #[.slice p1 xSegs.length q1,str [111,110,101],.slice p2 xUnits.length q2,.slice none 0 0,.slice none 0 0,int 2,.slice p3 xSteps.length q3,.slice p4 ([1]:List Int).length q4,.slice (some ⟨bL8,0,none⟩) 2 2] ]) Z Z (fun _ _ _ _ xe h=>SlG.ext h xe) (fun _ _ _=>A3 Z Z en22) (fun wq δ xq hd=>?_) ?_;(have:=F9 x_tx xGn x_langn (.slice (some ⟨bD,0,none⟩) 1 1) _ _ _ _ _ _ _ wq (hD3.ext xq) (hL3.ext xq);rw [x_missn] at this;exact Ag this (fun _ _ hh=>⟨hh.1.any,hh.2⟩)))|(refine B9 (f:=21) (v:=.bool true) (fun δ=>#[δ 92,δ 93]) Z Z (fun _ _ _=>A3 Z Z en21) (fun wq δ xq hd=>?_) ?_;(obtain⟨bl,el,_,rl⟩:=hd 93 rfl _ rfl;rw [el];have:=F2 [1] [1] _ _ wq (hd 92 rfl _ rfl) (one_int (x:=1) rl);rw [decide_eq_true rfl] at this;exact this))|(refine Cm (d:=98) (fun u w'=>Sl w' u xG.lex) Z Z (fun _ _ _ _ xe h=>SlG.ext h xe) (fun wq δ xq hd=>?_) ?_;(obtain⟨pv,uv,tv,rv,sv,fv,ev,e,hl⟩:=hd 97 rfl _ rfl;obtain⟨la,lc,rfl,_⟩:=hl.lex.sl;exact⟨.slice la xG.lex.length lc,M7 (cs:=[pv,str xG.oname,uv,tv,rv,int xG.net.states,sv,fv,.slice la xG.lex.length lc]) Z Z (show some (δ 97)=_ by rw [e]) Z,hl.lex⟩))|(refine Cm (d:=106) (fun u w'=>Sl w' u xG.lex) Z Z (fun _ _ _ _ xe h=>SlG.ext h xe) (fun wq δ xq hd=>?_) ?_;(obtain⟨pv,uv,tv,rv,sv,fv,ev,e,hl⟩:=hd 105 rfl _ rfl;obtain⟨la,lc,rfl,_⟩:=hl.lex.sl;exact⟨.slice la xG.lex.length lc,M7 (cs:=[pv,str xG.oname,uv,tv,rv,int xG.net.states,sv,fv,.slice la xG.lex.length lc]) Z Z (show some (δ 105)=_ by rw [e]) Z,hl.lex⟩))|(refine B9 (f:=25) (v:=int 0) (fun δ=>#[δ 98,δ 100]) Z Z (fun _ _ _=>A3 Z Z en25) (fun wq δ xq hd=>?_) ?_;(obtain⟨bl,el,_,rl⟩:=hd 100 rfl _ rfl;rw [el];have:=Lj xG.lex [xP] _ _ wq (hT3.ext xq) (hd 98 rfl _ rfl) (Nn rl (Ld hrP xq));rw [x_pts] at this;exact this))|(refine B9 (f:=25) (v:=int 24) (fun δ=>#[δ 106,δ 108]) Z Z (fun _ _ _=>A3 Z Z en25) (fun wq δ xq hd=>?_) ?_;(obtain⟨bl,el,_,rl⟩:=hd 108 rfl _ rfl;rw [el];have:=Lj xG.lex [xQ] _ _ wq (hT3.ext xq) (hd 106 rfl _ rfl) (Nn rl (Ld hrQ xq));rw [x_ptsq] at this;exact this))|(refine Al (f:=29) (fun u w'=>Sl w' u ([⟨3,9⟩]:List Rf)) (fun δ=>#[.slice (some ⟨bD,0,none⟩) 1 1,δ 115]) Z Z (fun _ _ _ _ xe h=>SlG.ext h xe) (fun _ _ _=>A3 Z Z en29) (fun wq δ xq hd=>?_) ?_;(obtain⟨bl,el,_,rl⟩:=hd 115 rfl _ rfl;rw [el];have:=Px Kz [xP] (by decide) (by decide) (.slice (some ⟨bD,0,none⟩) 1 1) _ wq (hD3.ext xq) (Nn rl (Ld hrP xq));rw [x_dang] at this;exact Ag this (fun _ _ hh=>⟨hh.1.any,hh.2⟩)))|(refine B9 (f:=18) (v:=.bool true) (fun δ=>#[δ 116,δ 118]) Z Z (fun _ _ _=>A3 Z Z en18) (fun wq δ xq hd=>?_) ?_;(obtain⟨bl,el,_,rl⟩:=hd 118 rfl _ rfl;rw [el];have:=Kk ([⟨3,9⟩]:List Rf) [⟨3,9⟩] _ _ wq (hd 116 rfl _ rfl) (one_rf (x:=⟨3,9⟩) rl);rw [decide_eq_true rfl] at this;exact this))|(refine Al (f:=31) (fun u w'=>Sl w' u ([1]:List Int)) (fun δ=>#[δ 123,int 2]) Z Z (fun _ _ _ _ xe h=>SlG.ext h xe) (fun _ _ _=>A3 Z Z en31) (fun wq δ xq hd=>?_) ?_;(obtain⟨bl,el,_,rl⟩:=hd 123 rfl _ rfl;rw [el];have:=uses31_any [xP] (by decide) 2 _ wq (Nn rl (Ld hrP xq));rw [x_uses] at this;exact Ag this (fun _ _ hh=>⟨hh.1,hh.2⟩)))|(refine B9 (f:=21) (v:=.bool true) (fun δ=>#[δ 124,δ 125]) Z Z (fun _ _ _=>A3 Z Z en21) (fun wq δ xq hd=>?_) ?_;(obtain⟨bl,el,_,rl⟩:=hd 125 rfl _ rfl;rw [el];have:=F2 [1] [1] _ _ wq (hd 124 rfl _ rfl) (one_int (x:=1) rl);rw [decide_eq_true rfl] at this;exact this))|refine B8 (fun wq δ xq hR=>?_)|refine Sy ?_|refine yqZ ?_|refine yqX (fun hh=>?_) fun hh=>?_|refine yO Z Z ?_))
  all_goals (first|(exfalso;first|omega|(have:(((([]:List Int).length:Nat)):Int)=0:=rfl;contradiction))|skip)
  exact A5 Z Z ⟨rfl,hW.trans xq⟩
end Go.Proofs.YtjicdgejhkgpgaaGreatDoor
namespace Go.En
open Go.RowKit
section
variable {P : Program}
theorem cpy_ex {α:Type} [Rep α] [Flat α] {w:World} (t ty:TypeId) {e:TypeId} {z:Value} {size bytes:Nat} [ut:UT P t (.slice e)] [ti:TI P e z size bytes] {G G':Nat→Prop} {bS m c B:Nat} {a:Option Addr} {ys:List α}
    (hs:SlG G w (.slice a m c) ys) (hr:Row w bS e []) (hb:B≤bS) (hB:B≤w.heap.size) (hG:∀ b,B≤b→G' b) (hz:z.cells.size=size) (hsz:Nat.beq size (Rep.sz α)=true) (hmax:ys.length*bytes≤140737488355328) :
    ∃ v' w',(Builtin.append_ #[t,t] ty #[.slice (some ⟨bS,0,none⟩) 0 0,.slice a m c]).run P w=.ok v' w'∧SlG G' w' v' ys∧Ext w w':=by
  have e0:=Nat.eq_of_beq_eq_true hsz
  subst e0
  have hm:m=ys.length:=by obtain⟨_,_,e,_,_,_⟩:=hs.sl;cases e;rfl
  subst hm
  obtain⟨css,s1,s2⟩:=hs.css
  have hl:=AtsG.flat s1
  have hle:ys.length≤140737488355328:=by obtain⟨_,_,_,_,h,_⟩:=hs.sl;exact h
  have hp:0<Rep.sz α:=Rep.pos
  obtain⟨i0,hi,hz0,hz1,hz2⟩:=info_parts ti.i
  by_cases h0:0<ys.length
  · obtain⟨b,so,rfl,_,hat⟩:=s2 (by rw [hl];exact Nat.mul_pos h0 hp)
    obtain⟨v',w',hrun,r1,r2⟩:=run_append_arg_grows (P:=P) w t ty e i0 z (Rep.sz α) bytes ut.u hi hz0 hz1 hz2 hz hp ⟨bS,0,none⟩ 0 0 [] (by simp) (by simp) ⟨b,so,none⟩ ys.length c css.flatten hl (fun j u hu=>by rw [B7];exact hat j u hu) (by omega) (by unfold maxLen;omega) (by simpa using hmax)
    exact⟨v',w',hrun,C5 (B:=w.heap.size) (css:=css) (by simpa using r1) (AtsG.flat' s1) (fun b hb'=>hG b (by omega)) (by omega) hle,Kb.none_ext r2⟩
  · have hy:ys=[]:=List.length_eq_zero_iff.1 (by omega)
    subst hy
    obtain⟨_,_,ev',_,_,_⟩:=hs.sl
    have hsrc:Src P i0.size t (.slice a 0 c) 0 [] w:=by
      cases a with
      | none=>exact Src.ofNil w ut.u c
      | some ad=>exact Src.ofSlice w ut.u ad 0 c [] (by simp) (by simp) (by simp)
    have hrun:=run_append_nothing (P:=P) w t t ty e i0 ut.u hi (some ⟨bS,0,none⟩) 0 0 (Nat.le_refl _) (.slice a 0 c) hsrc
    exact⟨_,_,hrun,⟨some ⟨bS,0,none⟩,0,rfl,Nat.le_refl _,by simp,fun h=>absurd h (by simp)⟩,Ext.refl w⟩
end
section
variable {P : Program} {n : Nat} {ops : List Oper} {Q : Post} {w0 : World} {o : Oper} {rest tl : List Oper} {G : List (Nat × Ent)}
def RE0 (B:Nat) (e:TypeId):Value→World→Prop:=fun u w=>∃ b,u=.slice (some ⟨b,0,none⟩) 0 0∧B≤b∧Row w b e []
def RS {α:Type} [Rep α] (B:Nat) (ys:List α):Value→World→Prop:=fun u w=>SlG (fun b=>B≤b) w u ys
def RX {α:Type} [Rep α] (B:Nat) (x:α):Value→World→Prop:=fun u w=>Rep.at_ (fun b=>B≤b) w x u.cells.toList
def RL {α:Type} [Rep α] (B:Nat) (e:TypeId) (x:α):Value→World→Prop:=fun u w=>∃ b X,u=.slice (some ⟨b,0,none⟩) 1 1∧B≤b∧Row w b e X∧Rep.at_ (fun c=>B≤c) w x X
theorem RQ_lit0 {d:Nat} {t e:TypeId} {z:Value} {size bytes:Nat} [UT P t (.slice e)] [TI P e z size bytes] (hg:ggst ops G o=some true) (hd:odst n o.dst=some d) (ho:o.op=.buildSlice t 0 #[])
    (k:RQ P n ops w0 Q rest tl ((d,.r (RE0 w0.heap.size e))::G)):RQ P n ops w0 Q (o::rest) tl G:=
  RQ_lit (len:=0) (ps:=[]) (vs:=[]) (cs:=[]) hg hd ho (fun _=>rfl) Z Z (by simp) Z k
theorem Ku {α:Type} [Rep α] [Flat α] {d s m c:Nat} {t e:TypeId} {x:Operand} {z:Value} {size bytes:Nat} [ut:UT P t (.slice e)] [ti:TI P e z size bytes] {Gs:Nat→Prop} {a:Option Addr} {ys:List α}
    (hs:SlG Gs w0 (.slice a m c) ys) (hg:ggst ops G o=some true) (hd:odst n o.dst=some d) (ho:o.op=.call { callee:=.builtin .append,args:=#[.tmp s,x],argTypes:=#[t,t] }) (hr:gk G s=some (.r (RE0 w0.heap.size e)))
    (hl:∀ δ,lk (mat δ G) s=some (δ s)) (hx:∀ δ,ev (mat δ G) x=some (.slice a m c)) (hz:z.cells.size=size) (hsz:Nat.beq size (Rep.sz α)=true) (hmax:ys.length*bytes≤140737488355328)
    (k:RQ P n ops w0 Q rest tl ((d,.r (RS w0.heap.size ys))::G)):RQ P n ops w0 Q (o::rest) tl G:=
  Jg (T:=.r (RS w0.heap.size ys)) hg (Aw hd).2 (fun _ _ _ _ xe h=>SlG.ext h xe)
    (fun w δ hw hsat ρ ha=>by
      obtain⟨b,he,hb,hrow⟩:=hsat s (by rw [ho];simp [Op.operands,Call.operands,isT]) _ hr
      obtain⟨v',w',hrun,h1,h2⟩:=cpy_ex (P:=P) t o.type (G':=fun b=>w0.heap.size≤b) (hs.ext hw) hrow hb hw.size (fun _ h=>h) hz hsz hmax
      exact .inl ⟨v',w',Oh (L:=mat δ G) (s:=.tmp s) ho ((hl δ).trans (by rw [he])) (hx δ) hrun ρ ha,h1,h2⟩) (by rw [(Aw hd).1];exact k)
theorem RQ_lit1 {α:Type} [Rep α] {d s:Nat} {t e:TypeId} {z:Value} {size bytes:Nat} [ut:UT P t (.slice e)] [ti:TI P e z size bytes] {x:α}
    (hg:ggst ops G o=some true) (hd:odst n o.dst=some d) (ho:o.op=.buildSlice t 1 #[(0,.tmp s)]) (hr:gk G s=some (.r (RX w0.heap.size x)))
    (hl:∀ δ,lk (mat δ G) s=some (δ s)) (hsz:Nat.beq size (Rep.sz α)=true) (hsm:Nat.ble (1*size) 16777216=true)
    (k:RQ P n ops w0 Q rest tl ((d,.r (RL w0.heap.size e x))::G)):RQ P n ops w0 Q (o::rest) tl G:=
  Jg (T:=.r (RL w0.heap.size e x)) hg (Aw hd).2 (fun _ _ _ _ xe h=>by obtain⟨b,X,e,h1,h2,h3⟩:=h;exact⟨b,X,e,h1,h2.ext xe,Rep.move h3 xe.mv⟩)
    (fun w δ hw hsat ρ ha=>by
      have e0:=Nat.eq_of_beq_eq_true hsz
      have hX:=hsat s (by rw [ho];simp [Op.operands,isT]) _ hr
      have hlen:(δ s).cells.size=size:=by rw [e0,← Array.length_toList];exact Rep.len hX
      have hrun:=run_lit (P:=P) (L:=mat δ G) (w:=w) (o:=o) (t:=t) (e:=e) (z:=z) (size:=size) (bytes:=bytes) (len:=1) (ps:=[(0,.tmp s)]) (vs:=[δ s]) (cs:=(δ s).cells.toList) ho (by simp [evs,ev,hl δ]) (by simp [hlen]) rfl hsm (by simp) ha
      exact .inl ⟨_,_,hrun,⟨w.heap.size,_,rfl,hw.size,(by have:=Bv w e (δ s).cells;simpa using this),Rep.move hX (Bc _ _).mv⟩,Bc _ _⟩) (by rw [(Aw hd).1];exact k)
end
end Go.En
