/-
  Own text of the proof.
-/
import Derived.Test.YtjicdgejhkgpgaaGreatDoorUa
import Derived.Test.YtjicdgejhkgpgaaGreatDoorXTO
set_option linter.all false
set_option maxHeartbeats 16000000
set_option maxRecDepth 16000
namespace Go.Proofs.YtjicdgejhkgpgaaGreatDoor
open Go.RowKit Go.En Go.Pv
theorem eqs76b (a b:Int):EqS Tryz.prog 10000 76 (.agg #[int a,int b]):=
  B8j (d:=9999) shp76 ⟨rfl,⟨_,B4a Tryz.underlying3 rfl,C0p Tryz.underlying3⟩,rfl,⟨_,B4a Tryz.underlying3 rfl,C0p Tryz.underlying3⟩,trivial⟩
theorem C4v {w:World} {b:Nat} {x:Rf} (r:Row w b 39 [int x.rcd,int x.note]):Sl w (.slice (some ⟨b,0,none⟩) 1 1) [x]:=R5 (xs:=[x]) (css:=[[int x.rcd,int x.note]]) r ⟨rfl,trivial⟩ (Nat.le_refl _) (by simp)
theorem C0c {w:World} {b:Nat} {x:Int} (r:Row w b 3 [int x]):Sl w (.slice (some ⟨b,0,none⟩) 1 1) [x]:=R5 (xs:=[x]) (css:=[[int x]]) r ⟨rfl,trivial⟩ (Nat.le_refl _) (by simp)
theorem A5j {w:World} {b:Nat} {p:Pnt} {X:List Value} (r:Row w b 90 X) (h:Rep.at_ Tt w p X):Sl w (.slice (some ⟨b,0,none⟩) 1 1) [p]:=R5 (xs:=[p]) (css:=[X]) (by simpa using r) ⟨h,trivial⟩ (Nat.le_refl _) (by simp)
theorem one_dc {w:World} {b:Nat} {d:Dc} {X:List Value} (r:Row w b 72 X) (h:Rep.at_ Tt w d X):Sl w (.slice (some ⟨b,0,none⟩) 1 1) [d]:=R5 (xs:=[d]) (css:=[X]) (by simpa using r) ⟨h,trivial⟩ (Nat.le_refl _) (by simp)
theorem B9z {α:Type} [Rep α] {G:Nat→Prop} {w:World} {x:α} {X:List Value} (h:Rep.at_ G w x X):Rep.at_ Tt w x X:=Rep.move h fun _ _ _=>⟨trivial,rfl⟩
theorem T5 {α:Type} [Rep α] {w w':World} {x:α} {X:List Value} (h:Rep.at_ Tt w x X) (k:Ext w w'):Rep.at_ Tt w' x X:=Rep.move h k.mv
theorem B7d (w:World):Calls Tryz.prog 47 #[] w (Rt fun u w'=>(∃ pv uv tv rv sv fv ev,u=.agg #[pv,str xG.oname,uv,tv,rv,int xG.net.states,sv,fv,ev]∧LangG Tt w' xG pv uv tv rv sv fv ev)∧Ext w w'):=
  C0 (A2p w) fun _ _ h=>by
    obtain⟨⟨bL,pv,uv,sv,fv,g1,n1,r1,g2,n2,r2,rfl,hs⟩,hx⟩:=h
    exact⟨⟨_,_,_,_,_,_,_,rfl,hs.lang⟩,hx⟩
theorem x_tx:A5f [xD]:=Y5 A2e
attribute [local irreducible] E EL K Val Enters Rt Calls bodyPost Code.wp RQ
theorem Q0 (w:World) (hT:Tabs w):Calls Tryz.prog 13 #[] w (Rt fun u w'=>u=.bool true∧Ext w w'):=by
  refine A6 (n:=128) (args:=[]) Tryz.func13 rfl Tryz.ntmps13 (by simp) ?_
  refine B4 ?_;refine A9 ?_
  refine eV Z Z (zB Z Z) ?_
  refine eN ?_;refine G8 ?_;refine B4 ?_;refine A9 ?_
  refine A8 Z Z (A5 Z Z en46) (C2r w) (fun vC wC hC=>?_)
  obtain⟨⟨X,rfl,hrX0⟩,hX⟩:=hC
  have hrX:=B9z hrX0
  clear hrX0
  obtain⟨a1,c1,a2,c2,a3,c3,rfl,s1,s2,s3⟩:=A3c hrX
  refine eL (t:=22) Z Z Z Z Z Z Z Z (fun bD wD xD1 hbD rD=>?_)
  have hD:Sl wD (.slice (some ⟨bD,0,none⟩) 1 1) [xD]:=one_dc rD (T5 hrX xD1)
  replace hX:=hX.trans xD1
  clear hrX s1 s2 s3 rD
  refine eV Z Z (zB Z Z) ?_
  refine eN ?_;refine G8 ?_
  have c35:=fun wz (hz:Ext wD wz)=>Z7 A2e ⟨3,8⟩ (.slice (some ⟨bD,0,none⟩) 1 1) wz (hD.ext hz)
  rw [x_where] at c35
  have c35b:=fun wz (hz:Ext wD wz)=>Z7 A2e ⟨4,8⟩ (.slice (some ⟨bD,0,none⟩) 1 1) wz (hD.ext hz)
  rw [x_no] at c35b
  have hxD:=Ext.refl wD
  refine B4 ?_;refine A9 ?_
  (repeat' (first|refine eV Z Z (B6 (vs:=[(0,int 3),(1,int 8)]) [int 3,int 8] rfl rfl rfl) ?_|refine eV Z Z (B6 (vs:=[(0,int 4),(1,int 8)]) [int 4,int 8] rfl rfl rfl) ?_|(refine cqC (c35 _ hxD) en35 fun wE xE=>?_;replace hxD:=hxD.trans xE)|(refine A8 Z Z (A5 Z Z en35) (c35b _ hxD) (fun vE wE2 hE=>?_);obtain⟨rfl,xE2⟩:=hE;replace hxD:=hxD.trans xE2;replace rS1:=rS1.ext xE2)|(refine C1 (t:=76) (cs:=[int 300,int 500]) Z Z Z Z Z Z Z Z Z Z (fun bS1 wS1 xS1 hbS1 rS1=>?_);replace hxD:=hxD.trans xS1)|(refine C1 (t:=76) (cs:=[int 0,int 0]) Z Z Z Z Z Z Z Z Z Z (fun bS2 wS2 xS2 hbS2 rS2=>?_);replace hxD:=hxD.trans xS2;replace rS1:=rS1.ext xS2)|refine Sy ?_))
  have hD2:=hD.ext hxD
  obtain⟨X3,hrX3,c34⟩:=B0g [xD] 3 (.slice (some ⟨bD,0,none⟩) 1 1) _ hD2
  rw [x_doc] at c34
  obtain⟨a1,c1,a2,c2,a3,c3,rfl,s1,s2,s3⟩:=A3c hrX3
  refine A8 Z Z (A5 Z Z en34) (c34 _ (Ext.refl _)) (fun vE wF hE=>?_)
  obtain⟨rfl,xF⟩:=hE
  replace hxD:=hxD.trans xF
  replace rS1:=rS1.ext xF
  (repeat' ((fail_if_success (refine B4 (x:=(Code.region 5 _ _)) ?_));first|(refine C1 (t:=72) Z Z Z Z Z Z Z Z Z Z (fun bV wV xV hbV rV=>?_);replace hxD:=hxD.trans xV;replace rS1:=rS1.ext xV)|refine Sy ?_))
  refine B4 ?_;refine A9 ?_
  refine A8 Z Z (A5 Z Z en47) (A2p _) (fun vE wG hE=>?_)
  obtain⟨⟨bL8,pv8,uv8,sv8,fv8,g1,n1,r1,g2,n2,r2,rfl,hs⟩,xG0⟩:=hE
  obtain⟨p1,q1,rfl,_⟩:=hs.segs.sl
  obtain⟨p2,q2,rfl,_⟩:=hs.units.sl
  obtain⟨p3,q3,rfl,_⟩:=hs.steps.sl
  obtain⟨p4,q4,rfl,_⟩:=hs.final.sl
  refine C1 (t:=37) Z Z Z Z Z Z Z Z Z Z (fun b8 w8 x8 hb8 r8=>?_)
  have hlo:=hs.lo
  have hrw:=hs.row.ext x8
  have hbl:=hs.row.lt
  refine eN ?_;refine G8 ?_;refine B4 ?_;refine A9 ?_
  refine eV Z Z (zH Z Z) ?_
  refine eV Z Z (A7 Z Z Z (Row.cellAt r8 (by rfl))) ?_
  refine eV Z Z (A0 (m:=0) Z Z Z Z (by omega)) ?_
  refine eV Z Z (zH Z Z) ?_
  refine B7 (cs:=[.slice none 0 0]) hrw (xG0.trans x8) hlo rfl rfl rfl rfl rfl rfl rfl rfl (Nat.le_of_ble_eq_true rfl) (fun w9 r9 x9 k9=>?_)
  refine eN ?_;refine G8 ?_
  have r9b:Row w9 bL8 65 [int 1,g1,int 1,.slice none 0 0,int 0,n1,.slice none 0 0,.slice none 0 0,int 2,g2,int 2,.slice none 0 0,int 0,n2,.slice none 0 0,r2]:=r9
  have hL:=hs.langn (P1 (x8.kb (some bL8)) k9) r9b
  have r8b:=k9.row r8 (fun e=>by cases e;omega)
  clear hs hrw r9 r9b k9 r8
  have hY:=(hX.trans hxD).trans x9
  replace rS1:=rS1.ext x9
  replace hD:=(hD.ext hxD).ext x9
  refine B4 ?_;refine A9 ?_
  refine eL (t:=32) Z Z Z Z Z Z Z Z (fun bI wI xI hbI rI=>?_)
  refine eV Z Z (B6 (vs:=[(0,int 3),(1,int 7)]) [int 3,int 7] rfl rfl rfl) ?_
  refine eV Z Z (B6 (vs:=[(0,int 3),(1,int 9)]) [int 3,int 9] rfl rfl rfl) ?_
  refine eL (t:=46) Z Z Z Z Z Z Z Z (fun bR wR xR hbR rR=>?_)
  refine eV Z Z (B6 (vs:=[(0,int 1),(1,str [112,108,117,114,97,108]),(3,.slice (some ⟨bI,0,none⟩) 1 1),(4,.slice (some ⟨bR,0,none⟩) 2 2)]) [int 1,str [112,108,117,114,97,108],str [],.slice (some ⟨bI,0,none⟩) 1 1,.slice (some ⟨bR,0,none⟩) 2 2] rfl rfl rfl) ?_
  refine C1 (t:=90) Z Z Z Z Z Z Z Z Z Z (fun b9 w10 x10 hb9 rP=>?_)
  refine eN ?_;refine G8 ?_;refine B4 ?_;refine A9 ?_
  refine eV Z Z (B8 Z Z Z rP.at rfl) ?_
  refine C1 (t:=90) Z Z Z Z Z Z Z Z Z Z (fun b10 w11 x11 hb10 rQ=>?_)
  refine eN ?_;refine G8 ?_;refine B4 ?_;refine A9 ?_
  refine eV Z Z (zH Z Z) ?_
  refine B7 (cs:=[.slice none 0 0]) rQ x11 (by omega) Z Z Z Z Z Z Z Z (Nat.le_of_ble_eq_true rfl) (fun w12 r12 x12 k12=>?_)
  have rQ2:Row w12 b10 90 [int 1,str [112,108,117,114,97,108],str [],.slice (some ⟨bI,0,none⟩) 1 1,.slice none 0 0]:=r12
  have hZ:=(xI.trans (xR.trans x10)).trans x12
  have hW:=hY.trans hZ
  have rI2:=(rI.ext (xR.trans x10)).ext x12
  have rR2:=(rR.ext x10).ext x12
  have rP2:=rP.ext x12
  have hrP:Rep.at_ Tt w12 xP [int 1,str [112,108,117,114,97,108],str [],.slice (some ⟨bI,0,none⟩) 1 1,.slice (some ⟨bR,0,none⟩) 2 2]:=⟨_,_,rfl,R5 (xs:=([2]:List Int)) (css:=[[int 2]]) rI2 ⟨rfl,trivial⟩ (Nat.le_refl _) (by simp),R5 (xs:=xP.refs) (css:=xP.refs.map rfC) rR2 (A0e _ _) (Nat.le_refl _) (by decide)⟩
  have hrQ:Rep.at_ Tt w12 xQ [int 1,str [112,108,117,114,97,108],str [],.slice (some ⟨bI,0,none⟩) 1 1,.slice none 0 0]:=⟨_,_,rfl,R5 (xs:=([2]:List Int)) (css:=[[int 2]]) rI2 ⟨rfl,trivial⟩ (Nat.le_refl _) (by simp),SlG.nil⟩
  have hD3:=hD.ext hZ
  have hL3:=hL.ext hZ
  have r83:=r8b.ext hZ
  have rS3:=rS1.ext hZ
  have hT3:=hT.ext hW
  clear rI2 rR2 rI rR rP rQ r12 k12 hD hL r8b rS1
  refine eN ?_;refine G8 ?_
  (repeat' ((fail_if_success (refine B4 (x:=(Code.region 12 _ _)) ?_));first|refine eV Z Z (B6 (vs:=[(0,int 300),(1,int 500)]) [int 300,int 500] rfl rfl rfl) ?_|refine eV Z Z (B0r shp76 (eqs76b 300 500) Z Z Z) ?_|refine Ly ?_))
  all_goals (try (exfalso;omega))
  refine B4 ?_
  refine E.sub (M:=[(1,.slice (some ⟨bD,0,none⟩) 1 1),(8,.pointer (some ⟨b8,0,none⟩)),(9,.pointer (some ⟨b9,0,none⟩)),(10,.pointer (some ⟨b10,0,none⟩))]) ⟨rfl,rfl,rfl,rfl,trivial⟩ ?_
  refine E_dm 73 B5 (by kernel_rfl) Z ?_
  (repeat' (first|(refine C8 (f:=47) (fun u w'=>∃ pv uv tv rv sv fv ev,u=.agg #[pv,str xG.oname,uv,tv,rv,int xG.net.states,sv,fv,ev]∧LangG Tt w' xG pv uv tv rv sv fv ev) (fun _=>#[]) Z Z (fun _ _ _ _ xe h=>by obtain⟨pv,uv,tv,rv,sv,fv,ev,e,hl⟩:=h;exact⟨pv,uv,tv,rv,sv,fv,ev,e,hl.ext xe⟩) (fun _ _ _=>A5 Z Z en47) (fun wq _ xq _=>?_) ?_;exact C0 (B7d wq) (fun _ _ hh=>hh))|refine yV Z Z (fun _ _ _=>B6 (vs:=[(0,int 3),(1,int 7)]) [int 3,int 7] rfl rfl rfl) ?_|refine yV Z Z (fun _ _ _=>B6 (vs:=[(0,int 3),(1,int 5)]) [int 3,int 5] rfl rfl rfl) ?_|refine yV Z Z (fun _ _ _=>B6 (vs:=[(0,int 3),(1,int 8)]) [int 3,int 8] rfl rfl rfl) ?_|refine yV Z Z (fun _ _ _=>B6 (vs:=[(0,int 3),(1,int 9)]) [int 3,int 9] rfl rfl rfl) ?_|refine yV Z Z (fun wq _ xq=>B8 Z Z Z (r83.ext xq).at rfl) ?_|refine yV Z Z (fun wq _ xq=>B8 Z Z Z (rP2.ext xq).at rfl) ?_|refine yV Z Z (fun wq _ xq=>B8 Z Z Z (rQ2.ext xq).at rfl) ?_|(refine H2 (f:=14) (v:=.bool true) (fun δ=>#[.slice (some ⟨bD,0,none⟩) 1 1,δ 57,int 2,.agg #[int 3,int 7] ]) Z Z (fun _ _ _=>A5 Z Z en14) (fun wq δ xq hd=>?_) ?_;(obtain⟨pv,uv,tv,rv,sv,fv,ev,e,hl⟩:=hd 57 rfl _ rfl;rw [e];have:=P2 x_tx xG A5t 2 ⟨3,7⟩ (.slice (some ⟨bD,0,none⟩) 1 1) pv uv tv rv sv fv ev wq (hD3.ext xq) hl;rw [x_att1] at this;exact this))|(refine H2 (f:=14) (v:=.bool false) (fun δ=>#[.slice (some ⟨bD,0,none⟩) 1 1,δ 62,int 2,.agg #[int 3,int 5] ]) Z Z (fun _ _ _=>A5 Z Z en14) (fun wq δ xq hd=>?_) ?_;(obtain⟨pv,uv,tv,rv,sv,fv,ev,e,hl⟩:=hd 62 rfl _ rfl;rw [e];have:=P2 x_tx xG A5t 2 ⟨3,5⟩ (.slice (some ⟨bD,0,none⟩) 1 1) pv uv tv rv sv fv ev wq (hD3.ext xq) hl;rw [x_att2] at this;exact this))|(refine H2 (f:=14) (v:=.bool false) (fun δ=>#[.slice (some ⟨bD,0,none⟩) 1 1,δ 69,int 1,.agg #[int 3,int 8] ]) Z Z (fun _ _ _=>A5 Z Z en14) (fun wq δ xq hd=>?_) ?_;(obtain⟨pv,uv,tv,rv,sv,fv,ev,e,hl⟩:=hd 69 rfl _ rfl;rw [e];have:=P2 x_tx xG A5t 1 ⟨3,8⟩ (.slice (some ⟨bD,0,none⟩) 1 1) pv uv tv rv sv fv ev wq (hD3.ext xq) hl;rw [x_att3] at this;exact this))|(refine C8 (f:=19) (fun u w'=>Sl w' u ([⟨3,7⟩]:List Rf)) (fun δ=>#[.slice (some ⟨bD,0,none⟩) 1 1,δ 76,int 2]) Z Z (fun _ _ _ _ xe h=>SlG.ext h xe) (fun _ _ _=>A5 Z Z en19) (fun wq δ xq hd=>?_) ?_;(obtain⟨pv,uv,tv,rv,sv,fv,ev,e,hl⟩:=hd 76 rfl _ rfl;rw [e];have:=T9 x_tx xG A5t 2 (.slice (some ⟨bD,0,none⟩) 1 1) pv uv tv rv sv fv ev wq (hD3.ext xq) hl;rw [x_ent] at this;exact C0 this (fun _ _ hh=>⟨hh.1.any,hh.2⟩)))|refine B9e Z Z Z (fun _=>rfl) Z Z Z Z ?_|(refine H2 (f:=18) (v:=.bool true) (fun δ=>#[δ 77,δ 79]) Z Z (fun _ _ _=>A5 Z Z en18) (fun wq δ xq hd=>?_) ?_;(obtain⟨bl,el,_,rl⟩:=hd 79 rfl _ rfl;rw [el];have:=A1r ([⟨3,7⟩]:List Rf) [⟨3,7⟩] _ _ wq (hd 77 rfl _ rfl) (C4v (x:=⟨3,7⟩) rl);rw [decide_eq_true rfl] at this;exact this))|(refine C8 (f:=22) (fun u w'=>Sl w' u ([]:List Int)) (fun δ=>#[.slice (some ⟨bD,0,none⟩) 1 1,δ 84]) Z Z (fun _ _ _ _ xe h=>SlG.ext h xe) (fun _ _ _=>A5 Z Z en22) (fun wq δ xq hd=>?_) ?_;(obtain⟨pv,uv,tv,rv,sv,fv,ev,e,hl⟩:=hd 84 rfl _ rfl;rw [e];have:=P0 x_tx xG A5t (.slice (some ⟨bD,0,none⟩) 1 1) pv uv tv rv sv fv ev wq (hD3.ext xq) hl;rw [x_miss] at this;exact C0 this (fun _ _ hh=>⟨hh.1.any,hh.2⟩)))|refine A5r Z Z Z Z (fun _=>rfl) ?_|(refine C8 (f:=22) (fun u w'=>Sl w' u ([1]:List Int)) (fun δ=>#[.slice (some ⟨bD,0,none⟩) 1 1,.agg #[.slice p1 xSegs.length q1,str [111,110,101],.slice p2 xUnits.length q2,.slice none 0 0,.slice none 0 0,int 2,.slice p3 xSteps.length q3,.slice p4 ([1]:List Int).length q4,.slice (some ⟨bL8,0,none⟩) 2 2] ]) Z Z (fun _ _ _ _ xe h=>SlG.ext h xe) (fun _ _ _=>A5 Z Z en22) (fun wq δ xq hd=>?_) ?_;(have:=P0 x_tx xGn x_langn (.slice (some ⟨bD,0,none⟩) 1 1) _ _ _ _ _ _ _ wq (hD3.ext xq) (hL3.ext xq);rw [x_missn] at this;exact C0 this (fun _ _ hh=>⟨hh.1.any,hh.2⟩)))|(refine H2 (f:=21) (v:=.bool true) (fun δ=>#[δ 92,δ 93]) Z Z (fun _ _ _=>A5 Z Z en21) (fun wq δ xq hd=>?_) ?_;(obtain⟨bl,el,_,rl⟩:=hd 93 rfl _ rfl;rw [el];have:=R6 [1] [1] _ _ wq (hd 92 rfl _ rfl) (C0c (x:=1) rl);rw [decide_eq_true rfl] at this;exact this))|(refine N7 (d:=98) (fun u w'=>Sl w' u xG.lex) Z Z (fun _ _ _ _ xe h=>SlG.ext h xe) (fun wq δ xq hd=>?_) ?_;(obtain⟨pv,uv,tv,rv,sv,fv,ev,e,hl⟩:=hd 97 rfl _ rfl;obtain⟨la,lc,rfl,_⟩:=hl.lex.sl;exact⟨.slice la xG.lex.length lc,A3p (cs:=[pv,str xG.oname,uv,tv,rv,int xG.net.states,sv,fv,.slice la xG.lex.length lc]) Z Z (show some (δ 97)=_ by rw [e]) Z,hl.lex⟩))|(refine N7 (d:=106) (fun u w'=>Sl w' u xG.lex) Z Z (fun _ _ _ _ xe h=>SlG.ext h xe) (fun wq δ xq hd=>?_) ?_;(obtain⟨pv,uv,tv,rv,sv,fv,ev,e,hl⟩:=hd 105 rfl _ rfl;obtain⟨la,lc,rfl,_⟩:=hl.lex.sl;exact⟨.slice la xG.lex.length lc,A3p (cs:=[pv,str xG.oname,uv,tv,rv,int xG.net.states,sv,fv,.slice la xG.lex.length lc]) Z Z (show some (δ 105)=_ by rw [e]) Z,hl.lex⟩))|(refine H2 (f:=25) (v:=int 0) (fun δ=>#[δ 98,δ 100]) Z Z (fun _ _ _=>A5 Z Z en25) (fun wq δ xq hd=>?_) ?_;(obtain⟨bl,el,_,rl⟩:=hd 100 rfl _ rfl;rw [el];have:=A2t xG.lex [xP] _ _ wq (hT3.ext xq) (hd 98 rfl _ rfl) (A5j rl (T5 hrP xq));rw [x_pts] at this;exact this))|(refine H2 (f:=25) (v:=int 24) (fun δ=>#[δ 106,δ 108]) Z Z (fun _ _ _=>A5 Z Z en25) (fun wq δ xq hd=>?_) ?_;(obtain⟨bl,el,_,rl⟩:=hd 108 rfl _ rfl;rw [el];have:=A2t xG.lex [xQ] _ _ wq (hT3.ext xq) (hd 106 rfl _ rfl) (A5j rl (T5 hrQ xq));rw [x_ptsq] at this;exact this))|(refine C8 (f:=29) (fun u w'=>Sl w' u ([⟨3,9⟩]:List Rf)) (fun δ=>#[.slice (some ⟨bD,0,none⟩) 1 1,δ 115]) Z Z (fun _ _ _ _ xe h=>SlG.ext h xe) (fun _ _ _=>A5 Z Z en29) (fun wq δ xq hd=>?_) ?_;(obtain⟨bl,el,_,rl⟩:=hd 115 rfl _ rfl;rw [el];have:=A7m A2e [xP] (by decide) (by decide) (.slice (some ⟨bD,0,none⟩) 1 1) _ wq (hD3.ext xq) (A5j rl (T5 hrP xq));rw [x_dang] at this;exact C0 this (fun _ _ hh=>⟨hh.1.any,hh.2⟩)))|(refine H2 (f:=18) (v:=.bool true) (fun δ=>#[δ 116,δ 118]) Z Z (fun _ _ _=>A5 Z Z en18) (fun wq δ xq hd=>?_) ?_;(obtain⟨bl,el,_,rl⟩:=hd 118 rfl _ rfl;rw [el];have:=A1r ([⟨3,9⟩]:List Rf) [⟨3,9⟩] _ _ wq (hd 116 rfl _ rfl) (C4v (x:=⟨3,9⟩) rl);rw [decide_eq_true rfl] at this;exact this))|(refine C8 (f:=31) (fun u w'=>Sl w' u ([1]:List Int)) (fun δ=>#[δ 123,int 2]) Z Z (fun _ _ _ _ xe h=>SlG.ext h xe) (fun _ _ _=>A5 Z Z en31) (fun wq δ xq hd=>?_) ?_;(obtain⟨bl,el,_,rl⟩:=hd 123 rfl _ rfl;rw [el];have:=B6p [xP] (by decide) 2 _ wq (A5j rl (T5 hrP xq));rw [x_uses] at this;exact C0 this (fun _ _ hh=>⟨hh.1,hh.2⟩)))|(refine H2 (f:=21) (v:=.bool true) (fun δ=>#[δ 124,δ 125]) Z Z (fun _ _ _=>A5 Z Z en21) (fun wq δ xq hd=>?_) ?_;(obtain⟨bl,el,_,rl⟩:=hd 125 rfl _ rfl;rw [el];have:=R6 [1] [1] _ _ wq (hd 124 rfl _ rfl) (C0c (x:=1) rl);rw [decide_eq_true rfl] at this;exact this))|refine J4 (fun wq δ xq hR=>?_)|refine Sy ?_|refine yqZ ?_|refine yqX (fun hh=>?_) fun hh=>?_|refine yO Z Z ?_))
  all_goals (first|(exfalso;first|omega|(have:(((([]:List Int).length:Nat)):Int)=0:=rfl;contradiction))|skip)
  exact A4 Z Z ⟨rfl,hW.trans xq⟩
end Go.Proofs.YtjicdgejhkgpgaaGreatDoor
