/-
  Walks: the law's awake. Copies in drawn regions; elements made there and laid into a literal. Walks: the reference's copy of a language (printed by tools/gen_copy2.py). Walks of the laws: Attests, Entries, Points, Dangling.
-/
import Derived.Test.YtjicdgejhkgpgaaGreatDoorY6
import Derived.Test.YtjicdgejhkgpgaaGreatDoorXTO
import Derived.Test.YtjicdgejhkgpgaaGreatDoorYi
import Derived.Test.YtjicdgejhkgpgaaGreatDoorYj
import Derived.ArgAppend
import Derived.Deep.Upon
set_option linter.all false
namespace Go.Proofs.YtjicdgejhkgpgaaGreatDoor
open Go.RowKit Go.En Go.Pv
theorem eqs76b (a b:Int):EqS Tryz.prog 10000 76 (.agg #[int a,int b]):=
  eqS_struct (d:=9999) shp76 ⟨rfl,⟨_,part_int Tryz.underlying3 rfl,eqS_int Tryz.underlying3⟩,rfl,⟨_,part_int Tryz.underlying3 rfl,eqS_int Tryz.underlying3⟩,trivial⟩
theorem one_rf {w:World} {b:Nat} {x:Rf} (r:Row w b 39 [int x.rcd,int x.note]):Sl w (.slice (some ⟨b,0,none⟩) 1 1) [x]:=row_Sl (xs:=[x]) (css:=[[int x.rcd,int x.note]]) r ⟨rfl,trivial⟩ (Nat.le_refl _) (by simp)
theorem one_int {w:World} {b:Nat} {x:Int} (r:Row w b 3 [int x]):Sl w (.slice (some ⟨b,0,none⟩) 1 1) [x]:=row_Sl (xs:=[x]) (css:=[[int x]]) r ⟨rfl,trivial⟩ (Nat.le_refl _) (by simp)
theorem one_pnt {w:World} {b:Nat} {p:Pnt} {X:List Value} (r:Row w b 90 X) (h:Rep.at_ Tt w p X):Sl w (.slice (some ⟨b,0,none⟩) 1 1) [p]:=row_Sl (xs:=[p]) (css:=[X]) (by simpa using r) ⟨h,trivial⟩ (Nat.le_refl _) (by simp)
theorem one_dc {w:World} {b:Nat} {d:Dc} {X:List Value} (r:Row w b 72 X) (h:Rep.at_ Tt w d X):Sl w (.slice (some ⟨b,0,none⟩) 1 1) [d]:=row_Sl (xs:=[d]) (css:=[X]) (by simpa using r) ⟨h,trivial⟩ (Nat.le_refl _) (by simp)
theorem rep_any {α:Type} [Rep α] {G:Nat→Prop} {w:World} {x:α} {X:List Value} (h:Rep.at_ G w x X):Rep.at_ Tt w x X:=Rep.move h fun _ _ _=>⟨trivial,rfl⟩
theorem rep_ext {α:Type} [Rep α] {w w':World} {x:α} {X:List Value} (h:Rep.at_ Tt w x X) (k:Ext w w'):Rep.at_ Tt w' x X:=Rep.move h k.mv
theorem sample47_L (w:World):Calls Tryz.prog 47 #[] w (Rt fun u w'=>(∃ pv uv tv rv sv fv ev,u=.agg #[pv,str xG.oname,uv,tv,rv,int xG.net.states,sv,fv,ev]∧LangG Tt w' xG pv uv tv rv sv fv ev)∧Ext w w'):=
  calls_mono (sample47_any w) fun _ _ h=>by
    obtain⟨⟨bL,pv,uv,sv,fv,g1,n1,r1,g2,n2,r2,rfl,hs⟩,hx⟩:=h
    exact⟨⟨_,_,_,_,_,_,_,rfl,hs.lang⟩,hx⟩
theorem x_tx:TxLen [xD]:=light_text x_lights
attribute [local irreducible] E EL K Val Enters Rt Calls bodyPost Code.wp RQ
set_option maxHeartbeats 16000000 in
set_option maxRecDepth 16000 in
theorem awake13_any (w:World) (hT:Tabs w):Calls Tryz.prog 13 #[] w (Rt fun u w'=>u=.bool true∧Ext w w'):=by
  refine calls_E (n:=128) (args:=[]) Tryz.func13 rfl Tryz.ntmps13 (by simp) ?_
  refine E_seq ?_;refine E_region ?_
  refine eV Z Z (zB Z Z) ?_
  refine eN ?_;refine K_then ?_;refine E_seq ?_;refine E_region ?_
  refine EL_call Z Z (entersF Z Z en46) (doc46_any w) (fun vC wC hC=>?_)
  obtain⟨⟨X,rfl,hrX0⟩,hX⟩:=hC
  have hrX:=rep_any hrX0
  clear hrX0
  obtain⟨a1,c1,a2,c2,a3,c3,rfl,s1,s2,s3⟩:=dc_open hrX
  refine eL (t:=22) Z Z Z Z Z Z Z Z (fun bD wD xD1 hbD rD=>?_)
  have hD:Sl wD (.slice (some ⟨bD,0,none⟩) 1 1) [xD]:=one_dc rD (rep_ext hrX xD1)
  replace hX:=hX.trans xD1
  clear hrX s1 s2 s3 rD
  refine eV Z Z (zB Z Z) ?_
  refine eN ?_;refine K_then ?_
  have c35:=fun wz (hz:Ext wD wz)=>where35_any x_lights ⟨3,8⟩ (.slice (some ⟨bD,0,none⟩) 1 1) wz (hD.ext hz)
  rw [x_where] at c35
  have c35b:=fun wz (hz:Ext wD wz)=>where35_any x_lights ⟨4,8⟩ (.slice (some ⟨bD,0,none⟩) 1 1) wz (hD.ext hz)
  rw [x_no] at c35b
  have hxD:=Ext.refl wD
  refine E_seq ?_;refine E_region ?_
  (repeat' (first|refine eV Z Z (val_build (vs:=[(0,int 3),(1,int 8)]) [int 3,int 8] rfl rfl rfl) ?_|refine eV Z Z (val_build (vs:=[(0,int 4),(1,int 8)]) [int 4,int 8] rfl rfl rfl) ?_|(refine EL_call Z Z (entersF Z Z en35) (c35 _ hxD) (fun vE wE hE=>?_);obtain⟨rfl,xE⟩:=hE;replace hxD:=hxD.trans xE)|(refine EL_call Z Z (entersF Z Z en35) (c35b _ hxD) (fun vE wE2 hE=>?_);obtain⟨rfl,xE2⟩:=hE;replace hxD:=hxD.trans xE2;replace rS1:=rS1.ext xE2)|(refine EL_var (t:=76) (cs:=[int 300,int 500]) Z Z Z Z Z Z Z Z Z Z (fun bS1 wS1 xS1 hbS1 rS1=>?_);replace hxD:=hxD.trans xS1)|(refine EL_var (t:=76) (cs:=[int 0,int 0]) Z Z Z Z Z Z Z Z Z Z (fun bS2 wS2 xS2 hbS2 rS2=>?_);replace hxD:=hxD.trans xS2;replace rS1:=rS1.ext xS2)|(refine at_EL ?_;first|refine eN ?_|refine eV Z Z (zA Z Z) ?_|refine eV Z Z (zB Z Z) ?_|refine eV Z Z (zF Z Z Z) ?_)|(refine at_K ?_;first|refine K_then ?_)|(refine at_E ?_;first|refine E_seq ?_|refine E_region ?_)))
  have hD2:=hD.ext hxD
  obtain⟨X3,hrX3,c34⟩:=doc34_any [xD] 3 (.slice (some ⟨bD,0,none⟩) 1 1) _ hD2
  rw [x_doc] at c34
  obtain⟨a1,c1,a2,c2,a3,c3,rfl,s1,s2,s3⟩:=dc_open hrX3
  refine EL_call Z Z (entersF Z Z en34) (c34 _ (Ext.refl _)) (fun vE wF hE=>?_)
  obtain⟨rfl,xF⟩:=hE
  replace hxD:=hxD.trans xF
  replace rS1:=rS1.ext xF
  (repeat' ((fail_if_success (refine E_seq (x:=(Code.region 5 _ _)) ?_));first|(refine EL_var (t:=72) Z Z Z Z Z Z Z Z Z Z (fun bV wV xV hbV rV=>?_);replace hxD:=hxD.trans xV;replace rS1:=rS1.ext xV)|(refine at_EL ?_;first|refine eN ?_|refine eV Z Z (zA Z Z) ?_|refine eV Z Z (zB Z Z) ?_|refine eV Z Z (zF Z Z Z) ?_)|(refine at_K ?_;first|refine K_then ?_)))
  refine E_seq ?_;refine E_region ?_
  refine EL_call Z Z (entersF Z Z en47) (sample47_any _) (fun vE wG hE=>?_)
  obtain⟨⟨bL8,pv8,uv8,sv8,fv8,g1,n1,r1,g2,n2,r2,rfl,hs⟩,xG0⟩:=hE
  obtain⟨p1,q1,rfl,_⟩:=hs.segs.sl
  obtain⟨p2,q2,rfl,_⟩:=hs.units.sl
  obtain⟨p3,q3,rfl,_⟩:=hs.steps.sl
  obtain⟨p4,q4,rfl,_⟩:=hs.final.sl
  refine EL_var (t:=37) Z Z Z Z Z Z Z Z Z Z (fun b8 w8 x8 hb8 r8=>?_)
  have hlo:=hs.lo
  have hrw:=hs.row.ext x8
  have hbl:=hs.row.lt
  refine eN ?_;refine K_then ?_;refine E_seq ?_;refine E_region ?_
  refine eV Z Z (zH Z Z) ?_
  refine eV Z Z (val_load Z Z Z (Row.cellAt r8 (by rfl))) ?_
  refine eV Z Z (val_indexAddr (m:=0) Z Z Z Z (by omega)) ?_
  refine eV Z Z (zH Z Z) ?_
  refine EL_storeP (cs:=[.slice none 0 0]) hrw (xG0.trans x8) hlo rfl rfl rfl rfl rfl rfl rfl rfl (Nat.le_of_ble_eq_true rfl) (fun w9 r9 x9 k9=>?_)
  refine eN ?_;refine K_then ?_
  have r9b:Row w9 bL8 65 [int 1,g1,int 1,.slice none 0 0,int 0,n1,.slice none 0 0,.slice none 0 0,int 2,g2,int 2,.slice none 0 0,int 0,n2,.slice none 0 0,r2]:=r9
  have hL:=hs.langn (grownBy_chain (x8.kb (some bL8)) k9) r9b
  have r8b:=k9.row r8 (fun e=>by cases e;omega)
  clear hs hrw r9 r9b k9 r8
  have hY:=(hX.trans hxD).trans x9
  replace rS1:=rS1.ext x9
  replace hD:=(hD.ext hxD).ext x9
  refine E_seq ?_;refine E_region ?_
  refine eL (t:=32) Z Z Z Z Z Z Z Z (fun bI wI xI hbI rI=>?_)
  refine eV Z Z (val_build (vs:=[(0,int 3),(1,int 7)]) [int 3,int 7] rfl rfl rfl) ?_
  refine eV Z Z (val_build (vs:=[(0,int 3),(1,int 9)]) [int 3,int 9] rfl rfl rfl) ?_
  refine eL (t:=46) Z Z Z Z Z Z Z Z (fun bR wR xR hbR rR=>?_)
  refine eV Z Z (val_build (vs:=[(0,int 1),(1,str [112,108,117,114,97,108]),(3,.slice (some ⟨bI,0,none⟩) 1 1),(4,.slice (some ⟨bR,0,none⟩) 2 2)]) [int 1,str [112,108,117,114,97,108],str [],.slice (some ⟨bI,0,none⟩) 1 1,.slice (some ⟨bR,0,none⟩) 2 2] rfl rfl rfl) ?_
  refine EL_var (t:=90) Z Z Z Z Z Z Z Z Z Z (fun b9 w10 x10 hb9 rP=>?_)
  refine eN ?_;refine K_then ?_;refine E_seq ?_;refine E_region ?_
  refine eV Z Z (val_loadA Z Z Z rP.at rfl) ?_
  refine EL_var (t:=90) Z Z Z Z Z Z Z Z Z Z (fun b10 w11 x11 hb10 rQ=>?_)
  refine eN ?_;refine K_then ?_;refine E_seq ?_;refine E_region ?_
  refine eV Z Z (zH Z Z) ?_
  refine EL_storeP (cs:=[.slice none 0 0]) rQ x11 (by omega) Z Z Z Z Z Z Z Z (Nat.le_of_ble_eq_true rfl) (fun w12 r12 x12 k12=>?_)
  have rQ2:Row w12 b10 90 [int 1,str [112,108,117,114,97,108],str [],.slice (some ⟨bI,0,none⟩) 1 1,.slice none 0 0]:=r12
  have hZ:=(xI.trans (xR.trans x10)).trans x12
  have hW:=hY.trans hZ
  have rI2:=(rI.ext (xR.trans x10)).ext x12
  have rR2:=(rR.ext x10).ext x12
  have rP2:=rP.ext x12
  have hrP:Rep.at_ Tt w12 xP [int 1,str [112,108,117,114,97,108],str [],.slice (some ⟨bI,0,none⟩) 1 1,.slice (some ⟨bR,0,none⟩) 2 2]:=⟨_,_,rfl,row_Sl (xs:=([2]:List Int)) (css:=[[int 2]]) rI2 ⟨rfl,trivial⟩ (Nat.le_refl _) (by simp),row_Sl (xs:=xP.refs) (css:=xP.refs.map rfC) rR2 (rf_ats _ _) (Nat.le_refl _) (by decide)⟩
  have hrQ:Rep.at_ Tt w12 xQ [int 1,str [112,108,117,114,97,108],str [],.slice (some ⟨bI,0,none⟩) 1 1,.slice none 0 0]:=⟨_,_,rfl,row_Sl (xs:=([2]:List Int)) (css:=[[int 2]]) rI2 ⟨rfl,trivial⟩ (Nat.le_refl _) (by simp),SlG.nil⟩
  have hD3:=hD.ext hZ
  have hL3:=hL.ext hZ
  have r83:=r8b.ext hZ
  have rS3:=rS1.ext hZ
  have hT3:=hT.ext hW
  clear rI2 rR2 rI rR rP rQ r12 k12 hD hL r8b rS1
  refine eN ?_;refine K_then ?_
  (repeat' ((fail_if_success (refine E_seq (x:=(Code.region 12 _ _)) ?_));first|refine eV Z Z (val_loadA Z Z Z (Row.at (by assumption)) (by rfl)) ?_|refine eV Z Z (val_build (vs:=[(0,int 300),(1,int 500)]) [int 300,int 500] rfl rfl rfl) ?_|refine eV Z Z (val_neq_self shp76 (eqs76b 300 500) Z Z Z) ?_|(refine at_EL ?_;first|refine eN ?_|refine eV Z Z (zA Z Z) ?_|refine eV Z Z (zD Z Z Z) ?_|refine eV Z Z (zE Z Z) ?_)|(refine at_K ?_;first|refine K_then ?_)|(refine at_E ?_;first|refine E_seq ?_|refine E_region ?_|refine E_cond_f Z ?_|refine E_skip ?_)))
  all_goals (try (exfalso;omega))
  refine E_seq ?_
  refine E.sub (M:=[(1,.slice (some ⟨bD,0,none⟩) 1 1),(8,.pointer (some ⟨b8,0,none⟩)),(9,.pointer (some ⟨b9,0,none⟩)),(10,.pointer (some ⟨b10,0,none⟩))]) ⟨rfl,rfl,rfl,rfl,trivial⟩ ?_
  refine E_dm 73 mixedOk (by kernel_rfl) Z ?_
  (repeat' (first|(refine RQ_callR (f:=47) (fun u w'=>∃ pv uv tv rv sv fv ev,u=.agg #[pv,str xG.oname,uv,tv,rv,int xG.net.states,sv,fv,ev]∧LangG Tt w' xG pv uv tv rv sv fv ev) (fun _=>#[]) Z Z (fun _ _ _ _ xe h=>by obtain⟨pv,uv,tv,rv,sv,fv,ev,e,hl⟩:=h;exact⟨pv,uv,tv,rv,sv,fv,ev,e,hl.ext xe⟩) (fun _ _ _=>entersF Z Z en47) (fun wq _ xq _=>?_) ?_;exact calls_mono (sample47_L wq) (fun _ _ hh=>hh))|refine yV Z Z (fun _ _ _=>val_build (vs:=[(0,int 3),(1,int 7)]) [int 3,int 7] rfl rfl rfl) ?_|refine yV Z Z (fun _ _ _=>val_build (vs:=[(0,int 3),(1,int 5)]) [int 3,int 5] rfl rfl rfl) ?_|refine yV Z Z (fun _ _ _=>val_build (vs:=[(0,int 3),(1,int 8)]) [int 3,int 8] rfl rfl rfl) ?_|refine yV Z Z (fun _ _ _=>val_build (vs:=[(0,int 3),(1,int 9)]) [int 3,int 9] rfl rfl rfl) ?_|refine yV Z Z (fun wq _ xq=>val_loadA Z Z Z (r83.ext xq).at rfl) ?_|refine yV Z Z (fun wq _ xq=>val_loadA Z Z Z (rP2.ext xq).at rfl) ?_|refine yV Z Z (fun wq _ xq=>val_loadA Z Z Z (rQ2.ext xq).at rfl) ?_|(refine RQ_callV (f:=14) (v:=.bool true) (fun δ=>#[.slice (some ⟨bD,0,none⟩) 1 1,δ 57,int 2,.agg #[int 3,int 7] ]) Z Z (fun _ _ _=>entersF Z Z en14) (fun wq δ xq hd=>?_) ?_;(obtain⟨pv,uv,tv,rv,sv,fv,ev,e,hl⟩:=hd 57 rfl _ rfl;rw [e];have:=attests14_any x_tx xG x_lang 2 ⟨3,7⟩ (.slice (some ⟨bD,0,none⟩) 1 1) pv uv tv rv sv fv ev wq (hD3.ext xq) hl;rw [x_att1] at this;exact this))|(refine RQ_callV (f:=14) (v:=.bool false) (fun δ=>#[.slice (some ⟨bD,0,none⟩) 1 1,δ 62,int 2,.agg #[int 3,int 5] ]) Z Z (fun _ _ _=>entersF Z Z en14) (fun wq δ xq hd=>?_) ?_;(obtain⟨pv,uv,tv,rv,sv,fv,ev,e,hl⟩:=hd 62 rfl _ rfl;rw [e];have:=attests14_any x_tx xG x_lang 2 ⟨3,5⟩ (.slice (some ⟨bD,0,none⟩) 1 1) pv uv tv rv sv fv ev wq (hD3.ext xq) hl;rw [x_att2] at this;exact this))|(refine RQ_callV (f:=14) (v:=.bool false) (fun δ=>#[.slice (some ⟨bD,0,none⟩) 1 1,δ 69,int 1,.agg #[int 3,int 8] ]) Z Z (fun _ _ _=>entersF Z Z en14) (fun wq δ xq hd=>?_) ?_;(obtain⟨pv,uv,tv,rv,sv,fv,ev,e,hl⟩:=hd 69 rfl _ rfl;rw [e];have:=attests14_any x_tx xG x_lang 1 ⟨3,8⟩ (.slice (some ⟨bD,0,none⟩) 1 1) pv uv tv rv sv fv ev wq (hD3.ext xq) hl;rw [x_att3] at this;exact this))|(refine RQ_callR (f:=19) (fun u w'=>Sl w' u ([⟨3,7⟩]:List Rf)) (fun δ=>#[.slice (some ⟨bD,0,none⟩) 1 1,δ 76,int 2]) Z Z (fun _ _ _ _ xe h=>SlG.ext h xe) (fun _ _ _=>entersF Z Z en19) (fun wq δ xq hd=>?_) ?_;(obtain⟨pv,uv,tv,rv,sv,fv,ev,e,hl⟩:=hd 76 rfl _ rfl;rw [e];have:=entry19_any x_tx xG x_lang 2 (.slice (some ⟨bD,0,none⟩) 1 1) pv uv tv rv sv fv ev wq (hD3.ext xq) hl;rw [x_ent] at this;exact calls_mono this (fun _ _ hh=>⟨hh.1.any,hh.2⟩)))|refine RQ_lit Z Z Z (fun _=>rfl) Z Z Z Z ?_|(refine RQ_callV (f:=18) (v:=.bool true) (fun δ=>#[δ 77,δ 79]) Z Z (fun _ _ _=>entersF Z Z en18) (fun wq δ xq hd=>?_) ?_;(obtain⟨bl,el,_,rl⟩:=hd 79 rfl _ rfl;rw [el];have:=same18_any ([⟨3,7⟩]:List Rf) [⟨3,7⟩] _ _ wq (hd 77 rfl _ rfl) (one_rf (x:=⟨3,7⟩) rl);rw [decide_eq_true rfl] at this;exact this))|(refine RQ_callR (f:=22) (fun u w'=>Sl w' u ([]:List Int)) (fun δ=>#[.slice (some ⟨bD,0,none⟩) 1 1,δ 84]) Z Z (fun _ _ _ _ xe h=>SlG.ext h xe) (fun _ _ _=>entersF Z Z en22) (fun wq δ xq hd=>?_) ?_;(obtain⟨pv,uv,tv,rv,sv,fv,ev,e,hl⟩:=hd 84 rfl _ rfl;rw [e];have:=missing22_any x_tx xG x_lang (.slice (some ⟨bD,0,none⟩) 1 1) pv uv tv rv sv fv ev wq (hD3.ext xq) hl;rw [x_miss] at this;exact calls_mono this (fun _ _ hh=>⟨hh.1.any,hh.2⟩)))|refine RQ_lenS Z Z Z Z (fun _=>rfl) ?_|(refine RQ_callR (f:=22) (fun u w'=>Sl w' u ([1]:List Int)) (fun δ=>#[.slice (some ⟨bD,0,none⟩) 1 1,.agg #[.slice p1 xSegs.length q1,str [111,110,101],.slice p2 xUnits.length q2,.slice none 0 0,.slice none 0 0,int 2,.slice p3 xSteps.length q3,.slice p4 ([1]:List Int).length q4,.slice (some ⟨bL8,0,none⟩) 2 2] ]) Z Z (fun _ _ _ _ xe h=>SlG.ext h xe) (fun _ _ _=>entersF Z Z en22) (fun wq δ xq hd=>?_) ?_;(have:=missing22_any x_tx xGn x_langn (.slice (some ⟨bD,0,none⟩) 1 1) _ _ _ _ _ _ _ wq (hD3.ext xq) (hL3.ext xq);rw [x_missn] at this;exact calls_mono this (fun _ _ hh=>⟨hh.1.any,hh.2⟩)))|(refine RQ_callV (f:=21) (v:=.bool true) (fun δ=>#[δ 92,δ 93]) Z Z (fun _ _ _=>entersF Z Z en21) (fun wq δ xq hd=>?_) ?_;(obtain⟨bl,el,_,rl⟩:=hd 93 rfl _ rfl;rw [el];have:=r1same_any [1] [1] _ _ wq (hd 92 rfl _ rfl) (one_int (x:=1) rl);rw [decide_eq_true rfl] at this;exact this))|(refine RQ_valR (d:=98) (fun u w'=>Sl w' u xG.lex) Z Z (fun _ _ _ _ xe h=>SlG.ext h xe) (fun wq δ xq hd=>?_) ?_;(obtain⟨pv,uv,tv,rv,sv,fv,ev,e,hl⟩:=hd 97 rfl _ rfl;obtain⟨la,lc,rfl,_⟩:=hl.lex.sl;exact⟨.slice la xG.lex.length lc,val_field (cs:=[pv,str xG.oname,uv,tv,rv,int xG.net.states,sv,fv,.slice la xG.lex.length lc]) Z Z (show some (δ 97)=_ by rw [e]) Z,hl.lex⟩))|(refine RQ_valR (d:=106) (fun u w'=>Sl w' u xG.lex) Z Z (fun _ _ _ _ xe h=>SlG.ext h xe) (fun wq δ xq hd=>?_) ?_;(obtain⟨pv,uv,tv,rv,sv,fv,ev,e,hl⟩:=hd 105 rfl _ rfl;obtain⟨la,lc,rfl,_⟩:=hl.lex.sl;exact⟨.slice la xG.lex.length lc,val_field (cs:=[pv,str xG.oname,uv,tv,rv,int xG.net.states,sv,fv,.slice la xG.lex.length lc]) Z Z (show some (δ 105)=_ by rw [e]) Z,hl.lex⟩))|(refine RQ_callV (f:=25) (v:=int 0) (fun δ=>#[δ 98,δ 100]) Z Z (fun _ _ _=>entersF Z Z en25) (fun wq δ xq hd=>?_) ?_;(obtain⟨bl,el,_,rl⟩:=hd 100 rfl _ rfl;rw [el];have:=points25_any xG.lex [xP] _ _ wq (hT3.ext xq) (hd 98 rfl _ rfl) (one_pnt rl (rep_ext hrP xq));rw [x_pts] at this;exact this))|(refine RQ_callV (f:=25) (v:=int 24) (fun δ=>#[δ 106,δ 108]) Z Z (fun _ _ _=>entersF Z Z en25) (fun wq δ xq hd=>?_) ?_;(obtain⟨bl,el,_,rl⟩:=hd 108 rfl _ rfl;rw [el];have:=points25_any xG.lex [xQ] _ _ wq (hT3.ext xq) (hd 106 rfl _ rfl) (one_pnt rl (rep_ext hrQ xq));rw [x_ptsq] at this;exact this))|(refine RQ_callR (f:=29) (fun u w'=>Sl w' u ([⟨3,9⟩]:List Rf)) (fun δ=>#[.slice (some ⟨bD,0,none⟩) 1 1,δ 115]) Z Z (fun _ _ _ _ xe h=>SlG.ext h xe) (fun _ _ _=>entersF Z Z en29) (fun wq δ xq hd=>?_) ?_;(obtain⟨bl,el,_,rl⟩:=hd 115 rfl _ rfl;rw [el];have:=dangling29_any x_lights [xP] (by decide) (by decide) (.slice (some ⟨bD,0,none⟩) 1 1) _ wq (hD3.ext xq) (one_pnt rl (rep_ext hrP xq));rw [x_dang] at this;exact calls_mono this (fun _ _ hh=>⟨hh.1.any,hh.2⟩)))|(refine RQ_callV (f:=18) (v:=.bool true) (fun δ=>#[δ 116,δ 118]) Z Z (fun _ _ _=>entersF Z Z en18) (fun wq δ xq hd=>?_) ?_;(obtain⟨bl,el,_,rl⟩:=hd 118 rfl _ rfl;rw [el];have:=same18_any ([⟨3,9⟩]:List Rf) [⟨3,9⟩] _ _ wq (hd 116 rfl _ rfl) (one_rf (x:=⟨3,9⟩) rl);rw [decide_eq_true rfl] at this;exact this))|(refine RQ_callR (f:=31) (fun u w'=>Sl w' u ([1]:List Int)) (fun δ=>#[δ 123,int 2]) Z Z (fun _ _ _ _ xe h=>SlG.ext h xe) (fun _ _ _=>entersF Z Z en31) (fun wq δ xq hd=>?_) ?_;(obtain⟨bl,el,_,rl⟩:=hd 123 rfl _ rfl;rw [el];have:=uses31_any [xP] (by decide) 2 _ wq (one_pnt rl (rep_ext hrP xq));rw [x_uses] at this;exact calls_mono this (fun _ _ hh=>⟨hh.1,hh.2⟩)))|(refine RQ_callV (f:=21) (v:=.bool true) (fun δ=>#[δ 124,δ 125]) Z Z (fun _ _ _=>entersF Z Z en21) (fun wq δ xq hd=>?_) ?_;(obtain⟨bl,el,_,rl⟩:=hd 125 rfl _ rfl;rw [el];have:=r1same_any [1] [1] _ _ wq (hd 124 rfl _ rfl) (one_int (x:=1) rl);rw [decide_eq_true rfl] at this;exact this))|refine RQ_end (fun wq δ xq hR=>?_)|(refine at_EL ?_;first|refine eN ?_)|(refine at_K ?_;first|refine K_then ?_)|(refine at_E ?_;first|refine E_ret ?_)|(refine at_RQ ?_;first|refine yO Z Z ?_|refine yV Z Z (fun _ _ _=>zA Z Z) ?_|refine yV Z Z (fun _ _ _=>zB Z Z) ?_|(refine at_binR ?_;first|refine yD Z Z (fun _ _ _=>zM Z Z Z) (fun hh=>?_) (fun hh=>?_))|refine yV Z Z (fun _ _ _=>zC Z Z Z) ?_|refine yV Z Z (fun _ _ _=>zD Z Z Z) ?_|refine yV Z Z (fun _ _ _=>zE Z Z) ?_)))
  all_goals (first|(exfalso;first|omega|(have:(((([]:List Int).length:Nat)):Int)=0:=rfl;contradiction))|skip)
  exact ret_1 Z Z ⟨rfl,hW.trans xq⟩
end Go.Proofs.YtjicdgejhkgpgaaGreatDoor
namespace Go.En
open Go.RowKit
section
variable {P : Program}
end
section
variable {P : Program} {n : Nat} {ops : List Oper} {Q : Post} {w0 : World} {o : Oper} {rest tl : List Oper} {G : List (Nat × Ent)}
end
end Go.En
namespace Go.Proofs.YtjicdgejhkgpgaaGreatDoor
open Go.RowKit Go.En Go.Pv
structure LgCp (g:Lg):Prop where
  segs:g.segs.length≤1048576
  units:g.units.length≤1048576
  unit:∀ u∈g.units,u.segs.length≤1048576
  letters:g.letters.length≤1048576
  letter:∀ l∈g.letters,l.length≤1048576
  rules:g.rules.length≤1048576
  rule:∀ r∈g.rules,r.frm.length≤1048576∧r.to.length≤1048576∧r.left.length≤1048576∧r.right.length≤1048576
  steps:g.net.steps.length≤1048576
  final:g.net.final.length≤1048576
  lex:g.lex.length≤1048576
  ent:∀ e∈g.lex,e.form.length≤1000000∧e.alts.length≤1000000∧(∀ f∈e.alts,f.length≤1000000)∧e.senses.length≤1000000∧e.links.length≤1000000∧e.refs.length≤1000000
attribute [local irreducible] E EL K Val Enters Rt Calls bodyPost Code.wp RQ
end Go.Proofs.YtjicdgejhkgpgaaGreatDoor
namespace Go.Proofs.YtjicdgejhkgpgaaGreatDoor
open Go.RowKit Go.En Go.Pv
theorem eql_bool {P:Program} {L:List (Nat × Value)} {w:World} {o:Oper} {t u:TypeId} {x y:Operand} {a:Bool} [UT P t .bool] (ho:o.op=.binOp .eql t x y u) (hx:ev L x=some (.bool a)) (hy:ev L y=some (.bool a)):Val P L w o (.bool true):=fun ρ ha=>by
  have h1:=ha.ev (by rw [ho];simp [Op.operands]) hx
  have h2:=ha.ev (by rw [ho];simp [Op.operands]) hy
  have h4:=run_eql_bool (P:=P) w t a a (UT.u (P:=P) (t:=t) (d:=.bool))
  simp [execOp,ho,h1,h2,go_sem,h4]
theorem light_cp {ds:List Dc} (hL:LightDs ds):∀ d∈ds,d.sp.length≤1000000∧d.tiers.length≤1000000∧d.notes.length≤1000000:=fun d hd=>by
  have h:=hL.each d hd
  have:=h.nsp;have:=h.ntiers;have:=h.nnotes
  omega
theorem dscopyL {ds:List Dc} (hL:LightDs ds) (v:Value) (w:World) (hv:Sl w v ds):Calls Tryz.prog 15 #[v] w (Rt fun u w'=>Ext w w'∧SlG (fun b=>w.heap.size≤b) w' u ds):=
  dscopy15_any ds (by have:=hL.few;omega) (light_cp hL) v w hv
attribute [local irreducible] E EL K Val Enters Rt Calls bodyPost Code.wp RQ
theorem few_cp {l:List Pnt} (h:∀ p∈l,FewP p):∀ p∈l,p.entries.length≤1000000∧p.refs.length≤1000000:=fun p hp=>by
  have:=(h p hp).e;have:=(h p hp).r;omega
theorem few_rl {l:List Pnt} (h:∀ p∈l,FewP p):∀ p∈l,p.refs.length≤1000:=fun p hp=>by have:=(h p hp).r;omega
set_option maxHeartbeats 8000000 in
set_option maxRecDepth 8000 in
theorem law6_any (ds:List Dc) (hn:∀ d∈ds,Names d) (l:List Pnt) (id:Int) (dv v:Value) (w:World) (hT:Tabs w) (hv:Sl w dv ds) (hl0:Sl w v l) :
    Calls Tryz.prog 6 #[dv,v,int id] w (Rt fun u w'=>u=.bool true∧Ext w w'):=by
  refine calls_E (n:=38) (args:=[dv,v,int id]) Tryz.func6 rfl Tryz.ntmps6 (by simp) ?_
  have hX:=Ext.refl w
  (repeat' ((fail_if_success (refine E_seq (x:=(Code.region 3 _ _)) ?_));first|(refine EL_call Z Z (entersF Z Z en28) (light28_any ds hn dv _ (hv.ext hX)) (fun vC wC hC=>?_);obtain⟨⟨bl,rfl,hl⟩,xC⟩:=hC;replace hX:=hX.trans xC;cases bl)|(refine EL_call Z Z (entersF Z Z en24) (few24_any l v _ (hl0.ext hX)) (fun vC wC hC=>?_);obtain⟨⟨bf,rfl,hf⟩,xC⟩:=hC;replace hX:=hX.trans xC;cases bf)|(refine EL_call Z Z (entersF Z Z en13) (awake13_any _ (hT.ext hX)) (fun vA wA hA=>?_);obtain⟨rfl,xA⟩:=hA;replace hX:=hX.trans xA)|(refine at_EL ?_;first|refine eN ?_|refine eO Z Z ?_|refine eV Z Z (zA Z Z) ?_|refine eV Z Z (zB Z Z) ?_|refine eV Z Z (zC Z Z Z) ?_|refine eV Z Z (zD Z Z Z) ?_|refine eV Z Z (zE Z Z) ?_)|(refine at_K ?_;first|refine K_then ?_|refine K_then_ret ?_)|(refine at_E ?_;first|refine E_seq ?_|refine E_region ?_|refine E_cond_t Z ?_|refine E_cond_f Z ?_|refine E_skip ?_|refine E_ret ?_)))
  all_goals (try (exfalso;omega))
  all_goals (try exact ret_1 Z Z ⟨rfl,hX⟩)
  have hL:=hl rfl
  obtain⟨hf1,hf2⟩:=hf rfl
  refine E_seq ?_
  refine E_region ?_
  refine eV Z Z (zA Z Z) ?_
  refine EL_call Z Z (entersF Z Z en15) (dscopyL hL dv _ (hv.ext hX)) (fun vD wD hD=>?_)
  obtain⟨xD,sD⟩:=hD
  replace hX:=hX.trans xD
  refine eV Z Z (zA Z Z) ?_
  refine EL_call Z Z (entersF Z Z en26) (ptcopy26_any l (by omega) (few_cp hf2) v _ (hl0.ext hX)) (fun vP wP hP=>?_)
  obtain⟨xP,sP⟩:=hP
  replace hX:=hX.trans xP
  refine EL_call Z Z (entersF Z Z en29) (dangling29_any hL l (by omega) (few_rl hf2) _ _ _ (sD.any.ext xP) sP.any) (fun vQ wQ hQ=>?_)
  obtain⟨sQ,xQ⟩:=hQ
  replace hX:=hX.trans xQ
  refine eV Z Z (zA Z Z) ?_
  refine eV Z Z (zA Z Z) ?_
  refine EL_call Z Z (entersF Z Z en30) (dangling30_any hL l (by omega) (few_rl hf2) dv v _ (hv.ext hX) (hl0.ext hX)) (fun vR wR hR=>?_)
  obtain⟨sR,xR⟩:=hR
  replace hX:=hX.trans xR
  have cs:=same18_any (danglF (leadsB ds) l) (danglF (leadsB ds) l) _ _ wR (sQ.any.ext xR) sR
  rw [decide_eq_true rfl] at cs
  refine EL_call Z Z (entersF Z Z en18) cs (fun vS wS hS=>?_)
  obtain⟨rfl,xS⟩:=hS
  replace hX:=hX.trans xS
  refine eV Z Z (zA Z Z) ?_
  refine eV Z Z (zA Z Z) ?_
  refine EL_call Z Z (entersF Z Z en26) (ptcopy26_any l (by omega) (few_cp hf2) v _ (hl0.ext hX)) (fun vP2 wP2 hP=>?_)
  obtain⟨xP2,sP2⟩:=hP
  replace hX:=hX.trans xP2
  refine eV Z Z (zA Z Z) ?_
  refine EL_call Z Z (entersF Z Z en31) (uses31_any l (by omega) id _ _ sP2.any) (fun vT wT hU=>?_)
  obtain⟨sT,xT⟩:=hU
  replace hX:=hX.trans xT
  refine eV Z Z (zA Z Z) ?_
  refine eV Z Z (zA Z Z) ?_
  refine EL_call Z Z (entersF Z Z en32) (uses32_any l (by omega) id v _ (hl0.ext hX)) (fun vU wU hU=>?_)
  obtain⟨sU,xU⟩:=hU
  replace hX:=hX.trans xU
  have cs2:=r1same_any (sortedF (usesL l id)) (sortedF (usesL l id)) _ _ wU (sT.ext xU) sU
  rw [decide_eq_true rfl] at cs2
  refine EL_call Z Z (entersF Z Z en21) cs2 (fun vV wV hV=>?_)
  obtain⟨rfl,xV⟩:=hV
  replace hX:=hX.trans xV
  (repeat' (first|(refine EL_call Z Z (entersF Z Z en13) (awake13_any _ (hT.ext hX)) (fun vA wA hA=>?_);obtain⟨rfl,xA⟩:=hA;replace hX:=hX.trans xA)|(refine at_EL ?_;first|refine eN ?_|refine eV Z Z (zA Z Z) ?_|refine eV Z Z (zB Z Z) ?_|refine eV Z Z (zC Z Z Z) ?_)|(refine at_K ?_;first|refine K_then ?_)|(refine at_E ?_;first|refine E_ret ?_)))
  all_goals (try (exfalso;omega))
  exact ret_1 Z Z ⟨rfl,hX⟩
end Go.Proofs.YtjicdgejhkgpgaaGreatDoor
