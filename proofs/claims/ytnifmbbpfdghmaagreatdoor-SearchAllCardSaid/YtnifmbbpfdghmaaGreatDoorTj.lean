/-
  Walks of search: the law's example, its small functions, awake.
-/
import Derived.Test.YtnifmbbpfdghmaaGreatDoorTh
import Derived.Test.YtnifmbbpfdghmaaGreatDoorYi
import Derived.Test.YtnifmbbpfdghmaaGreatDoorNm
import Derived.Test.YtnifmbbpfdghmaaGreatDoorY1
set_option linter.all false
namespace Go.Proofs.YtnifmbbpfdghmaaGreatDoor
open Go.RowKit Go.En
theorem sm_all:allF [smD] thenQ=[⟨4,3⟩]:=by
  unfold allF oneF
  rw [List.flatMap_singleton,sm_then];rfl
theorem sm_tierIn:Ix.TierIn smD:=fun n hn=>by
  obtain⟨i,hi⟩:=List.getElem?_of_mem hn
  rcases sm_note hi with⟨rfl,rfl⟩|⟨rfl,rfl⟩|⟨rfl,rfl⟩|⟨rfl,rfl⟩ <;> exact⟨by decide,by decide⟩
theorem ok_then:okQ thenQ:=ok_two2 (by decide)
theorem ok_and:okQ (twoQ 1 (textQ 2 baT) (textQ 2 miT)):=ok_two2 (by decide)
attribute [local irreducible] E EL K Val Enters Rt Calls bodyPost Code.wp RQ
set_option maxRecDepth 8000 in
theorem sample92_any (w:World):Calls Tryz.prog 92 #[] w (Rt fun u w'=>Ext w w'∧DcAt w' u smD):=by
  refine calls_E (n:=15) (args:=[]) Tryz.func92 rfl Tryz.ntmps92 (by simp) ?_
  refine E_seq ?_
  refine E_region ?_
  refine EL_alloc Z Z Z (fun bA wA xA hbA rA=>?_)
  (repeat' (first|refine eV Z Z (val_build (vs:=[(0,int 4),(2,int 900)]) [int 4,str [],int 900,int 0,.slice none 0 0] rfl rfl rfl) ?_|refine eV Z Z (val_build (vs:=[(0,str [116,101,120,116]),(2,int 1),(3,int (-1))]) (tierC ⟨[116,101,120,116],0,1,-1⟩) Z Z Z) ?_|refine eV Z Z (val_build (vs:=[(0,str [119,111,114,100]),(1,int 2),(2,int 2)]) (tierC ⟨[119,111,114,100],2,2,0⟩) Z Z Z) ?_|refine eL (t:=25) Z Z Z Z Z Z Z Z (fun bT wT xT hbT rT=>?_)|refine eV Z Z (val_build (vs:=[(1,int 900)]) [int 0,int 900] rfl rfl rfl) ?_|refine eV Z Z (val_build (vs:=[(1,int 300)]) [int 0,int 300] rfl rfl rfl) ?_|refine eV Z Z (val_build (vs:=[(0,int 300),(1,int 600)]) [int 300,int 600] rfl rfl rfl) ?_|refine eV Z Z (val_build (vs:=[(0,int 600),(1,int 900)]) [int 600,int 900] rfl rfl rfl) ?_|refine eV Z Z (val_build (vs:=[(0,int 1),(3,.agg #[int 0,int 900])]) (noteC ⟨1,0,0,0,900,0,[]⟩) Z Z Z) ?_|refine eV Z Z (val_build (vs:=[(0,int 2),(1,int 1),(2,int 1),(3,.agg #[int 0,int 300]),(5,str [109,105])]) (noteC ⟨2,1,1,0,300,0,[109,105]⟩) Z Z Z) ?_|refine eV Z Z (val_build (vs:=[(0,int 3),(1,int 1),(2,int 1),(3,.agg #[int 300,int 600]),(5,str [98,97])]) (noteC ⟨3,1,1,300,600,0,[98,97]⟩) Z Z Z) ?_|refine eV Z Z (val_build (vs:=[(0,int 5),(1,int 1),(2,int 1),(3,.agg #[int 600,int 900]),(5,str [109,105])]) (noteC ⟨5,1,1,600,900,0,[109,105]⟩) Z Z Z) ?_|(refine at_EL ?_;first|refine eN ?_|refine eL Z Z Z Z Z Z Z Z (fun bS wS xS hbS rS=>?_))|(refine at_K ?_;first|refine K_then ?_)|(refine at_E ?_;first|refine E_seq ?_|refine E_region ?_)))
  (repeat' (first|refine eV Z Z (val_build (vs:=[(0,.agg #[int 4,str [],int 900,int 0,.slice none 0 0]),(1,.slice (some ⟨bT,0,none⟩) 2 2),(2,.slice (some ⟨bS,0,none⟩) 4 4)]) [int 4,str [],int 900,int 0,.slice none 0 0,.slice (some ⟨bT,0,none⟩) 2 2,.slice (some ⟨bS,0,none⟩) 4 4] rfl rfl rfl) ?_))
  have lA:=rA.lt
  have lT:=rT.lt
  have zT:=xT.size
  have hbT2:bA<bT:=by omega
  have hbS2:bA<bS:=by omega
  refine EL_storeP (cs:=[int 4,str [],int 900,int 0,.slice none 0 0,.slice (some ⟨bT,0,none⟩) 2 2,.slice (some ⟨bS,0,none⟩) 4 4]) (rA.ext (xT.trans xS)) (xA.trans (xT.trans xS)) (by omega) Z Z Z Z Z Z Z Z (Nat.le_refl _) (fun w9 r9 x9 k9=>?_)
  have r9':Row w9 bA 28 [int 4,str [],int 900,int 0,.slice none 0 0,.slice (some ⟨bT,0,none⟩) 2 2,.slice (some ⟨bS,0,none⟩) 4 4]:=r9
  have rT9:=k9.row (rT.ext xS) (fun e=>by cases e;omega)
  have rS9:=k9.row rS (fun e=>by cases e;omega)
  have sT9:Sl w9 (.slice (some ⟨bT,0,none⟩) 2 2) smT:=row_Sl (xs:=smT) (css:=smT.map tierC) rT9 (tiers_ats _ _) (Nat.le_refl _) (by decide)
  have sN9:Sl w9 (.slice (some ⟨bS,0,none⟩) 4 4) smN:=row_Sl (xs:=smN) (css:=smN.map noteC) rS9 (notes_ats _ _) (Nat.le_refl _) (by decide)
  (repeat' (first|(refine at_EL ?_;first|refine eN ?_)|(refine at_K ?_;first|refine K_then ?_)|(refine at_E ?_;first|refine E_ret ?_)))
  exact ret_c Z Z Z r9'.at rfl ⟨x9,.slice none 0 0,_,_,rfl,SlG.nil,sT9,sN9⟩
theorem word93_any (p:List UInt8) (w:World):Calls Tryz.prog 93 #[str p] w (Rt fun u w'=>u=textV 2 p∧Ext w w'):=by
  refine calls_E (n:=5) (args:=[str p]) Tryz.func93 rfl Tryz.ntmps93 (by simp) ?_
  refine E_seq ?_
  refine E_region ?_
  refine EL_alloc Z Z Z (fun bA wA xA hbA rA=>?_)
  (repeat' (first|refine eV Z Z (val_build (vs:=[(0,int 0),(1,int 2),(2,str p)]) [int 0,int 2,str p,.slice none 0 0] rfl rfl rfl) ?_|(refine at_EL ?_;first|refine eN ?_|refine eV Z Z (zA Z Z) ?_)|(refine at_K ?_;first|refine K_then ?_)|(refine at_E ?_;first|refine E_seq ?_|refine E_region ?_)))
  refine EL_storeP (cs:=[int 0,int 2,str p,.slice none 0 0]) rA xA (by omega) Z Z Z Z Z Z Z Z (Nat.le_refl _) (fun w9 r9 x9 k9=>?_)
  have r9':Row w9 bA 36 [int 0,int 2,str p,.slice none 0 0]:=r9
  (repeat' (first|(refine at_EL ?_;first|refine eN ?_)|(refine at_K ?_;first|refine K_then ?_)|(refine at_E ?_;first|refine E_ret ?_)))
  exact ret_c Z Z Z r9'.at rfl ⟨rfl,x9⟩
set_option maxHeartbeats 4000000 in
set_option maxRecDepth 8000 in
theorem join57_any (op:Int) (a b:Qy) (u v:Value) (w:World) (ha:QAt w u a) (hb:QAt w v b):Calls Tryz.prog 57 #[int op,u,v] w (Rt fun r w'=>Ext w w'∧QAt w' r (twoQ op a b)):=by
  obtain⟨ka,rfl,sa⟩:=ha
  obtain⟨kb,rfl,sb⟩:=hb
  have oa:=sa.old
  have ob:=sb.old
  obtain⟨a1,c1,rfl,_,_,_⟩:=sa.sl
  obtain⟨a2,c2,rfl,_,_,_⟩:=sb.sl
  refine calls_E (n:=12) (args:=[int op,.agg #[int a.op,int a.role,str a.text,.slice a1 a.kids.length c1],.agg #[int b.op,int b.role,str b.text,.slice a2 b.kids.length c2]]) Tryz.func57 rfl Tryz.ntmps57 (by simp) ?_
  refine E_seq ?_
  refine E_region ?_
  refine EL_box Z Z Z Z (fun bU wU xU hbU rU0=>?_)
  have rU:Row wU bU 36 [int a.op,int a.role,str a.text,.slice a1 a.kids.length c1]:=rU0
  refine EL_box Z Z Z Z (fun bV wV xV hbV rV0=>?_)
  have rV:Row wV bV 36 [int b.op,int b.role,str b.text,.slice a2 b.kids.length c2]:=rV0
  refine EL_alloc Z Z Z (fun bA wA xA hbA rA=>?_)
  have rUA:=(rU.ext xV).ext xA
  have rVA:=rV.ext xA
  have XA:=(xU.trans xV).trans xA
  have hbw:w.heap.size≤bA:=by have:=(xU.trans xV).size;omega
  clear rU0 rV0
  (repeat' (first|refine eV Z Z (val_loadA Z Z Z rUA.at rfl) ?_|refine eV Z Z (val_loadA Z Z Z rVA.at rfl) ?_|(refine at_EL ?_;first|refine eN ?_|refine eV Z Z (zA Z Z) ?_|refine eL Z Z Z Z Z Z Z Z (fun bS wS xS hbS rS=>?_))|(refine at_K ?_;first|refine K_then ?_)|(refine at_E ?_;first|refine E_seq ?_|refine E_region ?_)))
  (repeat' (first|refine eV Z Z (val_build (vs:=[(0,int op),(3,.slice (some ⟨bS,0,none⟩) 2 2)]) [int op,int 0,str [],.slice (some ⟨bS,0,none⟩) 2 2] rfl rfl rfl) ?_))
  have XS:=XA.trans xS
  have hbAlt:bA<wA.heap.size:=rA.lt
  refine EL_storeP (cs:=[int op,int 0,str [],.slice (some ⟨bS,0,none⟩) 2 2]) (rA.ext xS) XS hbw rfl rfl rfl rfl rfl rfl rfl rfl (Nat.le_refl _) (fun w9 r9 x9 k9=>?_)
  have r9':Row w9 bA 36 [int op,int 0,str [],.slice (some ⟨bS,0,none⟩) 2 2]:=r9
  have rS9:=k9.row rS (fun e=>by cases e;omega)
  have mv:∀ {α:Type} [Rep α] {v:Value} {xs:List α},SlG (fun b=>b<w.heap.size) w v xs→Sl w9 v xs:=fun h=>((h.ext XS).move (k9.mv (G:=fun b=>b<w.heap.size) (fun b hb e=>by cases e;omega))).any
  (repeat' (first|(refine at_EL ?_;first|refine eN ?_)|(refine at_K ?_;first|refine K_then ?_)|(refine at_E ?_;first|refine E_ret ?_)))
  exact ret_c Z Z Z r9'.at rfl ⟨x9,_,rfl,row_Sl (xs:=[a,b]) (css:=[[int a.op,int a.role,str a.text,.slice a1 a.kids.length c1],[int b.op,int b.role,str b.text,.slice a2 b.kids.length c2]]) rS9 ⟨qat_rep (mv oa),qat_rep (mv ob),trivial⟩ (Nat.le_refl _) (by simp)⟩
structure SW (w0 w:World) (CS:List Value) (s kv:Value) (b1 b2 b3:Nat):Prop where
  x:Ext w0 w
  d:DcAt w (.agg CS.toArray) smD
  r1:Row w b1 28 CS
  r2:Row w b2 49 [s]
  sx:Sl w s smX
  r3:Row w b3 36 [int 4,int 0,str [],kv]
  q:QAt w (.agg #[int 4,int 0,str [],kv]) thenQ
  t:Tabs w
theorem SW.ext {w0 w w':World} {CS:List Value} {s kv:Value} {b1 b2 b3:Nat} (h:SW w0 w CS s kv b1 b2 b3) (x:Ext w w'):SW w0 w' CS s kv b1 b2 b3:=
  ⟨h.x.trans x,h.d.ext x,h.r1.ext x,h.r2.ext x,h.sx.ext x,h.r3.ext x,h.q.ext x,Tabs.ext h.t x⟩
theorem one_xs {w:World} {b:Nat} {s:Value} {xs:List Ix.Post} (r:Row w b 49 [s]) (h:Sl w s xs):Sl w (.slice (some ⟨b,0,none⟩) 1 1) [XsL.mk xs]:=
  row_Sl (xs:=[XsL.mk xs]) (css:=[[s]]) r ⟨⟨s,rfl,h⟩,trivial⟩ (Nat.le_refl _) (by simp)
theorem one_dc {w:World} {b:Nat} {CS:List Value} {d:Dc} (r:Row w b 28 CS) (h:DcAt w (.agg CS.toArray) d):Sl w (.slice (some ⟨b,0,none⟩) 1 1) [d]:=by
  obtain⟨sv,tv,nv,e,h1,h2,h3⟩:=h
  have e':CS=[int d.rid,str d.rname,int d.len,int d.day,sv,tv,nv]:=by simpa using e
  exact row_Sl (xs:=[d]) (css:=[CS]) (by simpa using r) ⟨⟨sv,tv,nv,e',h1,h2,h3⟩,trivial⟩ (Nat.le_refl _) (by simp)
theorem one_rf {w:World} {b:Nat} (r:Row w b 106 [int 4,int 3]):Sl w (.slice (some ⟨b,0,none⟩) 1 1) ([⟨4,3⟩]:List Rf):=
  row_Sl (xs:=([⟨4,3⟩]:List Rf)) (css:=[[int 4,int 3]]) r ⟨rfl,trivial⟩ (Nat.le_refl _) (by simp)
theorem all_ex {w w':World} {u:Value} (h:Ext w w'∧Sl w' u (if [XsL.mk smX].length=[smD].length then allF [smD] thenQ else [])):Sl w' u ([⟨4,3⟩]:List Rf)∧Ext w w':=by
  rw [if_pos (show [XsL.mk smX].length=[smD].length from rfl),sm_all] at h
  exact⟨h.2,h.1⟩
theorem all_ex0 {w w':World} {u:Value} (h:Ext w w'∧Sl w' u (if ([]:List XsL).length=[smD].length then allF [smD] thenQ else [])):Sl w' u ([]:List Rf)∧Ext w w':=by
  rw [if_neg (by simp)] at h
  exact⟨h.2,h.1⟩
theorem sm_K (i:Nat) (x:XsL) (d:Dc) (_:[XsL.mk smX].length=[smD].length) (hx:[XsL.mk smX][i]?=some x) (hd:[smD][i]?=some d):Fits x.xs∧Linked x.xs d:=by
  rcases i with _|i
  · simp at hx hd
    subst hx;subst hd
    exact⟨sm_fits,sm_linked⟩
  · simp at hx
set_option maxHeartbeats 8000000 in
set_option maxRecDepth 8000 in
theorem sawake_any (w:World) (hT:Tabs w):Calls Tryz.prog 39 #[] w (Rt fun u w'=>u=.bool true∧Ext w w'):=by
  refine calls_E (n:=54) (args:=[]) Tryz.func39 rfl Tryz.ntmps39 (by simp) ?_
  have ce:=sample92_any w
  (repeat' (first|(refine EL_call Z Z (entersF Z Z en92) ce (fun vC wC hC=>?_);obtain⟨xC,dC⟩:=hC)|(refine at_EL ?_;first|refine eN ?_|refine eV Z Z (zB Z Z) ?_)|(refine at_K ?_;first|refine K_then ?_)|(refine at_E ?_;first|refine E_seq ?_|refine E_region ?_)))
  have hD:=dC
  obtain⟨sv,tv,nv,rfl,q1,q2,q3⟩:=dC
  obtain⟨a1,c1,rfl,_,_,_⟩:=q1.sl
  obtain⟨a2,c2,rfl,_,_,_⟩:=q2.sl
  obtain⟨a3,c3,rfl,_,_,_⟩:=q3.sl
  refine EL_alloc Z Z Z (fun b1 w1 x1 hb1 r10=>?_)
  refine EL_storeP (cs:=[int smD.rid,str smD.rname,int smD.len,int smD.day,.slice a1 smD.sp.length c1,.slice a2 smD.tiers.length c2,.slice a3 smD.notes.length c3]) r10 x1 (by omega) Z Z Z Z Z Z Z Z (Nat.le_refl _) (fun w2 r11 x2 k2=>?_)
  have r1:Row w2 b1 28 [int smD.rid,str smD.rname,int smD.len,int smD.day,.slice a1 smD.sp.length c1,.slice a2 smD.tiers.length c2,.slice a3 smD.notes.length c3]:=r11
  clear r10 r11 k2 q1 q2 q3
  replace hD:=hD.ext x2
  have hX:=xC.trans x2
  have cb:=Ix.rbuild_any smD _ w2 hD sm_tierIn (by decide)
  (repeat' (first|refine eV Z Z (val_loadA Z Z Z r1.at rfl) ?_|(refine EL_call Z Z (entersF Z Z en48) cb (fun vB wB hB=>?_);obtain⟨xB,s,rfl,sX0⟩:=hB)|(refine at_EL ?_;first|refine eN ?_)|(refine at_K ?_;first|refine K_then ?_)|(refine at_E ?_;first|refine E_seq ?_|refine E_region ?_)))
  have sX:Sl wB s smX:=sX0
  clear sX0
  obtain⟨sa,sc,rfl,_,_,_⟩:=sX.sl
  refine EL_alloc Z Z Z (fun b2 w3 x3 hb2 r20=>?_)
  refine EL_storeP (cs:=[.slice sa smX.length sc]) r20 x3 (by omega) Z Z Z Z Z Z Z Z (Nat.le_refl _) (fun w4 r21 x4 k4=>?_)
  have r2:Row w4 b2 49 [.slice sa smX.length sc]:=r21
  clear r20 r21 k4
  replace r1:=r1.ext (xB.trans x4)
  replace hD:=hD.ext (xB.trans x4)
  replace hX:=hX.trans (xB.trans x4)
  replace sX:=sX.ext x4
  (repeat' (first|(refine EL_call Z Z (entersF Z Z en93) (word93_any baT _) (fun vE wE hE=>?_);obtain⟨rfl,xE⟩:=hE)|(refine EL_call Z Z (entersF Z Z en93) (word93_any miT _) (fun vE wE2 hE=>?_);obtain⟨rfl,xE2⟩:=hE)|(refine EL_call Z Z (entersF Z Z en57) (join57_any 4 (textQ 2 baT) (textQ 2 miT) (textV 2 baT) (textV 2 miT) _ ⟨_,rfl,SlG.nil⟩ ⟨_,rfl,SlG.nil⟩) (fun vJ wJ hJ=>?_);obtain⟨xJ,qJ⟩:=hJ)|(refine at_EL ?_;first|refine eN ?_)|(refine at_K ?_;first|refine K_then ?_)|(refine at_E ?_;first|refine E_seq ?_|refine E_region ?_)))
  have qJ0:=qJ
  obtain⟨kv,rfl,sK⟩:=qJ
  obtain⟨ka,kc,rfl,_,_,_⟩:=sK.sl
  have x5:=xE.trans (xE2.trans xJ)
  refine EL_alloc Z Z Z (fun b3 w6 x6 hb3 r30=>?_)
  refine EL_storeP (cs:=[int 4,int 0,str [],.slice ka 2 kc]) r30 x6 (by omega) Z Z Z Z Z Z Z Z (Nat.le_refl _) (fun w7 r31 x7 k7=>?_)
  have r3:Row w7 b3 36 [int 4,int 0,str [],.slice ka 2 kc]:=r31
  clear r30 r31 k7
  have x57:=x5.trans x7
  have I:SW w w7 [int smD.rid,str smD.rname,int smD.len,int smD.day,.slice a1 smD.sp.length c1,.slice a2 smD.tiers.length c2,.slice a3 smD.notes.length c3] (.slice sa smX.length sc) (.slice ka 2 kc) b1 b2 b3:=⟨hX.trans x57,hD.ext x57,r1.ext x57,r2.ext x57,sX.ext x57,r3,qJ0.ext x7,Tabs.ext hT (hX.trans x57)⟩
  clear r1 r2 r3 hD hX sX qJ0 sK
  (repeat' (first|(refine at_EL ?_;first|refine eN ?_)|(refine at_K ?_;first|refine K_then ?_)|(refine at_E ?_;first|refine E_seq ?_)))
  refine E.sub (M:=[(1,.pointer (some ⟨b1,0,none⟩)),(2,.pointer (some ⟨b2,0,none⟩)),(3,.pointer (some ⟨b3,0,none⟩))]) ⟨rfl,rfl,rfl,trivial⟩ ?_
  refine E_dm 44 mixedOk (by kernel_rfl) Z ?_
  (repeat' (first|refine yV Z Z (fun wq _ xq=>val_loadA Z Z Z (I.ext xq).r1.at rfl) ?_|refine yV Z Z (fun wq _ xq=>val_loadA (cs:=[.slice sa smX.length sc]) Z Z Z (I.ext xq).r2.at rfl) ?_|refine yV Z Z (fun wq _ xq=>val_loadA Z Z Z (I.ext xq).r3.at rfl) ?_|refine RQ_call Z Z (fun _ _ _=>entersF Z Z en93) (fun wq xq=>word93_any baT wq) ?_|refine RQ_call Z Z (fun _ _ _=>entersF Z Z en93) (fun wq xq=>word93_any miT wq) ?_|(refine RQ_callR (f:=57) (fun u w'=>QAt w' u (twoQ 1 (textQ 2 baT) (textQ 2 miT))) (fun _=>#[int 1,textV 2 baT,textV 2 miT]) Z Z (fun _ _ _ _ xe h=>QAt.ext h xe) (fun _ _ _=>entersF Z Z en57) (fun wq _ xq _=>?_) ?_;exact calls_mono (join57_any 1 (textQ 2 baT) (textQ 2 miT) _ _ wq ⟨_,rfl,SlG.nil⟩ ⟨_,rfl,SlG.nil⟩) (fun _ _ hh=>⟨hh.2,hh.1⟩))|(refine RQ_callV (f:=45) (v:=int 1) (fun δ=>#[.agg #[.slice sa smX.length sc],δ 13]) Z Z (fun _ _ _=>entersF Z Z en45) (fun wq δ xq hd=>?_) ?_;(have:=bound45_any sm_fits _ ok_and _ _ wq (I.ext xq).sx (hd 13 rfl _ rfl) (I.ext xq).t;rw [sm_bound] at this;exact this))|(refine RQ_callV (f:=42) (v:=int 3) (fun δ=>#[.agg #[.slice sa smX.length sc],int 2]) Z Z (fun _ _ _=>entersF Z Z en42) (fun wq δ xq hd=>?_) ?_;(have:=count42_any smX _ 2 wq sm_fits (I.ext xq).sx;rw [sm_count] at this;exact this))|(refine RQ_callR (f:=40) (fun u w'=>Sl w' u ([2,5]:List Int)) (fun _=>#[.agg #[.slice sa smX.length sc],int 2,str mstarT]) Z Z (fun _ _ _ _ xe h=>SlG.ext h xe) (fun _ _ _=>entersF Z Z en40) (fun wq _ xq _=>?_) ?_;(have:=text40_any smX _ 2 mstarT wq sm_fits (I.ext xq).sx (I.ext xq).t;rw [sm_text] at this;exact calls_mono this (fun _ _ hh=>⟨hh.2.any,hh.1⟩)))|refine RQ_lit Z Z Z (fun _=>rfl) Z Z Z Z ?_|(refine RQ_callV (f:=20) (v:=.bool true) (fun δ=>#[δ 23,δ 24]) Z Z (fun _ _ _=>entersF Z Z en20) (fun wq δ xq hd=>?_) ?_;(obtain⟨bb,e,_,rr⟩:=hd 24 rfl _ rfl;rw [e];have:=r1same_any [2,5] [2,5] _ _ wq (hd 23 rfl _ rfl) (lit_ints [2,5] (by simp) rr);rw [decide_eq_true rfl] at this;exact this))|(refine RQ_callR (f:=47) (fun u w'=>Sl w' u ([3]:List Int)) (fun _=>#[.agg #[.slice sa smX.length sc],.agg #[int smD.rid,str smD.rname,int smD.len,int smD.day,.slice a1 smD.sp.length c1,.slice a2 smD.tiers.length c2,.slice a3 smD.notes.length c3] ,.agg #[int 4,int 0,str [],.slice ka 2 kc] ]) Z Z (fun _ _ _ _ xe h=>SlG.ext h xe) (fun _ _ _=>entersF Z Z en47) (fun wq _ xq _=>?_) ?_;(have:=run47_any sm_light sm_fits sm_linked thenQ ok_then _ _ _ wq (I.ext xq).sx (I.ext xq).d (I.ext xq).q (I.ext xq).t;rw [sm_then] at this;exact calls_mono this (fun _ _ hh=>⟨hh.2.any,hh.1⟩)))|(refine RQ_callV (f:=20) (v:=.bool true) (fun δ=>#[δ 31,δ 32]) Z Z (fun _ _ _=>entersF Z Z en20) (fun wq δ xq hd=>?_) ?_;(obtain⟨bb,e,_,rr⟩:=hd 32 rfl _ rfl;rw [e];have:=r1same_any [3] [3] _ _ wq (hd 31 rfl _ rfl) (lit_ints [3] (by simp) rr);rw [decide_eq_true rfl] at this;exact this))|(refine RQ_callR (f:=51) (fun u w'=>Sl w' u ([⟨4,3⟩]:List Rf)) (fun δ=>#[δ 37,δ 39,.agg #[int 4,int 0,str [],.slice ka 2 kc] ]) Z Z (fun _ _ _ _ xe h=>SlG.ext h xe) (fun _ _ _=>entersF Z Z en51) (fun wq δ xq hd=>?_) ?_;(obtain⟨g5,e5,_,r5⟩:=hd 37 rfl _ rfl;obtain⟨g6,e6,_,r6⟩:=hd 39 rfl _ rfl;rw [e5,e6];exact calls_mono (sall51_any [smD] [XsL.mk smX] thenQ ok_then _ _ _ wq (one_xs r5 (I.ext xq).sx) (one_dc r6 (I.ext xq).d) (I.ext xq).q (I.ext xq).t (by simp) (fun d hd=>by rw [List.mem_singleton] at hd;subst hd;exact sm_light) sm_K) (fun _ _ hh=>all_ex hh)))|refine yV Z Z (fun _ _ _=>val_build (vs:=[(0,int 4),(1,int 3)]) [int 4,int 3] rfl rfl rfl) ?_|(refine RQ_callV (f:=50) (v:=.bool true) (fun δ=>#[δ 41,δ 43]) Z Z (fun _ _ _=>entersF Z Z en50) (fun wq δ xq hd=>?_) ?_;(obtain⟨bb,e,_,rr⟩:=hd 43 rfl _ rfl;rw [e];have:=refs50_any ([⟨4,3⟩]:List Rf) [⟨4,3⟩] _ _ wq (hd 41 rfl _ rfl) (one_rf rr);rw [decide_eq_true rfl] at this;exact this))|(refine RQ_callR (f:=51) (fun u w'=>Sl w' u ([]:List Rf)) (fun δ=>#[.slice none 0 0,δ 48,.agg #[int 4,int 0,str [],.slice ka 2 kc] ]) Z Z (fun _ _ _ _ xe h=>SlG.ext h xe) (fun _ _ _=>entersF Z Z en51) (fun wq δ xq hd=>?_) ?_;(obtain⟨g6,e6,_,r6⟩:=hd 48 rfl _ rfl;rw [e6];exact calls_mono (sall51_any [smD] [] thenQ ok_then _ _ _ wq SlG.nil (one_dc r6 (I.ext xq).d) (I.ext xq).q (I.ext xq).t (by simp) (fun d hd=>by rw [List.mem_singleton] at hd;subst hd;exact sm_light) (fun _ _ _ e=>by simp at e)) (fun _ _ hh=>all_ex0 hh)))|(refine RQ_valV (v:=int 0) Z Z (fun wq δ xq hd=>?_) ?_;(obtain⟨la,lc,e,_⟩:=(hd 50 rfl _ rfl).sl;exact val_len_sl (m:=0) Z (show some (δ 50)=_ by rw [e];rfl)))|refine RQ_end (fun wq δ xq hR=>?_)|(refine at_EL ?_;first|refine eN ?_|refine eV Z Z (zB Z Z) ?_)|(refine at_K ?_;first|refine K_then ?_)|(refine at_E ?_;first|refine E_ret ?_)|(refine at_RQ ?_;first|refine yO Z Z ?_|refine yV Z Z (fun _ _ _=>zA Z Z) ?_|(refine at_binR ?_;first|refine yD Z Z (fun _ _ _=>zM Z Z Z) (fun hh=>?_) (fun hh=>?_))|refine yV Z Z (fun _ _ _=>zC Z Z Z) ?_|refine yV Z Z (fun _ _ _=>zD Z Z Z) ?_)))
  all_goals (first|(exfalso;omega)|skip)
  exact ret_1 Z Z ⟨rfl,(I.ext xq).x⟩
end Go.Proofs.YtnifmbbpfdghmaaGreatDoor
