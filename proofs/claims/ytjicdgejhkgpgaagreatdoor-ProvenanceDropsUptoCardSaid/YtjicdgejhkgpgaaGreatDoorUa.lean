/-
  Own text of the proof.
-/
import Derived.Test.YtjicdgejhkgpgaaGreatDoorY9
import Derived.Test.YtjicdgejhkgpgaaGreatDoorYt
import Derived.Test.YtjicdgejhkgpgaaGreatDoorYg
set_option linter.all false
set_option maxHeartbeats 8000000
set_option maxRecDepth 8000
namespace Go.Proofs.YtjicdgejhkgpgaaGreatDoor
section
open Go.RowKit Go.En Go.Pv
attribute [local irreducible] E EL K Val Enters Rt Calls bodyPost Code.wp RQ
theorem C2r (w:World):Calls Tryz.prog 46 #[] w (Rt fun u w'=>(∃ X,u=.agg X.toArray∧Rep.at_ (fun b=>w.heap.size≤b) w' xD X)∧Ext w w'):=by
  refine A6 (n:=17) (args:=[]) Tryz.func46 rfl Tryz.ntmps46 (by simp) ?_
  refine B4 ?_;refine A9 ?_
  refine C3 Z Z Z (fun bA wA xA hbA rA=>?_)
  have hX:=xA;have lA:=rA.lt;have qA:=xA.size
  refine eN ?_;refine G8 ?_
  refine B4 ?_;refine A9 ?_
  refine eV Z Z (B6 (t:=88) (vs:=[(0,str [116,101,120,116]),(1,int 0),(2,int 1),(3,int (-1))]) [str [116,101,120,116],int 0,int 1,int (-1)] rfl rfl rfl) ?_
  refine eV Z Z (B6 (t:=88) (vs:=[(0,str [119,111,114,100]),(1,int 2),(2,int 2)]) [str [119,111,114,100],int 2,int 2,int 0] rfl rfl rfl) ?_
  refine eV Z Z (B6 (t:=88) (vs:=[(0,str [109,111,114,112,104]),(1,int 3),(2,int 3),(3,int 1)]) [str [109,111,114,112,104],int 3,int 3,int 1] rfl rfl rfl) ?_
  refine eL (t:=69) Z Z Z Z Z Z Z Z (fun bTi wTi xTi hbTi rTi=>?_)
  replace hX:=hX.trans xTi;have qTi:=xTi.size;have lTi:=rTi.lt
  replace rA:=rA.ext xTi
  refine eV Z Z (zB Z Z) ?_
  refine eN ?_;refine G8 ?_
  refine B4 ?_;refine A9 ?_
  refine eV Z Z (B6 (t:=68) (vs:=[(0,int 3),(2,int 900)]) [int 3,str [],int 900,int 0,.slice none 0 0] rfl rfl rfl) ?_
  refine eV Z Z (zA Z Z) ?_
  refine eV Z Z (B6 (t:=76) (vs:=[(1,int 900)]) [int 0,int 900] rfl rfl rfl) ?_
  refine eV Z Z (B6 (t:=80) (vs:=[(0,int 2),(3,.agg #[int 0,int 900] )]) [int 2,int 0,int 0,int 0,int 900,int 0,str []] rfl rfl rfl) ?_
  refine eV Z Z (B6 (t:=76) (vs:=[(1,int 300)]) [int 0,int 300] rfl rfl rfl) ?_
  refine eV Z Z (B6 (t:=80) (vs:=[(0,int 5),(1,int 1),(2,int 2),(3,.agg #[int 0,int 300] ),(5,str [98,97])]) [int 5,int 1,int 2,int 0,int 300,int 0,str [98,97]] rfl rfl rfl) ?_
  refine eV Z Z (B6 (t:=76) (vs:=[(0,int 300),(1,int 500)]) [int 300,int 500] rfl rfl rfl) ?_
  refine eV Z Z (B6 (t:=80) (vs:=[(0,int 7),(1,int 1),(2,int 2),(3,.agg #[int 300,int 500] ),(5,str [98,97,112,105])]) [int 7,int 1,int 2,int 300,int 500,int 0,str [98,97,112,105]] rfl rfl rfl) ?_
  refine eV Z Z (B6 (t:=80) (vs:=[(0,int 8),(1,int 2),(2,int 7),(5,str [98,97])]) [int 8,int 2,int 7,int 0,int 0,int 0,str [98,97]] rfl rfl rfl) ?_
  refine eL (t:=70) Z Z Z Z Z Z Z Z (fun bNo wNo xNo hbNo rNo=>?_)
  replace hX:=hX.trans xNo;have qNo:=xNo.size;have lNo:=rNo.lt
  replace rA:=rA.ext xNo
  replace rTi:=rTi.ext xNo
  refine eV Z Z (B6 (t:=72) (vs:=[(0,.agg #[int 3,str [],int 900,int 0,.slice none 0 0] ),(1,.slice (some ⟨bTi,0,none⟩) 3 3),(2,.slice (some ⟨bNo,0,none⟩) 4 4)]) [int 3,str [],int 900,int 0,.slice none 0 0,.slice (some ⟨bTi,0,none⟩) 3 3,.slice (some ⟨bNo,0,none⟩) 4 4] rfl rfl rfl) ?_
  refine B7 (cs:=[int 3,str [],int 900,int 0,.slice none 0 0,.slice (some ⟨bTi,0,none⟩) 3 3,.slice (some ⟨bNo,0,none⟩) 4 4]) rA hX (by omega) Z Z Z Z Z Z Z Z (Nat.le_refl _) (fun wZ rZ xZ kZ=>?_)
  have rZ2:Row wZ bA 72 [int 3,str [],int 900,int 0,.slice none 0 0,.slice (some ⟨bTi,0,none⟩) 3 3,.slice (some ⟨bNo,0,none⟩) 4 4]:=rZ
  replace rTi:=kZ.row rTi (fun e=>by cases e;omega)
  replace rNo:=kZ.row rNo (fun e=>by cases e;omega)
  have sTi:SlG (fun b=>w.heap.size≤b) wZ (.slice (some ⟨bTi,0,none⟩) 3 3) xT:=G9 (xs:=xT) (css:=xT.map A9g) rTi (A9f _ _) (by omega) (Nat.le_refl _) (by decide)
  have sNo:SlG (fun b=>w.heap.size≤b) wZ (.slice (some ⟨bNo,0,none⟩) 4 4) xN:=G9 (xs:=xN) (css:=xN.map B9) rNo (O5 _ _) (by omega) (Nat.le_refl _) (by decide)
  refine eN ?_;refine G8 ?_;refine C1g ?_
  exact A9m Z Z Z rZ2.at rfl ⟨⟨_,rfl,_,_,_,rfl,SlG.nil,sTi,sNo⟩,xZ⟩
def Gs (w0:World) (bL:Nat):Nat→Prop:=fun b=>w0.heap.size≤b∧b≠bL
structure Smp (w0 w:World) (bL:Nat) (pv uv sv fv g1 n1 r1 g2 n2 r2:Value):Prop where
  lo:w0.heap.size≤bL
  row:Row w bL 65 [int 1,g1,int 1,.slice none 0 0,int 0,n1,.slice none 0 0,r1,int 2,g2,int 2,.slice none 0 0,int 0,n2,.slice none 0 0,r2]
  segs:SlG (Gs w0 bL) w pv xSegs
  units:SlG (Gs w0 bL) w uv xUnits
  steps:SlG (Gs w0 bL) w sv xSteps
  final:SlG (Gs w0 bL) w fv ([1]:List Int)
  f1:SlG (Gs w0 bL) w g1 ([2,1]:List Int)
  s1:SlG (Gs w0 bL) w n1 xE1.senses
  e1:SlG (Gs w0 bL) w r1 xE1.refs
  f2:SlG (Gs w0 bL) w g2 ([4,3]:List Int)
  s2:SlG (Gs w0 bL) w n2 xE2.senses
  e2:SlG (Gs w0 bL) w r2 xE2.refs
theorem A2p (w:World):Calls Tryz.prog 47 #[] w (Rt fun u w'=>(∃ bL pv uv sv fv g1 n1 r1 g2 n2 r2,u=.agg #[pv,str [111,110,101],uv,.slice none 0 0,.slice none 0 0,int 2,sv,fv,.slice (some ⟨bL,0,none⟩) 2 2]∧Smp w w' bL pv uv sv fv g1 n1 r1 g2 n2 r2)∧Ext w w'):=by
  refine A6 (n:=45) (args:=[]) Tryz.func47 rfl Tryz.ntmps47 (by simp) ?_
  refine B4 ?_;refine A9 ?_
  refine C3 Z Z Z (fun bA wA xA hbA rA=>?_)
  have hX:=xA;have lA:=rA.lt;have qA:=xA.size
  refine eN ?_;refine G8 ?_
  refine B4 ?_;refine A9 ?_
  refine eV Z Z (B6 (t:=144) (vs:=[(0,str [97])]) [str [97],int 0] rfl rfl rfl) ?_
  refine eV Z Z (B6 (t:=144) (vs:=[(0,str [98])]) [str [98],int 0] rfl rfl rfl) ?_
  refine eV Z Z (B6 (t:=144) (vs:=[(0,str [105])]) [str [105],int 0] rfl rfl rfl) ?_
  refine eV Z Z (B6 (t:=144) (vs:=[(0,str [112])]) [str [112],int 0] rfl rfl rfl) ?_
  refine eL (t:=23) Z Z Z Z Z Z Z Z (fun bP wP xP hbP rP=>?_)
  replace hX:=hX.trans xP;have qP:=xP.size;have lP:=rP.lt
  replace rA:=rA.ext xP
  refine eV Z Z (B6 (t:=25) (vs:=[(0,.slice (some ⟨bP,0,none⟩) 4 4)]) [.slice (some ⟨bP,0,none⟩) 4 4] rfl rfl rfl) ?_
  refine C1 (t:=25) Z Z Z Z Z Z Z Z Z Z (fun bQ wQ xQ hbQ rQ=>?_)
  replace hX:=hX.trans xQ;have qQ:=xQ.size;have lQ:=rQ.lt
  replace rA:=rA.ext xQ
  replace rP:=rP.ext xQ
  refine eN ?_;refine G8 ?_
  refine B4 ?_;refine A9 ?_
  refine eL (t:=32) Z Z Z Z Z Z Z Z (fun bU0 wU0 xU0 hbU0 rU0=>?_)
  replace hX:=hX.trans xU0;have qU0:=xU0.size;have lU0:=rU0.lt
  replace rA:=rA.ext xU0
  replace rP:=rP.ext xU0
  replace rQ:=rQ.ext xU0
  refine eV Z Z (B6 (t:=108) (vs:=[(0,str [97]),(1,.slice (some ⟨bU0,0,none⟩) 1 1)]) [str [97],.slice (some ⟨bU0,0,none⟩) 1 1] rfl rfl rfl) ?_
  refine eL (t:=32) Z Z Z Z Z Z Z Z (fun bU1 wU1 xU1 hbU1 rU1=>?_)
  replace hX:=hX.trans xU1;have qU1:=xU1.size;have lU1:=rU1.lt
  replace rA:=rA.ext xU1
  replace rP:=rP.ext xU1
  replace rQ:=rQ.ext xU1
  replace rU0:=rU0.ext xU1
  refine eV Z Z (B6 (t:=108) (vs:=[(0,str [98]),(1,.slice (some ⟨bU1,0,none⟩) 1 1)]) [str [98],.slice (some ⟨bU1,0,none⟩) 1 1] rfl rfl rfl) ?_
  refine eL (t:=32) Z Z Z Z Z Z Z Z (fun bU2 wU2 xU2 hbU2 rU2=>?_)
  replace hX:=hX.trans xU2;have qU2:=xU2.size;have lU2:=rU2.lt
  replace rA:=rA.ext xU2
  replace rP:=rP.ext xU2
  replace rQ:=rQ.ext xU2
  replace rU0:=rU0.ext xU2
  replace rU1:=rU1.ext xU2
  refine eV Z Z (B6 (t:=108) (vs:=[(0,str [105]),(1,.slice (some ⟨bU2,0,none⟩) 1 1)]) [str [105],.slice (some ⟨bU2,0,none⟩) 1 1] rfl rfl rfl) ?_
  refine eL (t:=32) Z Z Z Z Z Z Z Z (fun bU3 wU3 xU3 hbU3 rU3=>?_)
  replace hX:=hX.trans xU3;have qU3:=xU3.size;have lU3:=rU3.lt
  replace rA:=rA.ext xU3
  replace rP:=rP.ext xU3
  replace rQ:=rQ.ext xU3
  replace rU0:=rU0.ext xU3
  replace rU1:=rU1.ext xU3
  replace rU2:=rU2.ext xU3
  refine eV Z Z (B6 (t:=108) (vs:=[(0,str [112]),(1,.slice (some ⟨bU3,0,none⟩) 1 1)]) [str [112],.slice (some ⟨bU3,0,none⟩) 1 1] rfl rfl rfl) ?_
  refine eL (t:=26) Z Z Z Z Z Z Z Z (fun bU wU xU hbU rU=>?_)
  replace hX:=hX.trans xU;have qU:=xU.size;have lU:=rU.lt
  replace rA:=rA.ext xU
  replace rP:=rP.ext xU
  replace rQ:=rQ.ext xU
  replace rU0:=rU0.ext xU
  replace rU1:=rU1.ext xU
  replace rU2:=rU2.ext xU
  replace rU3:=rU3.ext xU
  refine eV Z Z (zB Z Z) ?_
  refine eN ?_;refine G8 ?_
  refine B4 ?_;refine A9 ?_
  refine eV Z Z (B6 (t:=146) (vs:=[(1,int 1),(2,int 1)]) [int 0,int 1,int 1] rfl rfl rfl) ?_
  refine eV Z Z (B6 (t:=146) (vs:=[(0,int 1),(1,int 2),(2,int 1)]) [int 1,int 2,int 1] rfl rfl rfl) ?_
  refine eL (t:=31) Z Z Z Z Z Z Z Z (fun bS wS xS hbS rS=>?_)
  replace hX:=hX.trans xS;have qS:=xS.size;have lS:=rS.lt
  replace rA:=rA.ext xS
  replace rP:=rP.ext xS
  replace rQ:=rQ.ext xS
  replace rU0:=rU0.ext xS
  replace rU1:=rU1.ext xS
  replace rU2:=rU2.ext xS
  replace rU3:=rU3.ext xS
  replace rU:=rU.ext xS
  refine eL (t:=32) Z Z Z Z Z Z Z Z (fun bF wF xF hbF rF=>?_)
  replace hX:=hX.trans xF;have qF:=xF.size;have lF:=rF.lt
  replace rA:=rA.ext xF
  replace rP:=rP.ext xF
  replace rQ:=rQ.ext xF
  replace rU0:=rU0.ext xF
  replace rU1:=rU1.ext xF
  replace rU2:=rU2.ext xF
  replace rU3:=rU3.ext xF
  replace rU:=rU.ext xF
  replace rS:=rS.ext xF
  refine eV Z Z (B6 (t:=34) (vs:=[(0,int 2),(1,.slice (some ⟨bS,0,none⟩) 2 2),(2,.slice (some ⟨bF,0,none⟩) 1 1)]) [int 2,.slice (some ⟨bS,0,none⟩) 2 2,.slice (some ⟨bF,0,none⟩) 1 1] rfl rfl rfl) ?_
  refine C1 (t:=34) Z Z Z Z Z Z Z Z Z Z (fun bM wM xM hbM rM=>?_)
  replace hX:=hX.trans xM;have qM:=xM.size;have lM:=rM.lt
  replace rA:=rA.ext xM
  replace rP:=rP.ext xM
  replace rQ:=rQ.ext xM
  replace rU0:=rU0.ext xM
  replace rU1:=rU1.ext xM
  replace rU2:=rU2.ext xM
  replace rU3:=rU3.ext xM
  replace rU:=rU.ext xM
  replace rS:=rS.ext xM
  replace rF:=rF.ext xM
  refine eN ?_;refine G8 ?_
  refine B4 ?_;refine A9 ?_
  refine eL (t:=32) Z Z Z Z Z Z Z Z (fun bG1 wG1 xG1 hbG1 rG1=>?_)
  replace hX:=hX.trans xG1;have qG1:=xG1.size;have lG1:=rG1.lt
  replace rA:=rA.ext xG1
  replace rP:=rP.ext xG1
  replace rQ:=rQ.ext xG1
  replace rU0:=rU0.ext xG1
  replace rU1:=rU1.ext xG1
  replace rU2:=rU2.ext xG1
  replace rU3:=rU3.ext xG1
  replace rU:=rU.ext xG1
  replace rS:=rS.ext xG1
  replace rF:=rF.ext xG1
  replace rM:=rM.ext xG1
  refine eV Z Z (B6 (t:=148) (vs:=[(0,str [100,111,103])]) [str [100,111,103],str []] rfl rfl rfl) ?_
  refine eL (t:=62) Z Z Z Z Z Z Z Z (fun bN1 wN1 xN1 hbN1 rN1=>?_)
  replace hX:=hX.trans xN1;have qN1:=xN1.size;have lN1:=rN1.lt
  replace rA:=rA.ext xN1
  replace rP:=rP.ext xN1
  replace rQ:=rQ.ext xN1
  replace rU0:=rU0.ext xN1
  replace rU1:=rU1.ext xN1
  replace rU2:=rU2.ext xN1
  replace rU3:=rU3.ext xN1
  replace rU:=rU.ext xN1
  replace rS:=rS.ext xN1
  replace rF:=rF.ext xN1
  replace rM:=rM.ext xN1
  replace rG1:=rG1.ext xN1
  refine eV Z Z (B6 (t:=39) (vs:=[(0,int 3),(1,int 5)]) [int 3,int 5] rfl rfl rfl) ?_
  refine eL (t:=46) Z Z Z Z Z Z Z Z (fun bR1 wR1 xR1 hbR1 rR1=>?_)
  replace hX:=hX.trans xR1;have qR1:=xR1.size;have lR1:=rR1.lt
  replace rA:=rA.ext xR1
  replace rP:=rP.ext xR1
  replace rQ:=rQ.ext xR1
  replace rU0:=rU0.ext xR1
  replace rU1:=rU1.ext xR1
  replace rU2:=rU2.ext xR1
  replace rU3:=rU3.ext xR1
  replace rU:=rU.ext xR1
  replace rS:=rS.ext xR1
  replace rF:=rF.ext xR1
  replace rM:=rM.ext xR1
  replace rG1:=rG1.ext xR1
  replace rN1:=rN1.ext xR1
  refine eV Z Z (B6 (t:=65) (vs:=[(0,int 1),(1,.slice (some ⟨bG1,0,none⟩) 2 2),(2,int 1),(5,.slice (some ⟨bN1,0,none⟩) 1 1),(7,.slice (some ⟨bR1,0,none⟩) 1 1)]) [int 1,.slice (some ⟨bG1,0,none⟩) 2 2,int 1,.slice none 0 0,int 0,.slice (some ⟨bN1,0,none⟩) 1 1,.slice none 0 0,.slice (some ⟨bR1,0,none⟩) 1 1] rfl rfl rfl) ?_
  refine eL (t:=32) Z Z Z Z Z Z Z Z (fun bG2 wG2 xG2 hbG2 rG2=>?_)
  replace hX:=hX.trans xG2;have qG2:=xG2.size;have lG2:=rG2.lt
  replace rA:=rA.ext xG2
  replace rP:=rP.ext xG2
  replace rQ:=rQ.ext xG2
  replace rU0:=rU0.ext xG2
  replace rU1:=rU1.ext xG2
  replace rU2:=rU2.ext xG2
  replace rU3:=rU3.ext xG2
  replace rU:=rU.ext xG2
  replace rS:=rS.ext xG2
  replace rF:=rF.ext xG2
  replace rM:=rM.ext xG2
  replace rG1:=rG1.ext xG2
  replace rN1:=rN1.ext xG2
  replace rR1:=rR1.ext xG2
  refine eV Z Z (B6 (t:=148) (vs:=[(0,str [80,76])]) [str [80,76],str []] rfl rfl rfl) ?_
  refine eL (t:=62) Z Z Z Z Z Z Z Z (fun bN2 wN2 xN2 hbN2 rN2=>?_)
  replace hX:=hX.trans xN2;have qN2:=xN2.size;have lN2:=rN2.lt
  replace rA:=rA.ext xN2
  replace rP:=rP.ext xN2
  replace rQ:=rQ.ext xN2
  replace rU0:=rU0.ext xN2
  replace rU1:=rU1.ext xN2
  replace rU2:=rU2.ext xN2
  replace rU3:=rU3.ext xN2
  replace rU:=rU.ext xN2
  replace rS:=rS.ext xN2
  replace rF:=rF.ext xN2
  replace rM:=rM.ext xN2
  replace rG1:=rG1.ext xN2
  replace rN1:=rN1.ext xN2
  replace rR1:=rR1.ext xN2
  replace rG2:=rG2.ext xN2
  refine eV Z Z (B6 (t:=39) (vs:=[(0,int 3),(1,int 5)]) [int 3,int 5] rfl rfl rfl) ?_
  refine eV Z Z (B6 (t:=39) (vs:=[(0,int 3),(1,int 7)]) [int 3,int 7] rfl rfl rfl) ?_
  refine eL (t:=46) Z Z Z Z Z Z Z Z (fun bR2 wR2 xR2 hbR2 rR2=>?_)
  replace hX:=hX.trans xR2;have qR2:=xR2.size;have lR2:=rR2.lt
  replace rA:=rA.ext xR2
  replace rP:=rP.ext xR2
  replace rQ:=rQ.ext xR2
  replace rU0:=rU0.ext xR2
  replace rU1:=rU1.ext xR2
  replace rU2:=rU2.ext xR2
  replace rU3:=rU3.ext xR2
  replace rU:=rU.ext xR2
  replace rS:=rS.ext xR2
  replace rF:=rF.ext xR2
  replace rM:=rM.ext xR2
  replace rG1:=rG1.ext xR2
  replace rN1:=rN1.ext xR2
  replace rR1:=rR1.ext xR2
  replace rG2:=rG2.ext xR2
  replace rN2:=rN2.ext xR2
  refine eV Z Z (B6 (t:=65) (vs:=[(0,int 2),(1,.slice (some ⟨bG2,0,none⟩) 2 2),(2,int 2),(5,.slice (some ⟨bN2,0,none⟩) 1 1),(7,.slice (some ⟨bR2,0,none⟩) 2 2)]) [int 2,.slice (some ⟨bG2,0,none⟩) 2 2,int 2,.slice none 0 0,int 0,.slice (some ⟨bN2,0,none⟩) 1 1,.slice none 0 0,.slice (some ⟨bR2,0,none⟩) 2 2] rfl rfl rfl) ?_
  refine eL (t:=35) Z Z Z Z Z Z Z Z (fun bL wL xL hbL rL=>?_)
  replace hX:=hX.trans xL;have qL:=xL.size;have lL:=rL.lt
  replace rA:=rA.ext xL
  replace rP:=rP.ext xL
  replace rQ:=rQ.ext xL
  replace rU0:=rU0.ext xL
  replace rU1:=rU1.ext xL
  replace rU2:=rU2.ext xL
  replace rU3:=rU3.ext xL
  replace rU:=rU.ext xL
  replace rS:=rS.ext xL
  replace rF:=rF.ext xL
  replace rM:=rM.ext xL
  replace rG1:=rG1.ext xL
  replace rN1:=rN1.ext xL
  replace rR1:=rR1.ext xL
  replace rG2:=rG2.ext xL
  replace rN2:=rN2.ext xL
  replace rR2:=rR2.ext xL
  refine eV Z Z (zB Z Z) ?_
  refine eN ?_;refine G8 ?_
  refine B4 ?_;refine A9 ?_
  refine eV Z Z (B8 Z Z Z rQ.at rfl) ?_
  refine eV Z Z (zA Z Z) ?_
  refine eV Z Z (B6 (t:=29) (vs:=[(0,str [111,110,101]),(1,.slice (some ⟨bU,0,none⟩) 4 4)]) [str [111,110,101],.slice (some ⟨bU,0,none⟩) 4 4,.slice none 0 0] rfl rfl rfl) ?_
  refine eV Z Z (B8 Z Z Z rM.at rfl) ?_
  refine eV Z Z (zA Z Z) ?_
  refine eV Z Z (B6 (t:=37) (vs:=[(0,.agg #[.slice (some ⟨bP,0,none⟩) 4 4] ),(1,.agg #[str [111,110,101],.slice (some ⟨bU,0,none⟩) 4 4,.slice none 0 0] ),(3,.agg #[int 2,.slice (some ⟨bS,0,none⟩) 2 2,.slice (some ⟨bF,0,none⟩) 1 1] ),(4,.slice (some ⟨bL,0,none⟩) 2 2)]) [.slice (some ⟨bP,0,none⟩) 4 4,str [111,110,101],.slice (some ⟨bU,0,none⟩) 4 4,.slice none 0 0,.slice none 0 0,int 2,.slice (some ⟨bS,0,none⟩) 2 2,.slice (some ⟨bF,0,none⟩) 1 1,.slice (some ⟨bL,0,none⟩) 2 2] rfl rfl rfl) ?_
  refine B7 (cs:=[.slice (some ⟨bP,0,none⟩) 4 4,str [111,110,101],.slice (some ⟨bU,0,none⟩) 4 4,.slice none 0 0,.slice none 0 0,int 2,.slice (some ⟨bS,0,none⟩) 2 2,.slice (some ⟨bF,0,none⟩) 1 1,.slice (some ⟨bL,0,none⟩) 2 2]) rA hX (by omega) Z Z Z Z Z Z Z Z (Nat.le_refl _) (fun wZ rZ xZ kZ=>?_)
  have rZ2:Row wZ bA 37 [.slice (some ⟨bP,0,none⟩) 4 4,str [111,110,101],.slice (some ⟨bU,0,none⟩) 4 4,.slice none 0 0,.slice none 0 0,int 2,.slice (some ⟨bS,0,none⟩) 2 2,.slice (some ⟨bF,0,none⟩) 1 1,.slice (some ⟨bL,0,none⟩) 2 2]:=rZ
  replace rP:=kZ.row rP (fun e=>by cases e;omega)
  replace rQ:=kZ.row rQ (fun e=>by cases e;omega)
  replace rU0:=kZ.row rU0 (fun e=>by cases e;omega)
  replace rU1:=kZ.row rU1 (fun e=>by cases e;omega)
  replace rU2:=kZ.row rU2 (fun e=>by cases e;omega)
  replace rU3:=kZ.row rU3 (fun e=>by cases e;omega)
  replace rU:=kZ.row rU (fun e=>by cases e;omega)
  replace rS:=kZ.row rS (fun e=>by cases e;omega)
  replace rF:=kZ.row rF (fun e=>by cases e;omega)
  replace rM:=kZ.row rM (fun e=>by cases e;omega)
  replace rG1:=kZ.row rG1 (fun e=>by cases e;omega)
  replace rN1:=kZ.row rN1 (fun e=>by cases e;omega)
  replace rR1:=kZ.row rR1 (fun e=>by cases e;omega)
  replace rG2:=kZ.row rG2 (fun e=>by cases e;omega)
  replace rN2:=kZ.row rN2 (fun e=>by cases e;omega)
  replace rR2:=kZ.row rR2 (fun e=>by cases e;omega)
  replace rL:=kZ.row rL (fun e=>by cases e;omega)
  have sP:SlG (Gs w bL) wZ (.slice (some ⟨bP,0,none⟩) 4 4) xSegs:=G9 (xs:=xSegs) (css:=xSegs.map phC) rP (C4n _ _) ⟨by omega,by omega⟩ (Nat.le_refl _) (by decide)
  have sU0:SlG (Gs w bL) wZ (.slice (some ⟨bU0,0,none⟩) 1 1) ([1]:List Int):=G9 (xs:=([1]:List Int)) (css:=[[int 1]]) rU0 ⟨rfl,trivial⟩ ⟨by omega,by omega⟩ (Nat.le_refl _) (by decide)
  have sU1:SlG (Gs w bL) wZ (.slice (some ⟨bU1,0,none⟩) 1 1) ([2]:List Int):=G9 (xs:=([2]:List Int)) (css:=[[int 2]]) rU1 ⟨rfl,trivial⟩ ⟨by omega,by omega⟩ (Nat.le_refl _) (by decide)
  have sU2:SlG (Gs w bL) wZ (.slice (some ⟨bU2,0,none⟩) 1 1) ([3]:List Int):=G9 (xs:=([3]:List Int)) (css:=[[int 3]]) rU2 ⟨rfl,trivial⟩ ⟨by omega,by omega⟩ (Nat.le_refl _) (by decide)
  have sU3:SlG (Gs w bL) wZ (.slice (some ⟨bU3,0,none⟩) 1 1) ([4]:List Int):=G9 (xs:=([4]:List Int)) (css:=[[int 4]]) rU3 ⟨rfl,trivial⟩ ⟨by omega,by omega⟩ (Nat.le_refl _) (by decide)
  have sU:SlG (Gs w bL) wZ (.slice (some ⟨bU,0,none⟩) 4 4) xUnits:=G9 (xs:=xUnits) (css:=[[str [97],.slice (some ⟨bU0,0,none⟩) 1 1],[str [98],.slice (some ⟨bU1,0,none⟩) 1 1],[str [105],.slice (some ⟨bU2,0,none⟩) 1 1],[str [112],.slice (some ⟨bU3,0,none⟩) 1 1] ]) rU ⟨⟨_,rfl,sU0⟩,⟨_,rfl,sU1⟩,⟨_,rfl,sU2⟩,⟨_,rfl,sU3⟩,trivial⟩ ⟨by omega,by omega⟩ (Nat.le_refl _) (by decide)
  have sS:SlG (Gs w bL) wZ (.slice (some ⟨bS,0,none⟩) 2 2) xSteps:=G9 (xs:=xSteps) (css:=xSteps.map stpC) rS (B9p _ _) ⟨by omega,by omega⟩ (Nat.le_refl _) (by decide)
  have sF:SlG (Gs w bL) wZ (.slice (some ⟨bF,0,none⟩) 1 1) ([1]:List Int):=G9 (xs:=([1]:List Int)) (css:=[[int 1]]) rF ⟨rfl,trivial⟩ ⟨by omega,by omega⟩ (Nat.le_refl _) (by decide)
  have sG1:SlG (Gs w bL) wZ (.slice (some ⟨bG1,0,none⟩) 2 2) ([2,1]:List Int):=G9 (xs:=([2,1]:List Int)) (css:=[[int 2],[int 1] ]) rG1 ⟨rfl,rfl,trivial⟩ ⟨by omega,by omega⟩ (Nat.le_refl _) (by decide)
  have sG2:SlG (Gs w bL) wZ (.slice (some ⟨bG2,0,none⟩) 2 2) ([4,3]:List Int):=G9 (xs:=([4,3]:List Int)) (css:=[[int 4],[int 3] ]) rG2 ⟨rfl,rfl,trivial⟩ ⟨by omega,by omega⟩ (Nat.le_refl _) (by decide)
  have sN1:SlG (Gs w bL) wZ (.slice (some ⟨bN1,0,none⟩) 1 1) xE1.senses:=G9 (xs:=xE1.senses) (css:=xE1.senses.map snsC) rN1 (B0x _ _) ⟨by omega,by omega⟩ (Nat.le_refl _) (by decide)
  have sN2:SlG (Gs w bL) wZ (.slice (some ⟨bN2,0,none⟩) 1 1) xE2.senses:=G9 (xs:=xE2.senses) (css:=xE2.senses.map snsC) rN2 (B0x _ _) ⟨by omega,by omega⟩ (Nat.le_refl _) (by decide)
  have sR1:SlG (Gs w bL) wZ (.slice (some ⟨bR1,0,none⟩) 1 1) xE1.refs:=G9 (xs:=xE1.refs) (css:=xE1.refs.map rfC) rR1 (A0e _ _) ⟨by omega,by omega⟩ (Nat.le_refl _) (by decide)
  have sR2:SlG (Gs w bL) wZ (.slice (some ⟨bR2,0,none⟩) 2 2) xE2.refs:=G9 (xs:=xE2.refs) (css:=xE2.refs.map rfC) rR2 (A0e _ _) ⟨by omega,by omega⟩ (Nat.le_refl _) (by decide)
  refine eN ?_;refine G8 ?_;refine C1g ?_
  exact A9m Z Z Z rZ2.at rfl ⟨⟨bL,_,_,_,_,_,_,_,_,_,_,rfl,⟨by omega,rL,sP,sU,sS,sF,sG1,sN1,sR1,sG2,sN2,sR2⟩⟩,xZ⟩
theorem Smp.lang {w0 w:World} {bL:Nat} {pv uv sv fv g1 n1 r1 g2 n2 r2:Value} (h:Smp w0 w bL pv uv sv fv g1 n1 r1 g2 n2 r2):LangG Tt w xG pv uv (.slice none 0 0) (.slice none 0 0) sv fv (.slice (some ⟨bL,0,none⟩) 2 2):=
  ⟨h.segs.any,h.units.any,SlG.nil,SlG.nil,h.steps.any,h.final.any,G9 (xs:=[xE1,xE2]) (css:=[[int 1,g1,int 1,.slice none 0 0,int 0,n1,.slice none 0 0,r1],[int 2,g2,int 2,.slice none 0 0,int 0,n2,.slice none 0 0,r2] ]) h.row ⟨⟨_,_,_,_,_,rfl,h.f1.any,SlG.nil,h.s1.any,SlG.nil,h.e1.any⟩,⟨_,_,_,_,_,rfl,h.f2.any,SlG.nil,h.s2.any,SlG.nil,h.e2.any⟩,trivial⟩ trivial (Nat.le_refl _) (by decide)⟩
theorem Smp.langn {w0 w w':World} {bL:Nat} {pv uv sv fv g1 n1 r1 g2 n2 r2:Value} (h:Smp w0 w bL pv uv sv fv g1 n1 r1 g2 n2 r2) (k:Kb (some bL) w w') (r:Row w' bL 65 [int 1,g1,int 1,.slice none 0 0,int 0,n1,.slice none 0 0,.slice none 0 0,int 2,g2,int 2,.slice none 0 0,int 0,n2,.slice none 0 0,r2]):LangG Tt w' xGn pv uv (.slice none 0 0) (.slice none 0 0) sv fv (.slice (some ⟨bL,0,none⟩) 2 2):=by
  have mv:∀ b,Gs w0 bL b→b<w.heap.size→Tt b∧w'.heap[b]?=w.heap[b]?:=fun b hb hlt=>⟨trivial,World.grownBy.block k b hlt (fun e=>hb.2 (Option.some.inj e))⟩
  exact⟨h.segs.move mv,h.units.move mv,SlG.nil,SlG.nil,h.steps.move mv,h.final.move mv,G9 (xs:=[xE1n,xE2]) (css:=[[int 1,g1,int 1,.slice none 0 0,int 0,n1,.slice none 0 0,.slice none 0 0],[int 2,g2,int 2,.slice none 0 0,int 0,n2,.slice none 0 0,r2] ]) r ⟨⟨_,_,_,_,_,rfl,h.f1.move mv,SlG.nil,h.s1.move mv,SlG.nil,SlG.nil⟩,⟨_,_,_,_,_,rfl,h.f2.move mv,SlG.nil,h.s2.move mv,SlG.nil,h.e2.move mv⟩,trivial⟩ trivial (Nat.le_refl _) (by decide)⟩
end
section
open Go.RowKit Go.En Go.Pv
attribute [local irreducible] E EL K Val Enters Rt Calls bodyPost Code.wp RQ
theorem A8u (g:Lg) (pv uv tv rv sv fv ev:Value) (w:World) (hg:LangG Tt w g pv uv tv rv sv fv ev):Calls Tryz.prog 45 #[.agg #[pv,str g.oname,uv,tv,rv,int g.net.states,sv,fv,ev] ] w (Rt fun u w'=>(∃ b,u=.bool b)∧Ext w w'):=by
  have hl0:=hg.lex
  obtain⟨la,lc,rfl,_,hlm,hlp⟩:=hl0.sl
  refine A6 (n:=27) (args:=[.agg #[pv,str g.oname,uv,tv,rv,int g.net.states,sv,fv,.slice la g.lex.length lc] ]) Tryz.func45 rfl Tryz.ntmps45 (by simp) ?_
  refine B4 ?_
  refine A9 ?_
  refine C2 Z Z Z Z (fun bG wG xG hbG rG=>?_)
  (repeat' (first|refine Sy ?_))
  refine B0 (ι:=Nat × Nat) (fun z=>[(1,.pointer (some ⟨bG,0,none⟩)),(3,int z.2),(4,int z.1)])
    (fun z wr=>z.1≤100∧z.2≤z.1*140737488355328∧Ext wG wr) (fun z=>100-z.1) (0,0)
    ⟨rfl,rfl,rfl,trivial⟩ ⟨Nat.zero_le _,Nat.zero_le _,Ext.refl _⟩ ?_
  rintro⟨i,n⟩ wr ⟨hi,hn,hx⟩
  dsimp only at hi hn hx ⊢
  replace rG:=rG.ext hx
  have hX:=xG.trans hx
  by_cases hlt:i<g.lex.length∧i<100
  · obtain⟨b,off,rfl⟩:=hlp (by omega)
    obtain⟨e,hei⟩:∃ e,g.lex[i]?=some e:=⟨_,List.getElem?_eq_getElem hlt.1⟩
    obtain⟨d0,f0,d1,f1,d2,f2,d3,f3,d4,f4,hat,_,_,_,_,_,hrf⟩:=D3 (hl0.ext hX) hei
    have hrl:e.refs.length≤140737488355328:=by obtain⟨_,_,_,_,h,_⟩:=hrf.sl;exact h
    have hm:(n:Int)+(e.refs.length:Int)≤9223372036854775807:=by
      have:i*140737488355328≤100*140737488355328:=Nat.mul_le_mul_right _ hi
      omega
    (repeat' (first|refine eV Z Z (A0 (m:=i) Z Z Z (by first|rfl|omega) (by omega)) ?_|refine Ly ?_|refine Dy (fun hh=>?_) fun hh=>?_))
    all_goals (try (exfalso;omega))
    refine B3 (i+1,n+e.refs.length) ⟨rfl,rfl,rfl,trivial⟩ ⟨by dsimp only;omega,?_,hx⟩ (by dsimp only;omega)
    dsimp only
    rw [Nat.add_mul]
    omega
  · (repeat' (first|refine Ly ?_|refine Dy (fun hh=>?_) fun hh=>?_))
    all_goals (try (exfalso;omega))
    all_goals exact A4 Z Z ⟨⟨_,rfl⟩,hX⟩
theorem B4l (ds:List Dc) (hn:∀ d∈ds,Names d) (g:Lg) (hb:LgBd g) (dv pv uv tv rv sv fv ev:Value) (w:World) (hv:Sl w dv ds) (hg:LangG Tt w g pv uv tv rv sv fv ev) :
    Calls Tryz.prog 12 #[dv,.agg #[pv,str g.oname,uv,tv,rv,int g.net.states,sv,fv,ev] ] w (Rt fun u w'=>(∃ b,u=.bool b∧(b=true→LightDs ds∧LangOK g))∧Ext w w'):=by
  refine A6 (n:=15) (args:=[dv,.agg #[pv,str g.oname,uv,tv,rv,int g.net.states,sv,fv,ev] ]) Tryz.func12 rfl Tryz.ntmps12 (by simp) ?_
  refine B4 ?_
  refine A9 ?_
  refine C2 Z Z Z Z (fun bG wG xG hbG rG=>?_)
  have hX:=xG
  have c28:=fun wz (hz:Ext w wz)=>B4k ds hn dv wz (hv.ext hz)
  have c44:=fun wz (hz:Ext w wz)=>B1z g hb pv uv tv rv sv fv ev wz (hg.ext hz)
  have c45:=fun wz (hz:Ext w wz)=>A8u g pv uv tv rv sv fv ev wz (hg.ext hz)
  (repeat' (first|(refine A8 Z Z (A5 Z Z en28) (c28 _ hX) (fun vC wC hC=>?_);obtain⟨⟨b1,rfl,h1⟩,xC⟩:=hC;replace hX:=hX.trans xC;replace rG:=rG.ext xC;cases b1)|(refine A8 Z Z (A5 Z Z en44) (c44 _ hX) (fun vC wC hC=>?_);obtain⟨⟨b2,rfl,h2⟩,xC⟩:=hC;replace hX:=hX.trans xC;replace rG:=rG.ext xC;cases b2)|(refine A8 Z Z (A5 Z Z en45) (c45 _ hX) (fun vC wC hC=>?_);obtain⟨⟨b3,rfl⟩,xC⟩:=hC;replace hX:=hX.trans xC;replace rG:=rG.ext xC;cases b3)|refine Ly ?_))
  all_goals first
    | exact A4 Z Z ⟨⟨_,rfl,fun _=>⟨h1 rfl,h2 rfl⟩⟩,hX⟩
    | exact A4 Z Z ⟨⟨_,rfl,fun h=>by cases h⟩,hX⟩
structure FewP (p:Pnt):Prop where
  e:p.entries.length≤100
  r:p.refs.length≤100
  t:p.title.length≤300
  x:p.text.length≤300
end
end Go.Proofs.YtjicdgejhkgpgaaGreatDoor