/-
  Walks of search: Text, all, Count; those of the reference. Walks of search: Bound, the program's and the reference's; Run with its closure; the reference's Run.
-/
import Derived.Test.YtnifmbbpfdghmaaGreatDoorYm
import Derived.Test.YtnifmbbpfdghmaaGreatDoorYt
import Derived.Test.YtnifmbbpfdghmaaGreatDoorQe
import Derived.Test.YtnifmbbpfdghmaaGreatDoorTc
import Derived.Test.YtnifmbbpfdghmaaGreatDoorY1
import Derived.Test.YtnifmbbpfdghmaaGreatDoorYu
import Derived.Test.YtnifmbbpfdghmaaGreatDoorNi
set_option linter.all false
namespace Go.Proofs.YtnifmbbpfdghmaaGreatDoor
open Go.RowKit Go.En
theorem Fits.take {xs:List Ix.Post} (h:Fits xs) (i:Nat):Fits (xs.take i) where
  few:=by
    have:=post_len xs (fun _=>true) i
    have:=h.few
    omega
  texts q hq:=h.texts q (List.mem_of_mem_take hq)
theorem Fits.ids {xs:List Ix.Post} (h:Fits xs) {i:Nat} {x:Ix.Post} (hx:xs[i]?=some x):x.ids.length≤1000000:=by
  have h1:=post_snoc (q:=fun _=>true) hx
  have h2:=(h.take (i+1)).few
  rw [h1,List.length_append,if_pos rfl] at h2
  omega
attribute [local irreducible] E EL K Val Enters Rt Calls bodyPost Code.wp RQ
set_option maxRecDepth 8000 in
theorem text95_any (p s:List UInt8) (bP:Nat) (w:World) (hs:s.length≤1048576) (rP:Row w bP 9 [str p]) (hT:Tabs w):Calls Tryz.prog 95 #[str s,.pointer (some ⟨bP,0,none⟩)] w (Rt fun u w'=>u=.bool (matchF p s)∧Ext w w'):=by
  refine calls_E (n:=7) (args:=[str s,.pointer (some ⟨bP,0,none⟩)]) Tryz.func95 rfl Tryz.ntmps95 (by simp) ?_
  have cm:=pMatch_any p s hs w hT
  (repeat' (first|refine eV Z Z (val_load Z Z Z (rP.cellAt (j:=0) Z)) ?_|(refine EL_call Z Z (entersF Z Z en83) cm (fun vC wC hC=>?_);obtain⟨rfl,xC⟩:=hC)|(refine at_EL ?_;first|refine eN ?_|refine eV Z Z (zA Z Z) ?_|refine eV Z Z (zB Z Z) ?_)|(refine at_K ?_;first|refine K_then ?_)|(refine at_E ?_;first|refine E_seq ?_|refine E_region ?_|refine E_ret ?_)))
  exact ret_1 Z Z ⟨rfl,xC⟩
theorem all127_any (s:List UInt8) (w:World):Calls Tryz.prog 127 #[str s] w (Rt fun u w'=>u=.bool true∧Ext w w'):=by
  refine calls_E (n:=3) (args:=[str s]) Tryz.func127 rfl Tryz.ntmps127 (by simp) ?_
  (repeat' (first|(refine at_EL ?_;first|refine eN ?_|refine eV Z Z (zB Z Z) ?_)|(refine at_K ?_;first|refine K_then ?_)|(refine at_E ?_;first|refine E_seq ?_|refine E_region ?_|refine E_ret ?_)))
  exact ret_1 Z Z ⟨rfl,Ext.refl w⟩
set_option maxHeartbeats 1000000 in
set_option maxRecDepth 8000 in
theorem text40_any (xs:List Ix.Post) (s:Value) (r:Int) (p:List UInt8) (w:World) (hf:Fits xs) (hv:Sl w s xs) (hT:Tabs w):Calls Tryz.prog 40 #[.agg #[s],int r,str p] w (Rt fun u w'=>Ext w w'∧SlG (Nw w) w' u (textX xs r (matchF p))):=by
  have hv0:=hv
  obtain⟨a,cap,rfl,_,_,_⟩:=hv.sl
  refine calls_E (n:=11) (args:=[.agg #[.slice a xs.length cap],int r,str p]) Tryz.func40 rfl Tryz.ntmps40 (by simp) ?_
  refine E_seq ?_
  refine E_region ?_
  refine EL_box Z Z Z Z (fun bX wX xX hbX rX0=>?_)
  have rX1:Row wX bX 49 [.slice a xs.length cap]:=rX0
  refine EL_box Z Z Z Z (fun bP wP xP hbP rP0=>?_)
  have rP:Row wP bP 9 [str p]:=rP0
  have rX:=rX1.ext xP
  have hX:=xX.trans xP
  clear rX0 rX1 rP0
  have c:Calls Tryz.prog 94 #[.agg #[.slice a xs.length cap],int r,.func (.func 95) #[] #[.pointer (some ⟨bP,0,none⟩)] ] wP (Rt fun u w'=>Ext wP w'∧SlG (Nw wP) w' u (sortedF (postIds xs (ofText r (matchF p))))):=
    ids94_any xs (.slice a xs.length cap) r 95 [.pointer (some ⟨bP,0,none⟩)] en95 (matchF p) wP (hv0.ext hX) hf.few (fun x wq hx xq=>text95_any p x.text bP wq (hf.texts x hx) (rP.ext xq) (Tabs.ext hT (hX.trans xq)))
  (repeat' (first|refine eV Z Z (val_loadA (cs:=[.slice a xs.length cap]) Z Z Z rX.at rfl) ?_|refine eV Z Z (val_makeFunc (vs:=[.pointer (some ⟨bP,0,none⟩)]) Z Z) ?_|(refine EL_call Z Z (entersF Z Z en94) c (fun vC wC hC=>?_);obtain⟨xC,sC⟩:=hC)|(refine at_EL ?_;first|refine eN ?_|refine eV Z Z (zA Z Z) ?_|refine eV Z Z (zB Z Z) ?_)|(refine at_K ?_;first|refine K_then ?_)|(refine at_E ?_;first|refine E_seq ?_|refine E_region ?_|refine E_ret ?_)))
  exact ret_1 Z Z ⟨hX.trans xC,SlG.wk sC (fun b hb=>by have:=hX.size;unfold Nw at *;omega)⟩
set_option maxHeartbeats 1000000 in
set_option maxRecDepth 8000 in
theorem all96_any (xs:List Ix.Post) (s:Value) (r:Int) (w:World) (hf:Fits xs) (hv:Sl w s xs):Calls Tryz.prog 96 #[.agg #[s],int r] w (Rt fun u w'=>Ext w w'∧SlG (Nw w) w' u (textX xs r fun _=>true)):=by
  have hv0:=hv
  obtain⟨a,cap,rfl,_,_,_⟩:=hv.sl
  refine calls_E (n:=8) (args:=[.agg #[.slice a xs.length cap],int r]) Tryz.func96 rfl Tryz.ntmps96 (by simp) ?_
  refine E_seq ?_
  refine E_region ?_
  refine EL_box Z Z Z Z (fun bX wX xX hbX rX0=>?_)
  have rX:Row wX bX 49 [.slice a xs.length cap]:=rX0
  clear rX0
  have c:Calls Tryz.prog 94 #[.agg #[.slice a xs.length cap],int r,.func (.func 127) #[] #[] ] wX (Rt fun u w'=>Ext wX w'∧SlG (Nw wX) w' u (sortedF (postIds xs (ofText r fun _=>true)))):=
    ids94_any xs (.slice a xs.length cap) r 127 [] en127 (fun _=>true) wX (hv0.ext xX) hf.few (fun x wq hx xq=>all127_any x.text wq)
  (repeat' (first|refine eV Z Z (val_loadA (cs:=[.slice a xs.length cap]) Z Z Z rX.at rfl) ?_|(refine EL_call Z Z (entersF Z Z en94) c (fun vC wC hC=>?_);obtain⟨xC,sC⟩:=hC)|(refine at_EL ?_;first|refine eN ?_|refine eV Z Z (zA Z Z) ?_|refine eV Z Z (zB Z Z) ?_)|(refine at_K ?_;first|refine K_then ?_)|(refine at_E ?_;first|refine E_seq ?_|refine E_region ?_|refine E_ret ?_)))
  exact ret_1 Z Z ⟨xX.trans xC,SlG.wk sC (fun b hb=>by have:=xX.size;unfold Nw at *;omega)⟩
set_option maxHeartbeats 1000000 in
set_option maxRecDepth 8000 in
theorem count42_any (xs:List Ix.Post) (s:Value) (r:Int) (w:World) (hf:Fits xs) (hv:Sl w s xs):Calls Tryz.prog 42 #[.agg #[s],int r] w (Rt fun u w'=>u=int ((textX xs r fun _=>true).length:Nat)∧Ext w w'):=by
  have hv0:=hv
  obtain⟨a,cap,rfl,_,_,_⟩:=hv.sl
  refine calls_E (n:=9) (args:=[.agg #[.slice a xs.length cap],int r]) Tryz.func42 rfl Tryz.ntmps42 (by simp) ?_
  refine E_seq ?_
  refine E_region ?_
  refine EL_box Z Z Z Z (fun bX wX xX hbX rX0=>?_)
  have rX:Row wX bX 49 [.slice a xs.length cap]:=rX0
  clear rX0
  have c:=all96_any xs (.slice a xs.length cap) r wX hf (hv0.ext xX)
  (repeat' (first|refine eV Z Z (val_loadA (cs:=[.slice a xs.length cap]) Z Z Z rX.at rfl) ?_|(refine EL_call Z Z (entersF Z Z en96) c (fun vC wC hC=>?_);obtain⟨xC,sC⟩:=hC;obtain⟨ca,cc,rfl,_,_,_⟩:=sC.sl)|(refine at_EL ?_;first|refine eN ?_|refine eV Z Z (zA Z Z) ?_|refine eV Z Z (zB Z Z) ?_|(refine at_call ?_;first|refine eV Z Z (zK Z Z) ?_))|(refine at_K ?_;first|refine K_then ?_)|(refine at_E ?_;first|refine E_seq ?_|refine E_region ?_|refine E_ret ?_)))
  exact ret_1 Z Z ⟨rfl,xX.trans xC⟩
end Go.Proofs.YtnifmbbpfdghmaaGreatDoor
namespace Go.Proofs.YtnifmbbpfdghmaaGreatDoor
open Go.RowKit Go.En
theorem two_lt {α:Type} (a b:α):0<[a,b].length∧1<[a,b].length:=⟨Nat.zero_lt_succ _,Nat.succ_lt_succ (Nat.zero_lt_succ _)⟩
theorem one_lt {α:Type} (a:α):0<[a].length:=Nat.zero_lt_succ _
attribute [local irreducible] E EL K Val Enters Rt Calls bodyPost Code.wp RQ
set_option maxHeartbeats 8000000 in
set_option maxRecDepth 8000 in
theorem bound45_sz {xs:List Ix.Post} (hf:Fits xs):∀(z:Nat) (q:Qy),SizeOf.sizeOf q<z→okQ q→∀(s qv:Value) (w:World),Sl w s xs→QAt w qv q→Tabs w→Calls Tryz.prog 45 #[.agg #[s],qv] w (Rt fun u w'=>u=int (bndF xs q)∧Ext w w'):=by
  intro z
  induction z with
  | zero=>intro q hq;omega
  | succ z ih=>
  intro q hqz hok s qv w hsv hqv hT
  have hsv0:=hsv
  obtain⟨sa,sc,rfl,_,_,_⟩:=hsv.sl
  rcases ok_shape hok with⟨r,t,ks,rfl⟩|⟨r,t,a,rfl,ha⟩|⟨op,r,t,a,b,rfl,ha,hb,hop⟩
  · obtain⟨kv,rfl,hkv⟩:=hqv
    change Sl w kv ks at hkv
    have hkv0:=hkv
    obtain⟨qa,qc,rfl,_,_,hqp⟩:=hkv.sl
    show Calls Tryz.prog 45 #[.agg #[.slice sa xs.length sc],.agg #[int 0,int r,str t,.slice qa ks.length qc] ] w _
    refine calls_E (n:=58) (args:=[.agg #[.slice sa xs.length sc],.agg #[int 0,int r,str t,.slice qa ks.length qc] ]) Tryz.func45 rfl Tryz.ntmps45 (by simp) ?_
    refine E_seq ?_
    refine E_region ?_
    refine EL_box Z Z Z Z (fun bX wX xX hbX rX0=>?_)
    have rX1:Row wX bX 49 [.slice sa xs.length sc]:=rX0
    refine EL_box Z Z Z Z (fun bQ wQ xQ hbQ rQ0=>?_)
    have rQ:Row wQ bQ 36 [int 0,int r,str t,.slice qa ks.length qc]:=rQ0
    have rX:=rX1.ext xQ
    have hX:=xX.trans xQ
    clear rX0 rX1 rQ0
    have ct:=text40_any xs _ r t wQ hf (hsv0.ext hX) (Tabs.ext hT hX)
    (repeat' (first|refine eV (v:=.bool true) Z Z (eql_is Z Z Z Z) ?_|refine eV Z Z (val_load Z Z Z (rQ.cellAt (j:=0) Z)) ?_|refine eV Z Z (val_load Z Z Z (rQ.cellAt (j:=1) Z)) ?_|refine eV Z Z (val_load Z Z Z (rQ.cellAt (j:=2) Z)) ?_|refine eV Z Z (val_loadA (cs:=[.slice sa xs.length sc]) Z Z Z rX.at rfl) ?_|(refine EL_call Z Z (entersF Z Z en40) ct (fun vC wC hC=>?_);obtain⟨xC,sC⟩:=hC;obtain⟨ca,cc,rfl,_,_,_⟩:=sC.sl)|(refine at_EL ?_;first|refine eN ?_|refine eV Z Z (zB Z Z) ?_|(refine at_call ?_;first|refine eV Z Z (zK Z Z) ?_)|refine eV Z Z (zH Z Z) ?_)|(refine at_K ?_;first|refine K_then ?_|refine K_then_ret ?_|refine K_in_ret ?_)|(refine at_E ?_;first|refine E_seq ?_|refine E_region ?_|refine E_cond_t Z ?_|refine E_block ?_|refine E_ret ?_)))
    exact ret_1 Z Z ⟨by rw [bnd_0],hX.trans xC⟩
  · obtain⟨kv,rfl,hkv⟩:=hqv
    change Sl w kv [a] at hkv
    have hkv0:=hkv
    obtain⟨qa,qc,rfl,_,_,hqp⟩:=hkv.sl
    show Calls Tryz.prog 45 #[.agg #[.slice sa xs.length sc],.agg #[int 3,int r,str t,.slice qa [a].length qc] ] w _
    refine calls_E (n:=58) (args:=[.agg #[.slice sa xs.length sc],.agg #[int 3,int r,str t,.slice qa [a].length qc] ]) Tryz.func45 rfl Tryz.ntmps45 (by simp) ?_
    refine E_seq ?_
    refine E_region ?_
    refine EL_box Z Z Z Z (fun bX wX xX hbX rX0=>?_)
    have rX1:Row wX bX 49 [.slice sa xs.length sc]:=rX0
    refine EL_box Z Z Z Z (fun bQ wQ xQ hbQ rQ0=>?_)
    have rQ:Row wQ bQ 36 [int 3,int r,str t,.slice qa [a].length qc]:=rQ0
    have rX:=rX1.ext xQ
    have hX:=xX.trans xQ
    clear rX0 rX1 rQ0
    have cc:=count42_any xs _ r wQ hf (hsv0.ext hX)
    (repeat' (first|refine eV (v:=.bool true) Z Z (eql_is Z Z Z Z) ?_|refine eV (v:=.bool false) Z Z (eql_is Z Z Z Z) ?_|refine eV Z Z (val_load Z Z Z (rQ.cellAt (j:=0) Z)) ?_|refine eV Z Z (val_load Z Z Z (rQ.cellAt (j:=1) Z)) ?_|refine eV Z Z (val_loadA (cs:=[.slice sa xs.length sc]) Z Z Z rX.at rfl) ?_|(refine EL_call Z Z (entersF Z Z en42) cc (fun vC wC hC=>?_);obtain⟨rfl,xC⟩:=hC)|(refine at_EL ?_;first|refine eN ?_|refine eV Z Z (zB Z Z) ?_|refine eV Z Z (zH Z Z) ?_)|(refine at_K ?_;first|refine K_then ?_|refine K_then_ret ?_|refine K_in_ret ?_)|(refine at_E ?_;first|refine E_seq ?_|refine E_region ?_|refine E_cond_t Z ?_|refine E_cond_f Z ?_|refine E_block ?_|refine E_ret ?_)))
    exact ret_1 Z Z ⟨by rw [bnd_3],hX.trans xC⟩
  · have za:SizeOf.sizeOf a<z:=by simp only [Qy.mk.sizeOf_spec,List.cons.sizeOf_spec] at hqz;omega
    have zb:SizeOf.sizeOf b<z:=by simp only [Qy.mk.sizeOf_spec,List.cons.sizeOf_spec] at hqz;omega
    obtain⟨kv,rfl,hkv⟩:=hqv
    change Sl w kv [a,b] at hkv
    have hkv0:=hkv
    obtain⟨qa,qc,rfl,_,_,hqp⟩:=hkv.sl
    show Calls Tryz.prog 45 #[.agg #[.slice sa xs.length sc],.agg #[int op,int r,str t,.slice qa [a,b].length qc] ] w _
    refine calls_E (n:=58) (args:=[.agg #[.slice sa xs.length sc],.agg #[int op,int r,str t,.slice qa [a,b].length qc] ]) Tryz.func45 rfl Tryz.ntmps45 (by simp) ?_
    refine E_seq ?_
    refine E_region ?_
    refine EL_box Z Z Z Z (fun bX wX xX hbX rX0=>?_)
    have rX1:Row wX bX 49 [.slice sa xs.length sc]:=rX0
    refine EL_box Z Z Z Z (fun bQ wQ xQ hbQ rQ0=>?_)
    have rQ:Row wQ bQ 36 [int op,int r,str t,.slice qa [a,b].length qc]:=rQ0
    have rX:=rX1.ext xQ
    have hX:=xX.trans xQ
    clear rX0 rX1 rQ0
    obtain⟨qb,qo,rfl⟩:=hqp (two_lt a b).1
    obtain⟨k0,hat0,hk0⟩:=kid_at (i:=0) (k:=a) (hkv0.ext hX) rfl
    obtain⟨k1,hat1,hk1⟩:=kid_at (i:=1) (k:=b) (hkv0.ext hX) rfl
    have c0:∀ wq,Ext wQ wq→Calls Tryz.prog 45 #[.agg #[.slice sa xs.length sc],.agg #[int a.op,int a.role,str a.text,k0] ] wq (Rt fun u w'=>u=int (bndF xs a)∧Ext wq w'):=fun wq xq=>ih a za ha _ _ wq (hsv0.ext (hX.trans xq)) ⟨k0,rfl,hk0.ext xq⟩ (Tabs.ext hT (hX.trans xq))
    have c1:∀ wq,Ext wQ wq→Calls Tryz.prog 45 #[.agg #[.slice sa xs.length sc],.agg #[int b.op,int b.role,str b.text,k1] ] wq (Rt fun u w'=>u=int (bndF xs b)∧Ext wq w'):=fun wq xq=>ih b zb hb _ _ wq (hsv0.ext (hX.trans xq)) ⟨k1,rfl,hk1.ext xq⟩ (Tabs.ext hT (hX.trans xq))
    rcases hop with rfl|rfl|rfl|rfl|rfl
    · (repeat' (first|refine eV (v:=.bool true) Z Z (eql_is Z Z Z Z) ?_|refine eV (v:=.bool false) Z Z (eql_is Z Z Z Z) ?_|refine eV Z Z (val_load Z Z Z (rQ.cellAt (j:=0) Z)) ?_|refine yV Z Z (fun wq _ xq=>val_loadA (cs:=[.slice sa xs.length sc]) Z Z Z (rX.ext xq).at rfl) ?_|refine yV Z Z (fun wq _ xq=>val_load Z Z Z ((rQ.ext xq).cellAt (j:=3) Z)) ?_|refine yV Z Z (fun _ _ _=>val_indexAddr (m:=0) Z Z Z Z (two_lt _ _).1) ?_|refine yV Z Z (fun _ _ _=>val_indexAddr (m:=1) Z Z Z Z (two_lt _ _).2) ?_|refine yV Z Z (fun wq _ xq=>val_loadA Z Z Z (hat0.ext xq) Z) ?_|refine yV Z Z (fun wq _ xq=>val_loadA Z Z Z (hat1.ext xq) Z) ?_|refine RQ_call Z Z (fun _ _ _=>entersF Z Z en45) (fun wq xq=>c0 wq xq) ?_|refine RQ_call Z Z (fun _ _ _=>entersF Z Z en45) (fun wq xq=>c1 wq xq) ?_|refine yV Z Z (fun _ _ _=>val_min Z Z Z) ?_|(refine at_EL ?_;first|refine eN ?_|refine eV Z Z (zB Z Z) ?_|refine eV Z Z (zH Z Z) ?_)|(refine at_K ?_;first|refine K_then ?_|refine K_then_ret ?_|refine K_in_ret ?_)|(refine at_E ?_;first|refine E_seq ?_|refine E_region ?_|refine E_cond_t Z ?_|refine E_cond_f Z ?_|refine E_block ?_|refine E_ret ?_|refine E_dq mixedOk (by kernel_rfl) Z ?_)|(refine at_RQ ?_;first|refine yN Z (fun wq xq=>?_)|refine yV Z Z (fun _ _ _=>zB Z Z) ?_|refine yV Z Z (fun _ _ _=>zH Z Z) ?_)))
      exact ret_1 Z Z ⟨by rw [bnd_1],hX.trans xq⟩
    · (repeat' (first|refine eV (v:=.bool true) Z Z (eql_is Z Z Z Z) ?_|refine eV (v:=.bool false) Z Z (eql_is Z Z Z Z) ?_|refine eV Z Z (val_load Z Z Z (rQ.cellAt (j:=0) Z)) ?_|refine yV Z Z (fun wq _ xq=>val_loadA (cs:=[.slice sa xs.length sc]) Z Z Z (rX.ext xq).at rfl) ?_|refine yV Z Z (fun wq _ xq=>val_load Z Z Z ((rQ.ext xq).cellAt (j:=3) Z)) ?_|refine yV Z Z (fun _ _ _=>val_indexAddr (m:=0) Z Z Z Z (two_lt _ _).1) ?_|refine yV Z Z (fun _ _ _=>val_indexAddr (m:=1) Z Z Z Z (two_lt _ _).2) ?_|refine yV Z Z (fun wq _ xq=>val_loadA Z Z Z (hat0.ext xq) Z) ?_|refine yV Z Z (fun wq _ xq=>val_loadA Z Z Z (hat1.ext xq) Z) ?_|refine RQ_call Z Z (fun _ _ _=>entersF Z Z en45) (fun wq xq=>c0 wq xq) ?_|refine RQ_call Z Z (fun _ _ _=>entersF Z Z en45) (fun wq xq=>c1 wq xq) ?_|refine yV Z Z (fun _ _ _=>val_addW Z Z Z) ?_|(refine at_EL ?_;first|refine eN ?_|refine eV Z Z (zB Z Z) ?_|refine eV Z Z (zH Z Z) ?_)|(refine at_K ?_;first|refine K_then ?_|refine K_then_ret ?_|refine K_in_ret ?_)|(refine at_E ?_;first|refine E_seq ?_|refine E_region ?_|refine E_cond_t Z ?_|refine E_cond_f Z ?_|refine E_block ?_|refine E_ret ?_|refine E_dq mixedOk (by kernel_rfl) Z ?_)|(refine at_RQ ?_;first|refine yN Z (fun wq xq=>?_)|refine yV Z Z (fun _ _ _=>zB Z Z) ?_|refine yV Z Z (fun _ _ _=>zH Z Z) ?_)))
      exact ret_1 Z Z ⟨by rw [bnd_2],hX.trans xq⟩
    · (repeat' (first|refine eV (v:=.bool false) Z Z (eql_is Z Z Z Z) ?_|refine eV Z Z (val_load Z Z Z (rQ.cellAt (j:=0) Z)) ?_|refine yV Z Z (fun wq _ xq=>val_loadA (cs:=[.slice sa xs.length sc]) Z Z Z (rX.ext xq).at rfl) ?_|refine yV Z Z (fun wq _ xq=>val_load Z Z Z ((rQ.ext xq).cellAt (j:=3) Z)) ?_|refine yV Z Z (fun _ _ _=>val_indexAddr (m:=0) Z Z Z Z (two_lt _ _).1) ?_|refine yV Z Z (fun wq _ xq=>val_loadA Z Z Z (hat0.ext xq) Z) ?_|refine RQ_call Z Z (fun _ _ _=>entersF Z Z en45) (fun wq xq=>c0 wq xq) ?_|(refine at_EL ?_;first|refine eN ?_|refine eV Z Z (zB Z Z) ?_|refine eV Z Z (zH Z Z) ?_)|(refine at_K ?_;first|refine K_then ?_|refine K_in ?_)|(refine at_E ?_;first|refine E_seq ?_|refine E_region ?_|refine E_cond_f Z ?_|refine E_block ?_|refine E_skip ?_|refine E_ret ?_|refine E_dq mixedOk (by kernel_rfl) Z ?_)|(refine at_RQ ?_;first|refine yN Z (fun wq xq=>?_)|refine yV Z Z (fun _ _ _=>zB Z Z) ?_|refine yV Z Z (fun _ _ _=>zH Z Z) ?_)))
      exact ret_1 Z Z ⟨by rw [bnd_4 xs r t a b (.inl rfl)],hX.trans xq⟩
    · (repeat' (first|refine eV (v:=.bool false) Z Z (eql_is Z Z Z Z) ?_|refine eV Z Z (val_load Z Z Z (rQ.cellAt (j:=0) Z)) ?_|refine yV Z Z (fun wq _ xq=>val_loadA (cs:=[.slice sa xs.length sc]) Z Z Z (rX.ext xq).at rfl) ?_|refine yV Z Z (fun wq _ xq=>val_load Z Z Z ((rQ.ext xq).cellAt (j:=3) Z)) ?_|refine yV Z Z (fun _ _ _=>val_indexAddr (m:=0) Z Z Z Z (two_lt _ _).1) ?_|refine yV Z Z (fun wq _ xq=>val_loadA Z Z Z (hat0.ext xq) Z) ?_|refine RQ_call Z Z (fun _ _ _=>entersF Z Z en45) (fun wq xq=>c0 wq xq) ?_|(refine at_EL ?_;first|refine eN ?_|refine eV Z Z (zB Z Z) ?_|refine eV Z Z (zH Z Z) ?_)|(refine at_K ?_;first|refine K_then ?_|refine K_in ?_)|(refine at_E ?_;first|refine E_seq ?_|refine E_region ?_|refine E_cond_f Z ?_|refine E_block ?_|refine E_skip ?_|refine E_ret ?_|refine E_dq mixedOk (by kernel_rfl) Z ?_)|(refine at_RQ ?_;first|refine yN Z (fun wq xq=>?_)|refine yV Z Z (fun _ _ _=>zB Z Z) ?_|refine yV Z Z (fun _ _ _=>zH Z Z) ?_)))
      exact ret_1 Z Z ⟨by rw [bnd_4 xs r t a b (.inr (.inl rfl))],hX.trans xq⟩
    · (repeat' (first|refine eV (v:=.bool false) Z Z (eql_is Z Z Z Z) ?_|refine eV Z Z (val_load Z Z Z (rQ.cellAt (j:=0) Z)) ?_|refine yV Z Z (fun wq _ xq=>val_loadA (cs:=[.slice sa xs.length sc]) Z Z Z (rX.ext xq).at rfl) ?_|refine yV Z Z (fun wq _ xq=>val_load Z Z Z ((rQ.ext xq).cellAt (j:=3) Z)) ?_|refine yV Z Z (fun _ _ _=>val_indexAddr (m:=0) Z Z Z Z (two_lt _ _).1) ?_|refine yV Z Z (fun wq _ xq=>val_loadA Z Z Z (hat0.ext xq) Z) ?_|refine RQ_call Z Z (fun _ _ _=>entersF Z Z en45) (fun wq xq=>c0 wq xq) ?_|(refine at_EL ?_;first|refine eN ?_|refine eV Z Z (zB Z Z) ?_|refine eV Z Z (zH Z Z) ?_)|(refine at_K ?_;first|refine K_then ?_|refine K_in ?_)|(refine at_E ?_;first|refine E_seq ?_|refine E_region ?_|refine E_cond_f Z ?_|refine E_block ?_|refine E_skip ?_|refine E_ret ?_|refine E_dq mixedOk (by kernel_rfl) Z ?_)|(refine at_RQ ?_;first|refine yN Z (fun wq xq=>?_)|refine yV Z Z (fun _ _ _=>zB Z Z) ?_|refine yV Z Z (fun _ _ _=>zH Z Z) ?_)))
      exact ret_1 Z Z ⟨by rw [bnd_4 xs r t a b (.inr (.inr rfl))],hX.trans xq⟩
theorem bound45_any {xs:List Ix.Post} (hf:Fits xs) (q:Qy) (hok:okQ q) (s qv:Value) (w:World) (hs:Sl w s xs) (hq:QAt w qv q) (hT:Tabs w):Calls Tryz.prog 45 #[.agg #[s],qv] w (Rt fun u w'=>u=int (bndF xs q)∧Ext w w'):=bound45_sz hf _ q (Nat.lt_succ_self _) hok s qv w hs hq hT
end Go.Proofs.YtnifmbbpfdghmaaGreatDoor
