/-
  Walks of search: Run with its closure; the reference's Run.
-/
import Derived.Test.YtnifmbbpfdghmaaGreatDoorYv
import Derived.Test.YtnifmbbpfdghmaaGreatDoorTc
import Derived.Test.YtnifmbbpfdghmaaGreatDoorY1
import Derived.Test.YtnifmbbpfdghmaaGreatDoorYu
import Derived.Test.YtnifmbbpfdghmaaGreatDoorNi
set_option linter.all false
namespace Go.Proofs.YtnifmbbpfdghmaaGreatDoor
open Go.RowKit Go.En
attribute [local irreducible] E EL K Val Enters Rt Calls bodyPost Code.wp RQ
structure RunBox (w:World) (bX bR bD:Nat) (s:Value) (xs:List Ix.Post) (d:Dc):Prop where
  rx:Row w bX 49 [s]
  sx:Sl w s xs
  rr:Row w bR 110 [.func (.func 97) #[] #[.pointer (some ⟨bX,0,none⟩),.pointer (some ⟨bR,0,none⟩),.pointer (some ⟨bD,0,none⟩)] ]
  dd:DBox w bD d
theorem RunBox.ext {w w':World} {bX bR bD:Nat} {s:Value} {xs:List Ix.Post} {d:Dc} (h:RunBox w bX bR bD s xs d) (x:Ext w w'):RunBox w' bX bR bD s xs d:=
  ⟨h.rx.ext x,h.sx.ext x,h.rr.ext x,h.dd.ext x⟩
theorem none_of {d:Dc} {p:Int→Bool} {l:List Int} (hl:l=[]) (hp:∀ x,p x=true→x∈l):idsOf d p=[]:=by
  subst hl
  unfold idsOf
  rw [List.filter_eq_nil_iff]
  intro x _ hx
  exact absurd (hp x hx) (by simp)
theorem ev_none {d:Dc} {op r:Int} {t:List UInt8} {a b:Qy} (ha:evF matchF d a=[]) (hop:op=1∨op=4∨op=5∨op=6):evF matchF d (.mk op r t [a,b])=[]:=by
  rw [evF_mk]
  rcases hop with rfl|rfl|rfl|rfl
  · exact none_of (p:=fun x=>decide (x∈evF matchF d a)&&decide (x∈evF matchF d b)) ha (fun x hx=>by rw [Bool.and_eq_true] at hx;exact of_decide_eq_true hx.1)
  · exact none_of (p:=thenP d (evF matchF d a) (evF matchF d b)) ha (fun x hx=>thenP_sub hx)
  · exact none_of (p:=withinP d (evF matchF d a) (evF matchF d b)) ha (fun x hx=>withinP_sub hx)
  · exact none_of (p:=hasP d (evF matchF d a) (evF matchF d b)) ha (fun x hx=>hasP_sub hx)
set_option maxHeartbeats 8000000 in
set_option maxRecDepth 8000 in
theorem run97_sz {d:Dc} (h:LightD d) {xs:List Ix.Post} (hf:Fits xs) (hl:Linked xs d) (bX bR bD:Nat):∀(z:Nat) (q:Qy),SizeOf.sizeOf q<z→okQ q→∀(s qv:Value) (w:World),RunBox w bX bR bD s xs d→QAt w qv q→Tabs w→
    Calls Tryz.prog 97 #[qv,.pointer (some ⟨bX,0,none⟩),.pointer (some ⟨bR,0,none⟩),.pointer (some ⟨bD,0,none⟩)] w (Rt fun u w'=>Ext w w'∧SlG (Nw w) w' u (evF matchF d q)):=by
  intro z
  induction z with
  | zero=>intro q hq;omega
  | succ z ih=>
  intro q hqz hok s qv w hB hqv hT
  have hsv0:=hB.sx
  obtain⟨sa,sc,rfl,_,_,_⟩:=hB.sx.sl
  obtain⟨sv,tv,nv,rD0,hD0⟩:=hB.dd
  rcases ok_shape hok with⟨r,t,ks,rfl⟩|⟨r,t,a,rfl,ha⟩|⟨op,r,t,a,b,rfl,ha,hb,hop⟩
  · obtain⟨kv,rfl,hkv⟩:=hqv
    change Sl w kv ks at hkv
    have hkv0:=hkv
    obtain⟨qa,qc,rfl,_,_,hqp⟩:=hkv.sl
    show Calls Tryz.prog 97 #[.agg #[int 0,int r,str t,.slice qa ks.length qc],.pointer (some ⟨bX,0,none⟩),.pointer (some ⟨bR,0,none⟩),.pointer (some ⟨bD,0,none⟩)] w _
    refine calls_E (n:=74) (args:=[.agg #[int 0,int r,str t,.slice qa ks.length qc],.pointer (some ⟨bX,0,none⟩),.pointer (some ⟨bR,0,none⟩),.pointer (some ⟨bD,0,none⟩)]) Tryz.func97 rfl Tryz.ntmps97 (by simp) ?_
    refine E_seq ?_
    refine E_region ?_
    refine EL_box Z Z Z Z (fun bQ wQ xQ hbQ rQ0=>?_)
    have rQ:Row wQ bQ 36 [int 0,int r,str t,.slice qa ks.length qc]:=rQ0
    clear rQ0
    have hQ:=hB.ext xQ
    have hTQ:=Tabs.ext hT xQ
    have rX:=hQ.rx
    have ct:=text40_any xs _ r t wQ hf (hsv0.ext xQ) hTQ
    (repeat' (first|refine eV (v:=.bool true) Z Z (eql_is Z Z Z Z) ?_|refine eV Z Z (val_load Z Z Z (rQ.cellAt (j:=0) Z)) ?_|refine eV Z Z (val_load Z Z Z (rQ.cellAt (j:=1) Z)) ?_|refine eV Z Z (val_load Z Z Z (rQ.cellAt (j:=2) Z)) ?_|refine eV Z Z (val_loadA (cs:=[.slice sa xs.length sc]) Z Z Z rX.at rfl) ?_|(refine EL_call Z Z (entersF Z Z en40) ct (fun vC wC hC=>?_);obtain⟨xC,sC⟩:=hC)|(refine at_EL ?_;first|refine eN ?_|refine eV Z Z (zB Z Z) ?_|refine eV Z Z (zH Z Z) ?_)|(refine at_K ?_;first|refine K_then ?_|refine K_then_ret ?_)|(refine at_E ?_;first|refine E_seq ?_|refine E_region ?_|refine E_cond_t Z ?_|refine E_ret ?_)))
    refine ret_1 Z Z ⟨xQ.trans xC,?_⟩
    rw [ev_0,← hl.text]
    exact SlG.wk sC (fun b hb=>by have:=xQ.size;unfold Nw at *;omega)
  · have za:SizeOf.sizeOf a<z:=by simp only [Qy.mk.sizeOf_spec,List.cons.sizeOf_spec] at hqz;omega
    obtain⟨kv,rfl,hkv⟩:=hqv
    change Sl w kv [a] at hkv
    have hkv0:=hkv
    obtain⟨qa,qc,rfl,_,_,hqp⟩:=hkv.sl
    show Calls Tryz.prog 97 #[.agg #[int 3,int r,str t,.slice qa [a].length qc],.pointer (some ⟨bX,0,none⟩),.pointer (some ⟨bR,0,none⟩),.pointer (some ⟨bD,0,none⟩)] w _
    refine calls_E (n:=74) (args:=[.agg #[int 3,int r,str t,.slice qa [a].length qc],.pointer (some ⟨bX,0,none⟩),.pointer (some ⟨bR,0,none⟩),.pointer (some ⟨bD,0,none⟩)]) Tryz.func97 rfl Tryz.ntmps97 (by simp) ?_
    refine E_seq ?_
    refine E_region ?_
    refine EL_box Z Z Z Z (fun bQ wQ xQ hbQ rQ0=>?_)
    have rQ:Row wQ bQ 36 [int 3,int r,str t,.slice qa [a].length qc]:=rQ0
    clear rQ0
    have hQ:=hB.ext xQ
    have hTQ:=Tabs.ext hT xQ
    have rX:=hQ.rx
    obtain⟨qb,qo,rfl⟩:=hqp (one_lt a)
    obtain⟨k0,hat0,hk0⟩:=kid_at (i:=0) (k:=a) (hkv0.ext xQ) rfl
    have c0:∀ wz,Ext wQ wz→Calls Tryz.prog 97 (([.agg #[int a.op,int a.role,str a.text,k0] ]:List Value)++([.pointer (some ⟨bX,0,none⟩),.pointer (some ⟨bR,0,none⟩),.pointer (some ⟨bD,0,none⟩)]:List Value)).toArray wz (Rt fun u w'=>Ext wz w'∧SlG (Nw wz) w' u (evF matchF d a)):=fun wz xz=>ih a za ha _ _ wz (hB.ext (xQ.trans xz)) ⟨k0,rfl,hk0.ext xz⟩ (Tabs.ext hT (xQ.trans xz))
    (repeat' ((fail_if_success (refine E_seq (x:=(Code.region 4 _ _)) ?_));first|refine eV (v:=.bool false) Z Z (eql_is Z Z Z Z) ?_|refine eV Z Z (val_load Z Z Z (rQ.cellAt (j:=0) Z)) ?_|refine yV Z Z (fun wq _ xq=>val_load Z Z Z ((hQ.rr.ext xq).cellAt (j:=0) Z)) ?_|refine yV Z Z (fun wq _ xq=>val_load Z Z Z ((rQ.ext xq).cellAt (j:=3) Z)) ?_|refine yV Z Z (fun _ _ _=>val_indexAddr (m:=0) Z Z Z Z (one_lt _)) ?_|refine yV Z Z (fun wq _ xq=>val_loadA Z Z Z (hat0.ext xq) Z) ?_|(refine RQ_callR (f:=97) (fun u w'=>Sl w' u (evF matchF d a)) (fun _=>(([.agg #[int a.op,int a.role,str a.text,k0] ]:List Value)++([.pointer (some ⟨bX,0,none⟩),.pointer (some ⟨bR,0,none⟩),.pointer (some ⟨bD,0,none⟩)]:List Value)).toArray) Z Z (fun _ _ _ _ xe h=>SlG.ext h xe) (fun _ _ _=>entersC (vs:=[.agg #[int a.op,int a.role,str a.text,k0] ]) (cap:=[.pointer (some ⟨bX,0,none⟩),.pointer (some ⟨bR,0,none⟩),.pointer (some ⟨bD,0,none⟩)]) Z Z Z en97) (fun wq _ xq _=>?_) ?_;exact calls_mono (c0 wq xq) (fun _ _ hh=>⟨hh.2.any,hh.1⟩))|refine RQ_asgS Z Z Z Z (fun _=>rfl) ?_|refine RQ_end (fun wq δ xq hR=>?_)|(refine at_EL ?_;first|refine eN ?_|refine eV Z Z (zB Z Z) ?_|refine eV Z Z (zH Z Z) ?_)|(refine at_K ?_;first|refine K_then ?_)|(refine at_E ?_;first|refine E_seq ?_|refine E_region ?_|refine E_cond_f Z ?_|refine E_skip ?_|refine E_dq mixedOk (by kernel_rfl) Z ?_)|(refine at_RQ ?_;first|refine yV Z Z (fun _ _ _=>zH Z Z) ?_)))
    obtain⟨vA,hvA⟩:∃ vA,vA=δ 6:=⟨_,rfl⟩
    have sA:Sl wq vA (evF matchF d a):=by rw [hvA];exact hR 6 _ rfl
    refine E.sub (M:=[(1,.pointer (some ⟨bX,0,none⟩)),(2,.pointer (some ⟨bR,0,none⟩)),(3,.pointer (some ⟨bD,0,none⟩)),(4,.pointer (some ⟨bQ,0,none⟩)),(6,vA)]) ⟨rfl,rfl,rfl,rfl,by rw [hvA];rfl,trivial⟩ ?_
    clear hvA hR
    have hXq:=xQ.trans xq
    replace rQ:=rQ.ext xq
    replace rX:=rX.ext xq
    have la:=evF_len h matchF a
    have ca:=all96_any xs _ r wq hf (hsv0.ext hXq)
    (repeat' (first|refine eV (v:=.bool true) Z Z (eql_is Z Z Z Z) ?_|refine eV Z Z (val_load Z Z Z (rQ.cellAt (j:=0) Z)) ?_|refine eV Z Z (val_load Z Z Z (rQ.cellAt (j:=1) Z)) ?_|refine eV Z Z (val_loadA (cs:=[.slice sa xs.length sc]) Z Z Z rX.at rfl) ?_|(refine EL_call Z Z (entersF Z Z en96) ca (fun vC wC hC=>?_);obtain⟨xC,sC⟩:=hC)|(refine EL_call Z Z (entersF Z Z en86) (minusP_any _ _ _ _ _ sC.any (sA.ext xC) (textX_le hf r _) (by omega)) (fun vM wM hM=>?_);obtain⟨xM,sM⟩:=hM)|(refine at_EL ?_;first|refine eN ?_|refine eV Z Z (zA Z Z) ?_|refine eV Z Z (zB Z Z) ?_|refine eV Z Z (zH Z Z) ?_)|(refine at_K ?_;first|refine K_then ?_|refine K_then_ret ?_)|(refine at_E ?_;first|refine E_seq ?_|refine E_region ?_|refine E_cond_t Z ?_|refine E_ret ?_)))
    refine ret_1 Z Z ⟨hXq.trans (xC.trans xM),?_⟩
    rw [ev_role3 h,← hl.all]
    exact SlG.wk sM (fun b hb=>by have:=(hXq.trans xC).size;unfold Nw at *;omega)
  · have za:SizeOf.sizeOf a<z:=by simp only [Qy.mk.sizeOf_spec,List.cons.sizeOf_spec] at hqz;omega
    have zb:SizeOf.sizeOf b<z:=by simp only [Qy.mk.sizeOf_spec,List.cons.sizeOf_spec] at hqz;omega
    obtain⟨kv,rfl,hkv⟩:=hqv
    change Sl w kv [a,b] at hkv
    have hkv0:=hkv
    obtain⟨qa,qc,rfl,_,_,hqp⟩:=hkv.sl
    show Calls Tryz.prog 97 #[.agg #[int op,int r,str t,.slice qa [a,b].length qc],.pointer (some ⟨bX,0,none⟩),.pointer (some ⟨bR,0,none⟩),.pointer (some ⟨bD,0,none⟩)] w _
    refine calls_E (n:=74) (args:=[.agg #[int op,int r,str t,.slice qa [a,b].length qc],.pointer (some ⟨bX,0,none⟩),.pointer (some ⟨bR,0,none⟩),.pointer (some ⟨bD,0,none⟩)]) Tryz.func97 rfl Tryz.ntmps97 (by simp) ?_
    refine E_seq ?_
    refine E_region ?_
    refine EL_box Z Z Z Z (fun bQ wQ xQ hbQ rQ0=>?_)
    have rQ:Row wQ bQ 36 [int op,int r,str t,.slice qa [a,b].length qc]:=rQ0
    clear rQ0
    have hQ:=hB.ext xQ
    have hTQ:=Tabs.ext hT xQ
    have rX:=hQ.rx
    obtain⟨qb,qo,rfl⟩:=hqp (two_lt a b).1
    obtain⟨k0,hat0,hk0⟩:=kid_at (i:=0) (k:=a) (hkv0.ext xQ) rfl
    have c0:∀ wz,Ext wQ wz→Calls Tryz.prog 97 (([.agg #[int a.op,int a.role,str a.text,k0] ]:List Value)++([.pointer (some ⟨bX,0,none⟩),.pointer (some ⟨bR,0,none⟩),.pointer (some ⟨bD,0,none⟩)]:List Value)).toArray wz (Rt fun u w'=>Ext wz w'∧SlG (Nw wz) w' u (evF matchF d a)):=fun wz xz=>ih a za ha _ _ wz (hB.ext (xQ.trans xz)) ⟨k0,rfl,hk0.ext xz⟩ (Tabs.ext hT (xQ.trans xz))
    have hop03:decide (op=0)=false∧decide (op=3)=false:=⟨decide_eq_false (by omega),decide_eq_false (by omega)⟩
    (repeat' ((fail_if_success (refine E_seq (x:=(Code.region 4 _ _)) ?_));first|refine eV (v:=.bool false) Z Z (eql_is Z Z Z hop03.1) ?_|refine eV Z Z (val_load Z Z Z (rQ.cellAt (j:=0) Z)) ?_|refine yV Z Z (fun wq _ xq=>val_load Z Z Z ((hQ.rr.ext xq).cellAt (j:=0) Z)) ?_|refine yV Z Z (fun wq _ xq=>val_load Z Z Z ((rQ.ext xq).cellAt (j:=3) Z)) ?_|refine yV Z Z (fun _ _ _=>val_indexAddr (m:=0) Z Z Z Z (two_lt _ _).1) ?_|refine yV Z Z (fun wq _ xq=>val_loadA Z Z Z (hat0.ext xq) Z) ?_|(refine RQ_callR (f:=97) (fun u w'=>Sl w' u (evF matchF d a)) (fun _=>(([.agg #[int a.op,int a.role,str a.text,k0] ]:List Value)++([.pointer (some ⟨bX,0,none⟩),.pointer (some ⟨bR,0,none⟩),.pointer (some ⟨bD,0,none⟩)]:List Value)).toArray) Z Z (fun _ _ _ _ xe h=>SlG.ext h xe) (fun _ _ _=>entersC (vs:=[.agg #[int a.op,int a.role,str a.text,k0] ]) (cap:=[.pointer (some ⟨bX,0,none⟩),.pointer (some ⟨bR,0,none⟩),.pointer (some ⟨bD,0,none⟩)]) Z Z Z en97) (fun wq _ xq _=>?_) ?_;exact calls_mono (c0 wq xq) (fun _ _ hh=>⟨hh.2.any,hh.1⟩))|refine RQ_asgS Z Z Z Z (fun _=>rfl) ?_|refine RQ_end (fun wq δ xq hR=>?_)|(refine at_EL ?_;first|refine eN ?_|refine eV Z Z (zB Z Z) ?_|refine eV Z Z (zH Z Z) ?_)|(refine at_K ?_;first|refine K_then ?_)|(refine at_E ?_;first|refine E_seq ?_|refine E_region ?_|refine E_cond_f Z ?_|refine E_skip ?_|refine E_dq mixedOk (by kernel_rfl) Z ?_)|(refine at_RQ ?_;first|refine yV Z Z (fun _ _ _=>zH Z Z) ?_)))
    obtain⟨vA,hvA⟩:∃ vA,vA=δ 6:=⟨_,rfl⟩
    have sA:Sl wq vA (evF matchF d a):=by rw [hvA];exact hR 6 _ rfl
    have sA0:=sA
    obtain⟨aa,ac,eA,_,_,_⟩:=sA.sl
    rw [eA] at hvA sA0
    refine E.sub (M:=[(1,.pointer (some ⟨bX,0,none⟩)),(2,.pointer (some ⟨bR,0,none⟩)),(3,.pointer (some ⟨bD,0,none⟩)),(4,.pointer (some ⟨bQ,0,none⟩)),(6,.slice aa (evF matchF d a).length ac)]) ⟨rfl,rfl,rfl,rfl,by rw [hvA];rfl,trivial⟩ ?_
    clear hvA hR
    have hXq:=xQ.trans xq
    have rQ1:=rQ.ext xq
    have la:=evF_len h matchF a
    obtain⟨k1,hat1,hk1⟩:=kid_at (i:=1) (k:=b) (hkv0.ext hXq) rfl
    have c1:∀ wz,Ext wq wz→Calls Tryz.prog 97 (([.agg #[int b.op,int b.role,str b.text,k1] ]:List Value)++([.pointer (some ⟨bX,0,none⟩),.pointer (some ⟨bR,0,none⟩),.pointer (some ⟨bD,0,none⟩)]:List Value)).toArray wz (Rt fun u w'=>Ext wz w'∧SlG (Nw wz) w' u (evF matchF d b)):=fun wz xz=>ih b zb hb _ _ wz (hB.ext (hXq.trans xz)) ⟨k1,rfl,hk1.ext xz⟩ (Tabs.ext hT (hXq.trans xz))
    have xq0:=xq
    rcases hop with rfl|rfl|rfl|rfl|rfl
    · by_cases he:(evF matchF d a).length=0
      · (repeat' (first|refine eV (v:=.bool false) Z Z (eql_is Z Z Z Z) ?_|refine eV Z Z (val_load Z Z Z (rQ1.cellAt (j:=0) Z)) ?_|(refine at_EL ?_;first|refine eN ?_|refine eO Z Z ?_|refine eV Z Z (zA Z Z) ?_|refine eV Z Z (zB Z Z) ?_|(refine at_bin ?_;first|refine eD Z Z (zM Z Z Z) (fun hh=>?_) (fun hh=>?_)|refine eD Z Z (zQ Z Z Z) (fun hh=>?_) (fun hh=>?_))|(refine at_call ?_;first|refine eV Z Z (zK Z Z) ?_)|refine eV Z Z (zC Z Z Z) ?_|refine eV Z Z (zD Z Z Z) ?_|refine eV Z Z (zH Z Z) ?_)|(refine at_K ?_;first|refine K_then ?_|refine K_then_ret ?_)|(refine at_E ?_;first|refine E_seq ?_|refine E_region ?_|refine E_cond_t Z ?_|refine E_cond_f Z ?_|refine E_skip ?_|refine E_ret ?_)))
        all_goals (first|(exfalso;omega)|skip)
        refine ret_1 Z Z ⟨hXq,?_⟩
        rw [ev_none (List.length_eq_zero_iff.1 he) (.inl rfl)]
        exact SlG.nil
      · (repeat' ((fail_if_success (refine E_seq (x:=(Code.region 9 _ _)) ?_));first|refine eV (v:=.bool false) Z Z (eql_is Z Z Z Z) ?_|refine eV Z Z (val_load Z Z Z (rQ1.cellAt (j:=0) Z)) ?_|refine yV Z Z (fun wq _ xq=>val_load Z Z Z (((hQ.rr.ext xq0).ext xq).cellAt (j:=0) Z)) ?_|refine yV Z Z (fun wq _ xq=>val_load Z Z Z ((rQ1.ext xq).cellAt (j:=3) Z)) ?_|refine yV Z Z (fun _ _ _=>val_indexAddr (m:=1) Z Z Z Z (two_lt _ _).2) ?_|refine yV Z Z (fun wq _ xq=>val_loadA Z Z Z (hat1.ext xq) Z) ?_|(refine RQ_callR (f:=97) (fun u w'=>Sl w' u (evF matchF d b)) (fun _=>(([.agg #[int b.op,int b.role,str b.text,k1] ]:List Value)++([.pointer (some ⟨bX,0,none⟩),.pointer (some ⟨bR,0,none⟩),.pointer (some ⟨bD,0,none⟩)]:List Value)).toArray) Z Z (fun _ _ _ _ xe h=>SlG.ext h xe) (fun _ _ _=>entersC (vs:=[.agg #[int b.op,int b.role,str b.text,k1] ]) (cap:=[.pointer (some ⟨bX,0,none⟩),.pointer (some ⟨bR,0,none⟩),.pointer (some ⟨bD,0,none⟩)]) Z Z Z en97) (fun wq _ xq _=>?_) ?_;exact calls_mono (c1 wq xq) (fun _ _ hh=>⟨hh.2.any,hh.1⟩))|refine RQ_asgS Z Z Z Z (fun _=>rfl) ?_|refine RQ_end (fun wq δ xq hR=>?_)|(refine at_EL ?_;first|refine eN ?_|refine eO Z Z ?_|refine eV Z Z (zA Z Z) ?_|refine eV Z Z (zB Z Z) ?_|(refine at_bin ?_;first|refine eD Z Z (zM Z Z Z) (fun hh=>?_) (fun hh=>?_)|refine eD Z Z (zQ Z Z Z) (fun hh=>?_) (fun hh=>?_))|(refine at_call ?_;first|refine eV Z Z (zK Z Z) ?_)|refine eV Z Z (zC Z Z Z) ?_|refine eV Z Z (zD Z Z Z) ?_|refine eV Z Z (zH Z Z) ?_)|(refine at_K ?_;first|refine K_then ?_|refine K_then_ret ?_)|(refine at_E ?_;first|refine E_seq ?_|refine E_region ?_|refine E_cond_t Z ?_|refine E_cond_f Z ?_|refine E_skip ?_|refine E_ret ?_|refine E_dq mixedOk (by kernel_rfl) Z ?_)|(refine at_RQ ?_;first|refine yV Z Z (fun _ _ _=>zH Z Z) ?_)))
        all_goals (first|(exfalso;omega)|skip)
        obtain⟨vB,hvB⟩:∃ vB,vB=δ 7:=⟨_,rfl⟩
        have sB:Sl wq vB (evF matchF d b):=by rw [hvB];exact hR 7 _ rfl
        refine E.sub (M:=[(1,.pointer (some ⟨bX,0,none⟩)),(2,.pointer (some ⟨bR,0,none⟩)),(3,.pointer (some ⟨bD,0,none⟩)),(4,.pointer (some ⟨bQ,0,none⟩)),(6,.slice aa (evF matchF d a).length ac),(7,vB)]) ⟨rfl,rfl,rfl,rfl,rfl,by rw [hvB];rfl,trivial⟩ ?_
        clear hvB hR
        have hX2:=hXq.trans xq
        have rQ2:=rQ1.ext xq
        have rD2:=rD0.ext hX2
        have hD2:=hD0.ext hX2
        have sA2:=sA0.ext xq
        have lb:=evF_len h matchF b
        (repeat' (first|refine eV (v:=.bool true) Z Z (eql_is Z Z Z Z) ?_|refine eV Z Z (val_load Z Z Z (rQ2.cellAt (j:=0) Z)) ?_|(refine EL_call Z Z (entersF Z Z en84) (both_any _ _ _ _ _ sA2 sB (by omega) (by omega)) (fun vM wM hM=>?_);obtain⟨xM,sM⟩:=hM)|(refine at_EL ?_;first|refine eN ?_|refine eV Z Z (zA Z Z) ?_|refine eV Z Z (zB Z Z) ?_|refine eV Z Z (zH Z Z) ?_)|(refine at_K ?_;first|refine K_then ?_|refine K_then_ret ?_|refine K_in_ret ?_)|(refine at_E ?_;first|refine E_seq ?_|refine E_region ?_|refine E_cond_t Z ?_|refine E_block ?_|refine E_ret ?_)))
        all_goals (first|(exfalso;omega)|skip)
        refine ret_1 Z Z ⟨hX2.trans xM,?_⟩
        rw [ev_1 h]
        exact SlG.wk sM (fun b hb=>by have:=hX2.size;unfold Nw at *;omega)
    · by_cases he:(evF matchF d a).length=0
      · (repeat' ((fail_if_success (refine E_seq (x:=(Code.region 9 _ _)) ?_));first|refine eV (v:=.bool false) Z Z (eql_is Z Z Z Z) ?_|refine eV Z Z (val_load Z Z Z (rQ1.cellAt (j:=0) Z)) ?_|refine yV Z Z (fun wq _ xq=>val_load Z Z Z (((hQ.rr.ext xq0).ext xq).cellAt (j:=0) Z)) ?_|refine yV Z Z (fun wq _ xq=>val_load Z Z Z ((rQ1.ext xq).cellAt (j:=3) Z)) ?_|refine yV Z Z (fun _ _ _=>val_indexAddr (m:=1) Z Z Z Z (two_lt _ _).2) ?_|refine yV Z Z (fun wq _ xq=>val_loadA Z Z Z (hat1.ext xq) Z) ?_|(refine RQ_callR (f:=97) (fun u w'=>Sl w' u (evF matchF d b)) (fun _=>(([.agg #[int b.op,int b.role,str b.text,k1] ]:List Value)++([.pointer (some ⟨bX,0,none⟩),.pointer (some ⟨bR,0,none⟩),.pointer (some ⟨bD,0,none⟩)]:List Value)).toArray) Z Z (fun _ _ _ _ xe h=>SlG.ext h xe) (fun _ _ _=>entersC (vs:=[.agg #[int b.op,int b.role,str b.text,k1] ]) (cap:=[.pointer (some ⟨bX,0,none⟩),.pointer (some ⟨bR,0,none⟩),.pointer (some ⟨bD,0,none⟩)]) Z Z Z en97) (fun wq _ xq _=>?_) ?_;exact calls_mono (c1 wq xq) (fun _ _ hh=>⟨hh.2.any,hh.1⟩))|refine RQ_asgS Z Z Z Z (fun _=>rfl) ?_|refine RQ_end (fun wq δ xq hR=>?_)|(refine at_EL ?_;first|refine eN ?_|refine eO Z Z ?_|refine eV Z Z (zA Z Z) ?_|refine eV Z Z (zB Z Z) ?_|(refine at_bin ?_;first|refine eD Z Z (zM Z Z Z) (fun hh=>?_) (fun hh=>?_)|refine eD Z Z (zQ Z Z Z) (fun hh=>?_) (fun hh=>?_))|(refine at_call ?_;first|refine eV Z Z (zK Z Z) ?_)|refine eV Z Z (zC Z Z Z) ?_|refine eV Z Z (zD Z Z Z) ?_|refine eV Z Z (zH Z Z) ?_)|(refine at_K ?_;first|refine K_then ?_|refine K_then_ret ?_)|(refine at_E ?_;first|refine E_seq ?_|refine E_region ?_|refine E_cond_t Z ?_|refine E_cond_f Z ?_|refine E_skip ?_|refine E_ret ?_|refine E_dq mixedOk (by kernel_rfl) Z ?_)|(refine at_RQ ?_;first|refine yV Z Z (fun _ _ _=>zH Z Z) ?_)))
        all_goals (first|(exfalso;omega)|skip)
        obtain⟨vB,hvB⟩:∃ vB,vB=δ 7:=⟨_,rfl⟩
        have sB:Sl wq vB (evF matchF d b):=by rw [hvB];exact hR 7 _ rfl
        refine E.sub (M:=[(1,.pointer (some ⟨bX,0,none⟩)),(2,.pointer (some ⟨bR,0,none⟩)),(3,.pointer (some ⟨bD,0,none⟩)),(4,.pointer (some ⟨bQ,0,none⟩)),(6,.slice aa (evF matchF d a).length ac),(7,vB)]) ⟨rfl,rfl,rfl,rfl,rfl,by rw [hvB];rfl,trivial⟩ ?_
        clear hvB hR
        have hX2:=hXq.trans xq
        have rQ2:=rQ1.ext xq
        have rD2:=rD0.ext hX2
        have hD2:=hD0.ext hX2
        have sA2:=sA0.ext xq
        have lb:=evF_len h matchF b
        (repeat' (first|refine eV (v:=.bool true) Z Z (eql_is Z Z Z Z) ?_|refine eV (v:=.bool false) Z Z (eql_is Z Z Z Z) ?_|refine eV Z Z (val_load Z Z Z (rQ2.cellAt (j:=0) Z)) ?_|(refine EL_call Z Z (entersF Z Z en85) (unionP_any _ _ _ _ _ sA2 sB (by omega)) (fun vM wM hM=>?_);obtain⟨xM,sM⟩:=hM)|(refine at_EL ?_;first|refine eN ?_|refine eV Z Z (zA Z Z) ?_|refine eV Z Z (zB Z Z) ?_|refine eV Z Z (zH Z Z) ?_)|(refine at_K ?_;first|refine K_then ?_|refine K_then_ret ?_|refine K_in_ret ?_)|(refine at_E ?_;first|refine E_seq ?_|refine E_region ?_|refine E_cond_t Z ?_|refine E_cond_f Z ?_|refine E_block ?_|refine E_ret ?_)))
        all_goals (first|(exfalso;omega)|skip)
        refine ret_1 Z Z ⟨hX2.trans xM,?_⟩
        rw [ev_2 h]
        exact SlG.wk sM (fun b hb=>by have:=hX2.size;unfold Nw at *;omega)
      · (repeat' ((fail_if_success (refine E_seq (x:=(Code.region 9 _ _)) ?_));first|refine eV (v:=.bool false) Z Z (eql_is Z Z Z Z) ?_|refine eV Z Z (val_load Z Z Z (rQ1.cellAt (j:=0) Z)) ?_|refine yV Z Z (fun wq _ xq=>val_load Z Z Z (((hQ.rr.ext xq0).ext xq).cellAt (j:=0) Z)) ?_|refine yV Z Z (fun wq _ xq=>val_load Z Z Z ((rQ1.ext xq).cellAt (j:=3) Z)) ?_|refine yV Z Z (fun _ _ _=>val_indexAddr (m:=1) Z Z Z Z (two_lt _ _).2) ?_|refine yV Z Z (fun wq _ xq=>val_loadA Z Z Z (hat1.ext xq) Z) ?_|(refine RQ_callR (f:=97) (fun u w'=>Sl w' u (evF matchF d b)) (fun _=>(([.agg #[int b.op,int b.role,str b.text,k1] ]:List Value)++([.pointer (some ⟨bX,0,none⟩),.pointer (some ⟨bR,0,none⟩),.pointer (some ⟨bD,0,none⟩)]:List Value)).toArray) Z Z (fun _ _ _ _ xe h=>SlG.ext h xe) (fun _ _ _=>entersC (vs:=[.agg #[int b.op,int b.role,str b.text,k1] ]) (cap:=[.pointer (some ⟨bX,0,none⟩),.pointer (some ⟨bR,0,none⟩),.pointer (some ⟨bD,0,none⟩)]) Z Z Z en97) (fun wq _ xq _=>?_) ?_;exact calls_mono (c1 wq xq) (fun _ _ hh=>⟨hh.2.any,hh.1⟩))|refine RQ_asgS Z Z Z Z (fun _=>rfl) ?_|refine RQ_end (fun wq δ xq hR=>?_)|(refine at_EL ?_;first|refine eN ?_|refine eO Z Z ?_|refine eV Z Z (zA Z Z) ?_|refine eV Z Z (zB Z Z) ?_|(refine at_bin ?_;first|refine eD Z Z (zM Z Z Z) (fun hh=>?_) (fun hh=>?_)|refine eD Z Z (zQ Z Z Z) (fun hh=>?_) (fun hh=>?_))|(refine at_call ?_;first|refine eV Z Z (zK Z Z) ?_)|refine eV Z Z (zC Z Z Z) ?_|refine eV Z Z (zD Z Z Z) ?_|refine eV Z Z (zH Z Z) ?_)|(refine at_K ?_;first|refine K_then ?_|refine K_then_ret ?_)|(refine at_E ?_;first|refine E_seq ?_|refine E_region ?_|refine E_cond_t Z ?_|refine E_cond_f Z ?_|refine E_skip ?_|refine E_ret ?_|refine E_dq mixedOk (by kernel_rfl) Z ?_)|(refine at_RQ ?_;first|refine yV Z Z (fun _ _ _=>zH Z Z) ?_)))
        all_goals (first|(exfalso;omega)|skip)
        obtain⟨vB,hvB⟩:∃ vB,vB=δ 7:=⟨_,rfl⟩
        have sB:Sl wq vB (evF matchF d b):=by rw [hvB];exact hR 7 _ rfl
        refine E.sub (M:=[(1,.pointer (some ⟨bX,0,none⟩)),(2,.pointer (some ⟨bR,0,none⟩)),(3,.pointer (some ⟨bD,0,none⟩)),(4,.pointer (some ⟨bQ,0,none⟩)),(6,.slice aa (evF matchF d a).length ac),(7,vB)]) ⟨rfl,rfl,rfl,rfl,rfl,by rw [hvB];rfl,trivial⟩ ?_
        clear hvB hR
        have hX2:=hXq.trans xq
        have rQ2:=rQ1.ext xq
        have rD2:=rD0.ext hX2
        have hD2:=hD0.ext hX2
        have sA2:=sA0.ext xq
        have lb:=evF_len h matchF b
        (repeat' (first|refine eV (v:=.bool true) Z Z (eql_is Z Z Z Z) ?_|refine eV (v:=.bool false) Z Z (eql_is Z Z Z Z) ?_|refine eV Z Z (val_load Z Z Z (rQ2.cellAt (j:=0) Z)) ?_|(refine EL_call Z Z (entersF Z Z en85) (unionP_any _ _ _ _ _ sA2 sB (by omega)) (fun vM wM hM=>?_);obtain⟨xM,sM⟩:=hM)|(refine at_EL ?_;first|refine eN ?_|refine eV Z Z (zA Z Z) ?_|refine eV Z Z (zB Z Z) ?_|refine eV Z Z (zH Z Z) ?_)|(refine at_K ?_;first|refine K_then ?_|refine K_then_ret ?_|refine K_in_ret ?_)|(refine at_E ?_;first|refine E_seq ?_|refine E_region ?_|refine E_cond_t Z ?_|refine E_cond_f Z ?_|refine E_block ?_|refine E_ret ?_)))
        all_goals (first|(exfalso;omega)|skip)
        refine ret_1 Z Z ⟨hX2.trans xM,?_⟩
        rw [ev_2 h]
        exact SlG.wk sM (fun b hb=>by have:=hX2.size;unfold Nw at *;omega)
    · by_cases he:(evF matchF d a).length=0
      · (repeat' (first|refine eV (v:=.bool false) Z Z (eql_is Z Z Z Z) ?_|refine eV Z Z (val_load Z Z Z (rQ1.cellAt (j:=0) Z)) ?_|(refine at_EL ?_;first|refine eN ?_|refine eO Z Z ?_|refine eV Z Z (zA Z Z) ?_|refine eV Z Z (zB Z Z) ?_|(refine at_bin ?_;first|refine eD Z Z (zM Z Z Z) (fun hh=>?_) (fun hh=>?_)|refine eD Z Z (zQ Z Z Z) (fun hh=>?_) (fun hh=>?_))|(refine at_call ?_;first|refine eV Z Z (zK Z Z) ?_)|refine eV Z Z (zC Z Z Z) ?_|refine eV Z Z (zD Z Z Z) ?_|refine eV Z Z (zH Z Z) ?_)|(refine at_K ?_;first|refine K_then ?_|refine K_then_ret ?_)|(refine at_E ?_;first|refine E_seq ?_|refine E_region ?_|refine E_cond_t Z ?_|refine E_cond_f Z ?_|refine E_skip ?_|refine E_ret ?_)))
        all_goals (first|(exfalso;omega)|skip)
        refine ret_1 Z Z ⟨hXq,?_⟩
        rw [ev_none (List.length_eq_zero_iff.1 he) (.inr (.inl rfl))]
        exact SlG.nil
      · (repeat' ((fail_if_success (refine E_seq (x:=(Code.region 9 _ _)) ?_));first|refine eV (v:=.bool false) Z Z (eql_is Z Z Z Z) ?_|refine eV Z Z (val_load Z Z Z (rQ1.cellAt (j:=0) Z)) ?_|refine yV Z Z (fun wq _ xq=>val_load Z Z Z (((hQ.rr.ext xq0).ext xq).cellAt (j:=0) Z)) ?_|refine yV Z Z (fun wq _ xq=>val_load Z Z Z ((rQ1.ext xq).cellAt (j:=3) Z)) ?_|refine yV Z Z (fun _ _ _=>val_indexAddr (m:=1) Z Z Z Z (two_lt _ _).2) ?_|refine yV Z Z (fun wq _ xq=>val_loadA Z Z Z (hat1.ext xq) Z) ?_|(refine RQ_callR (f:=97) (fun u w'=>Sl w' u (evF matchF d b)) (fun _=>(([.agg #[int b.op,int b.role,str b.text,k1] ]:List Value)++([.pointer (some ⟨bX,0,none⟩),.pointer (some ⟨bR,0,none⟩),.pointer (some ⟨bD,0,none⟩)]:List Value)).toArray) Z Z (fun _ _ _ _ xe h=>SlG.ext h xe) (fun _ _ _=>entersC (vs:=[.agg #[int b.op,int b.role,str b.text,k1] ]) (cap:=[.pointer (some ⟨bX,0,none⟩),.pointer (some ⟨bR,0,none⟩),.pointer (some ⟨bD,0,none⟩)]) Z Z Z en97) (fun wq _ xq _=>?_) ?_;exact calls_mono (c1 wq xq) (fun _ _ hh=>⟨hh.2.any,hh.1⟩))|refine RQ_asgS Z Z Z Z (fun _=>rfl) ?_|refine RQ_end (fun wq δ xq hR=>?_)|(refine at_EL ?_;first|refine eN ?_|refine eO Z Z ?_|refine eV Z Z (zA Z Z) ?_|refine eV Z Z (zB Z Z) ?_|(refine at_bin ?_;first|refine eD Z Z (zM Z Z Z) (fun hh=>?_) (fun hh=>?_)|refine eD Z Z (zQ Z Z Z) (fun hh=>?_) (fun hh=>?_))|(refine at_call ?_;first|refine eV Z Z (zK Z Z) ?_)|refine eV Z Z (zC Z Z Z) ?_|refine eV Z Z (zD Z Z Z) ?_|refine eV Z Z (zH Z Z) ?_)|(refine at_K ?_;first|refine K_then ?_|refine K_then_ret ?_)|(refine at_E ?_;first|refine E_seq ?_|refine E_region ?_|refine E_cond_t Z ?_|refine E_cond_f Z ?_|refine E_skip ?_|refine E_ret ?_|refine E_dq mixedOk (by kernel_rfl) Z ?_)|(refine at_RQ ?_;first|refine yV Z Z (fun _ _ _=>zH Z Z) ?_)))
        all_goals (first|(exfalso;omega)|skip)
        obtain⟨vB,hvB⟩:∃ vB,vB=δ 7:=⟨_,rfl⟩
        have sB:Sl wq vB (evF matchF d b):=by rw [hvB];exact hR 7 _ rfl
        refine E.sub (M:=[(1,.pointer (some ⟨bX,0,none⟩)),(2,.pointer (some ⟨bR,0,none⟩)),(3,.pointer (some ⟨bD,0,none⟩)),(4,.pointer (some ⟨bQ,0,none⟩)),(6,.slice aa (evF matchF d a).length ac),(7,vB)]) ⟨rfl,rfl,rfl,rfl,rfl,by rw [hvB];rfl,trivial⟩ ?_
        clear hvB hR
        have hX2:=hXq.trans xq
        have rQ2:=rQ1.ext xq
        have rD2:=rD0.ext hX2
        have hD2:=hD0.ext hX2
        have sA2:=sA0.ext xq
        have lb:=evF_len h matchF b
        (repeat' (first|refine eV (v:=.bool true) Z Z (eql_is Z Z Z Z) ?_|refine eV (v:=.bool false) Z Z (eql_is Z Z Z Z) ?_|refine eV Z Z (val_load Z Z Z (rQ2.cellAt (j:=0) Z)) ?_|refine eV Z Z (val_loadA Z Z Z rD2.at rfl) ?_|(refine EL_call Z Z (entersF Z Z en21) (then_any h _ _ _ _ _ _ hD2 sA2 sB) (fun vM wM hM=>?_);obtain⟨xM,sM⟩:=hM)|(refine at_EL ?_;first|refine eN ?_|refine eV Z Z (zA Z Z) ?_|refine eV Z Z (zB Z Z) ?_|refine eV Z Z (zH Z Z) ?_)|(refine at_K ?_;first|refine K_then ?_|refine K_then_ret ?_|refine K_in_ret ?_)|(refine at_E ?_;first|refine E_seq ?_|refine E_region ?_|refine E_cond_t Z ?_|refine E_cond_f Z ?_|refine E_block ?_|refine E_ret ?_)))
        all_goals (first|(exfalso;omega)|skip)
        refine ret_1 Z Z ⟨hX2.trans xM,?_⟩
        rw [ev_4]
        exact SlG.wk sM (fun b hb=>by have:=hX2.size;unfold Nw at *;omega)
    · by_cases he:(evF matchF d a).length=0
      · (repeat' (first|refine eV (v:=.bool false) Z Z (eql_is Z Z Z Z) ?_|refine eV Z Z (val_load Z Z Z (rQ1.cellAt (j:=0) Z)) ?_|(refine at_EL ?_;first|refine eN ?_|refine eO Z Z ?_|refine eV Z Z (zA Z Z) ?_|refine eV Z Z (zB Z Z) ?_|(refine at_bin ?_;first|refine eD Z Z (zM Z Z Z) (fun hh=>?_) (fun hh=>?_)|refine eD Z Z (zQ Z Z Z) (fun hh=>?_) (fun hh=>?_))|(refine at_call ?_;first|refine eV Z Z (zK Z Z) ?_)|refine eV Z Z (zC Z Z Z) ?_|refine eV Z Z (zD Z Z Z) ?_|refine eV Z Z (zH Z Z) ?_)|(refine at_K ?_;first|refine K_then ?_|refine K_then_ret ?_)|(refine at_E ?_;first|refine E_seq ?_|refine E_region ?_|refine E_cond_t Z ?_|refine E_cond_f Z ?_|refine E_skip ?_|refine E_ret ?_)))
        all_goals (first|(exfalso;omega)|skip)
        refine ret_1 Z Z ⟨hXq,?_⟩
        rw [ev_none (List.length_eq_zero_iff.1 he) (.inr (.inr (.inl rfl)))]
        exact SlG.nil
      · (repeat' ((fail_if_success (refine E_seq (x:=(Code.region 9 _ _)) ?_));first|refine eV (v:=.bool false) Z Z (eql_is Z Z Z Z) ?_|refine eV Z Z (val_load Z Z Z (rQ1.cellAt (j:=0) Z)) ?_|refine yV Z Z (fun wq _ xq=>val_load Z Z Z (((hQ.rr.ext xq0).ext xq).cellAt (j:=0) Z)) ?_|refine yV Z Z (fun wq _ xq=>val_load Z Z Z ((rQ1.ext xq).cellAt (j:=3) Z)) ?_|refine yV Z Z (fun _ _ _=>val_indexAddr (m:=1) Z Z Z Z (two_lt _ _).2) ?_|refine yV Z Z (fun wq _ xq=>val_loadA Z Z Z (hat1.ext xq) Z) ?_|(refine RQ_callR (f:=97) (fun u w'=>Sl w' u (evF matchF d b)) (fun _=>(([.agg #[int b.op,int b.role,str b.text,k1] ]:List Value)++([.pointer (some ⟨bX,0,none⟩),.pointer (some ⟨bR,0,none⟩),.pointer (some ⟨bD,0,none⟩)]:List Value)).toArray) Z Z (fun _ _ _ _ xe h=>SlG.ext h xe) (fun _ _ _=>entersC (vs:=[.agg #[int b.op,int b.role,str b.text,k1] ]) (cap:=[.pointer (some ⟨bX,0,none⟩),.pointer (some ⟨bR,0,none⟩),.pointer (some ⟨bD,0,none⟩)]) Z Z Z en97) (fun wq _ xq _=>?_) ?_;exact calls_mono (c1 wq xq) (fun _ _ hh=>⟨hh.2.any,hh.1⟩))|refine RQ_asgS Z Z Z Z (fun _=>rfl) ?_|refine RQ_end (fun wq δ xq hR=>?_)|(refine at_EL ?_;first|refine eN ?_|refine eO Z Z ?_|refine eV Z Z (zA Z Z) ?_|refine eV Z Z (zB Z Z) ?_|(refine at_bin ?_;first|refine eD Z Z (zM Z Z Z) (fun hh=>?_) (fun hh=>?_)|refine eD Z Z (zQ Z Z Z) (fun hh=>?_) (fun hh=>?_))|(refine at_call ?_;first|refine eV Z Z (zK Z Z) ?_)|refine eV Z Z (zC Z Z Z) ?_|refine eV Z Z (zD Z Z Z) ?_|refine eV Z Z (zH Z Z) ?_)|(refine at_K ?_;first|refine K_then ?_|refine K_then_ret ?_)|(refine at_E ?_;first|refine E_seq ?_|refine E_region ?_|refine E_cond_t Z ?_|refine E_cond_f Z ?_|refine E_skip ?_|refine E_ret ?_|refine E_dq mixedOk (by kernel_rfl) Z ?_)|(refine at_RQ ?_;first|refine yV Z Z (fun _ _ _=>zH Z Z) ?_)))
        all_goals (first|(exfalso;omega)|skip)
        obtain⟨vB,hvB⟩:∃ vB,vB=δ 7:=⟨_,rfl⟩
        have sB:Sl wq vB (evF matchF d b):=by rw [hvB];exact hR 7 _ rfl
        refine E.sub (M:=[(1,.pointer (some ⟨bX,0,none⟩)),(2,.pointer (some ⟨bR,0,none⟩)),(3,.pointer (some ⟨bD,0,none⟩)),(4,.pointer (some ⟨bQ,0,none⟩)),(6,.slice aa (evF matchF d a).length ac),(7,vB)]) ⟨rfl,rfl,rfl,rfl,rfl,by rw [hvB];rfl,trivial⟩ ?_
        clear hvB hR
        have hX2:=hXq.trans xq
        have rQ2:=rQ1.ext xq
        have rD2:=rD0.ext hX2
        have hD2:=hD0.ext hX2
        have sA2:=sA0.ext xq
        have lb:=evF_len h matchF b
        (repeat' (first|refine eV (v:=.bool true) Z Z (eql_is Z Z Z Z) ?_|refine eV (v:=.bool false) Z Z (eql_is Z Z Z Z) ?_|refine eV Z Z (val_load Z Z Z (rQ2.cellAt (j:=0) Z)) ?_|refine eV Z Z (val_loadA Z Z Z rD2.at rfl) ?_|(refine EL_call Z Z (entersF Z Z en23) (within_any h _ _ _ _ _ _ hD2 sA2 sB) (fun vM wM hM=>?_);obtain⟨xM,sM⟩:=hM)|(refine at_EL ?_;first|refine eN ?_|refine eV Z Z (zA Z Z) ?_|refine eV Z Z (zB Z Z) ?_|refine eV Z Z (zH Z Z) ?_)|(refine at_K ?_;first|refine K_then ?_|refine K_then_ret ?_|refine K_in_ret ?_)|(refine at_E ?_;first|refine E_seq ?_|refine E_region ?_|refine E_cond_t Z ?_|refine E_cond_f Z ?_|refine E_block ?_|refine E_ret ?_)))
        all_goals (first|(exfalso;omega)|skip)
        refine ret_1 Z Z ⟨hX2.trans xM,?_⟩
        rw [ev_5]
        exact SlG.wk sM (fun b hb=>by have:=hX2.size;unfold Nw at *;omega)
    · by_cases he:(evF matchF d a).length=0
      · (repeat' (first|refine eV (v:=.bool false) Z Z (eql_is Z Z Z Z) ?_|refine eV Z Z (val_load Z Z Z (rQ1.cellAt (j:=0) Z)) ?_|(refine at_EL ?_;first|refine eN ?_|refine eO Z Z ?_|refine eV Z Z (zA Z Z) ?_|refine eV Z Z (zB Z Z) ?_|(refine at_bin ?_;first|refine eD Z Z (zM Z Z Z) (fun hh=>?_) (fun hh=>?_)|refine eD Z Z (zQ Z Z Z) (fun hh=>?_) (fun hh=>?_))|(refine at_call ?_;first|refine eV Z Z (zK Z Z) ?_)|refine eV Z Z (zC Z Z Z) ?_|refine eV Z Z (zD Z Z Z) ?_|refine eV Z Z (zH Z Z) ?_)|(refine at_K ?_;first|refine K_then ?_|refine K_then_ret ?_)|(refine at_E ?_;first|refine E_seq ?_|refine E_region ?_|refine E_cond_t Z ?_|refine E_cond_f Z ?_|refine E_skip ?_|refine E_ret ?_)))
        all_goals (first|(exfalso;omega)|skip)
        refine ret_1 Z Z ⟨hXq,?_⟩
        rw [ev_none (List.length_eq_zero_iff.1 he) (.inr (.inr (.inr rfl)))]
        exact SlG.nil
      · (repeat' ((fail_if_success (refine E_seq (x:=(Code.region 9 _ _)) ?_));first|refine eV (v:=.bool false) Z Z (eql_is Z Z Z Z) ?_|refine eV Z Z (val_load Z Z Z (rQ1.cellAt (j:=0) Z)) ?_|refine yV Z Z (fun wq _ xq=>val_load Z Z Z (((hQ.rr.ext xq0).ext xq).cellAt (j:=0) Z)) ?_|refine yV Z Z (fun wq _ xq=>val_load Z Z Z ((rQ1.ext xq).cellAt (j:=3) Z)) ?_|refine yV Z Z (fun _ _ _=>val_indexAddr (m:=1) Z Z Z Z (two_lt _ _).2) ?_|refine yV Z Z (fun wq _ xq=>val_loadA Z Z Z (hat1.ext xq) Z) ?_|(refine RQ_callR (f:=97) (fun u w'=>Sl w' u (evF matchF d b)) (fun _=>(([.agg #[int b.op,int b.role,str b.text,k1] ]:List Value)++([.pointer (some ⟨bX,0,none⟩),.pointer (some ⟨bR,0,none⟩),.pointer (some ⟨bD,0,none⟩)]:List Value)).toArray) Z Z (fun _ _ _ _ xe h=>SlG.ext h xe) (fun _ _ _=>entersC (vs:=[.agg #[int b.op,int b.role,str b.text,k1] ]) (cap:=[.pointer (some ⟨bX,0,none⟩),.pointer (some ⟨bR,0,none⟩),.pointer (some ⟨bD,0,none⟩)]) Z Z Z en97) (fun wq _ xq _=>?_) ?_;exact calls_mono (c1 wq xq) (fun _ _ hh=>⟨hh.2.any,hh.1⟩))|refine RQ_asgS Z Z Z Z (fun _=>rfl) ?_|refine RQ_end (fun wq δ xq hR=>?_)|(refine at_EL ?_;first|refine eN ?_|refine eO Z Z ?_|refine eV Z Z (zA Z Z) ?_|refine eV Z Z (zB Z Z) ?_|(refine at_bin ?_;first|refine eD Z Z (zM Z Z Z) (fun hh=>?_) (fun hh=>?_)|refine eD Z Z (zQ Z Z Z) (fun hh=>?_) (fun hh=>?_))|(refine at_call ?_;first|refine eV Z Z (zK Z Z) ?_)|refine eV Z Z (zC Z Z Z) ?_|refine eV Z Z (zD Z Z Z) ?_|refine eV Z Z (zH Z Z) ?_)|(refine at_K ?_;first|refine K_then ?_|refine K_then_ret ?_)|(refine at_E ?_;first|refine E_seq ?_|refine E_region ?_|refine E_cond_t Z ?_|refine E_cond_f Z ?_|refine E_skip ?_|refine E_ret ?_|refine E_dq mixedOk (by kernel_rfl) Z ?_)|(refine at_RQ ?_;first|refine yV Z Z (fun _ _ _=>zH Z Z) ?_)))
        all_goals (first|(exfalso;omega)|skip)
        obtain⟨vB,hvB⟩:∃ vB,vB=δ 7:=⟨_,rfl⟩
        have sB:Sl wq vB (evF matchF d b):=by rw [hvB];exact hR 7 _ rfl
        refine E.sub (M:=[(1,.pointer (some ⟨bX,0,none⟩)),(2,.pointer (some ⟨bR,0,none⟩)),(3,.pointer (some ⟨bD,0,none⟩)),(4,.pointer (some ⟨bQ,0,none⟩)),(6,.slice aa (evF matchF d a).length ac),(7,vB)]) ⟨rfl,rfl,rfl,rfl,rfl,by rw [hvB];rfl,trivial⟩ ?_
        clear hvB hR
        have hX2:=hXq.trans xq
        have rQ2:=rQ1.ext xq
        have rD2:=rD0.ext hX2
        have hD2:=hD0.ext hX2
        have sA2:=sA0.ext xq
        have lb:=evF_len h matchF b
        (repeat' (first|refine eV (v:=.bool false) Z Z (eql_is Z Z Z Z) ?_|refine eV Z Z (val_load Z Z Z (rQ2.cellAt (j:=0) Z)) ?_|refine eV Z Z (val_loadA Z Z Z rD2.at rfl) ?_|(refine EL_call Z Z (entersF Z Z en25) (has25_any h _ _ _ _ _ _ hD2 sA2 sB) (fun vM wM hM=>?_);obtain⟨xM,sM⟩:=hM)|(refine at_EL ?_;first|refine eN ?_|refine eV Z Z (zA Z Z) ?_|refine eV Z Z (zB Z Z) ?_|refine eV Z Z (zH Z Z) ?_)|(refine at_K ?_;first|refine K_then ?_|refine K_in ?_)|(refine at_E ?_;first|refine E_seq ?_|refine E_region ?_|refine E_cond_f Z ?_|refine E_block ?_|refine E_skip ?_|refine E_ret ?_)))
        all_goals (first|(exfalso;omega)|skip)
        refine ret_1 Z Z ⟨hX2.trans xM,?_⟩
        rw [ev_6]
        exact SlG.wk sM (fun b hb=>by have:=hX2.size;unfold Nw at *;omega)
set_option maxHeartbeats 4000000 in
set_option maxRecDepth 8000 in
theorem run47_any {d:Dc} (h:LightD d) {xs:List Ix.Post} (hf:Fits xs) (hl:Linked xs d) (q:Qy) (hok:okQ q) (s v qv:Value) (w:World) (hs:Sl w s xs) (hv:DcAt w v d) (hq:QAt w qv q) (hT:Tabs w) :
    Calls Tryz.prog 47 #[.agg #[s],v,qv] w (Rt fun u w'=>Ext w w'∧SlG (Nw w) w' u (evF matchF d q)):=by
  have hs0:=hs
  have hv0:=hv
  have hq0:=hq
  obtain⟨sa,sc,rfl,_,_,_⟩:=hs.sl
  obtain⟨sv,tv,nv,rfl,_,_,_⟩:=hv
  obtain⟨kv,rfl,hkv⟩:=hq
  obtain⟨ka,kc,rfl,_,_,_⟩:=hkv.sl
  refine calls_E (n:=12) (args:=[.agg #[.slice sa xs.length sc],.agg #[int d.rid,str d.rname,int d.len,int d.day,sv,tv,nv],.agg #[int q.op,int q.role,str q.text,.slice ka q.kids.length kc] ]) Tryz.func47 rfl Tryz.ntmps47 (by simp) ?_
  refine E_seq ?_
  refine E_region ?_
  refine EL_box Z Z Z Z (fun bX wX xX hbX rX0=>?_)
  have rX:Row wX bX 49 [.slice sa xs.length sc]:=rX0
  refine EL_box Z Z Z Z (fun bD wD xD hbD rD0=>?_)
  have rD:Row wD bD 28 [int d.rid,str d.rname,int d.len,int d.day,sv,tv,nv]:=rD0
  refine EL_box Z Z Z Z (fun bQ wQ xQ hbQ rQ0=>?_)
  have rQ:Row wQ bQ 36 [int q.op,int q.role,str q.text,.slice ka q.kids.length kc]:=rQ0
  clear rX0 rD0 rQ0
  have hXQ:=(xX.trans xD).trans xQ
  have lX:=rX.lt
  have lD:=rD.lt
  have lQ:=rQ.lt
  have zX:=xX.size
  have zD:=xD.size
  have zQ:=xQ.size
  (repeat' (first|refine EL_alloc Z Z Z (fun bR wR xR hbR rR=>?_)|refine eV Z Z (val_makeFunc (vs:=[.pointer (some ⟨bX,0,none⟩),.pointer (some ⟨bR,0,none⟩),.pointer (some ⟨bD,0,none⟩)]) Z Z) ?_|refine EL_storeP (cs:=[.func (.func 97) #[] #[.pointer (some ⟨bX,0,none⟩),.pointer (some ⟨bR,0,none⟩),.pointer (some ⟨bD,0,none⟩)] ]) rR (hXQ.trans xR) (by omega) Z Z Z Z Z Z Z Z (Nat.le_refl _) (fun w9 r9 x9 k9=>?_)|(refine at_EL ?_;first|refine eN ?_|refine eV Z Z (zB Z Z) ?_)|(refine at_K ?_;first|refine K_then ?_)|(refine at_E ?_;first|refine E_seq ?_|refine E_region ?_)))
  have r9':Row w9 bR 110 [.func (.func 97) #[] #[.pointer (some ⟨bX,0,none⟩),.pointer (some ⟨bR,0,none⟩),.pointer (some ⟨bD,0,none⟩)] ]:=r9
  have rX9:=k9.row (((rX.ext xD).ext xQ).ext xR) (fun e=>by cases e;omega)
  have rD9:=k9.row ((rD.ext xQ).ext xR) (fun e=>by cases e;omega)
  have rQ9:=k9.row (rQ.ext xR) (fun e=>by cases e;omega)
  have hB:RunBox w9 bX bR bD (.slice sa xs.length sc) xs d:=⟨rX9,hs0.ext x9,r9',⟨sv,tv,nv,rD9,hv0.ext x9⟩⟩
  have cr:=run97_sz h hf hl bX bR bD _ q (Nat.lt_succ_self _) hok _ _ w9 hB (hq0.ext x9) (Tabs.ext hT x9)
  (repeat' (first|refine eV Z Z (val_load Z Z Z (r9'.cellAt (j:=0) Z)) ?_|refine eV Z Z (val_loadA Z Z Z rQ9.at rfl) ?_|(refine EL_call Z Z (entersC (vs:=[.agg #[int q.op,int q.role,str q.text,.slice ka q.kids.length kc] ]) (cap:=[.pointer (some ⟨bX,0,none⟩),.pointer (some ⟨bR,0,none⟩),.pointer (some ⟨bD,0,none⟩)]) Z Z Z en97) cr (fun vC wC hC=>?_);obtain⟨xC,sC⟩:=hC)|(refine at_EL ?_;first|refine eN ?_|refine eV Z Z (zB Z Z) ?_)|(refine at_K ?_;first|refine K_then ?_)|(refine at_E ?_;first|refine E_ret ?_)))
  exact ret_1 Z Z ⟨x9.trans xC,SlG.wk sC (fun b hb=>by have:=x9.size;unfold Nw at *;omega)⟩
set_option maxHeartbeats 4000000 in
set_option maxRecDepth 8000 in
theorem rrun99_any {d:Dc} (h:LightD d) (q:Qy) (hok:okQ q) (s v qv:Value) (w:World) (hv:DcAt w v d) (hq:QAt w qv q) :
    Calls Tryz.prog 99 #[.agg #[s],v,qv] w (Rt fun u w'=>Ext w w'∧SlG (Nw w) w' u (evF matchF d q)):=by
  have hv0:=hv
  have hq0:=hq
  obtain⟨sv,tv,nv,rfl,_,_,_⟩:=hv
  obtain⟨kv,rfl,hkv⟩:=hq
  refine calls_E (n:=10) (args:=[.agg #[s],.agg #[int d.rid,str d.rname,int d.len,int d.day,sv,tv,nv],.agg #[int q.op,int q.role,str q.text,kv] ]) Tryz.func99 rfl Tryz.ntmps99 (by simp) ?_
  refine E_seq ?_
  refine E_region ?_
  refine EL_box Z Z Z Z (fun bX wX xX hbX rX0=>?_)
  refine EL_box Z Z Z Z (fun bD wD xD hbD rD0=>?_)
  have rD:Row wD bD 28 [int d.rid,str d.rname,int d.len,int d.day,sv,tv,nv]:=rD0
  refine EL_box Z Z Z Z (fun bQ wQ xQ hbQ rQ0=>?_)
  have rQ:Row wQ bQ 36 [int q.op,int q.role,str q.text,kv]:=rQ0
  have rD2:=rD.ext xQ
  clear rX0 rD0 rQ0
  have hX:=(xX.trans xD).trans xQ
  have cr:=revalW_any h q hok _ _ wQ (hv0.ext hX) (hq0.ext hX)
  (repeat' (first|refine eV Z Z (val_loadA Z Z Z rD2.at rfl) ?_|refine eV Z Z (val_loadA Z Z Z rQ.at rfl) ?_|(refine EL_call Z Z (entersF Z Z en29) cr (fun vC wC hC=>?_);obtain⟨xC,sC⟩:=hC)|(refine at_EL ?_;first|refine eN ?_|refine eV Z Z (zB Z Z) ?_)|(refine at_K ?_;first|refine K_then ?_)|(refine at_E ?_;first|refine E_seq ?_|refine E_region ?_|refine E_ret ?_)))
  exact ret_1 Z Z ⟨hX.trans xC,SlG.wk sC (fun b hb=>Nat.le_trans hX.size hb)⟩
end Go.Proofs.YtnifmbbpfdghmaaGreatDoor
