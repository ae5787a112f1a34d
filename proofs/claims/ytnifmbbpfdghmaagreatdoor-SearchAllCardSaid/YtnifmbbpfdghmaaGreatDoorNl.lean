/-
  Walks of the reference's query checks: Check of patterns, Nodes, Depth, node, Check; the law's light and few.
-/
import Derived.Test.YtnifmbbpfdghmaaGreatDoorYu
import Derived.Test.YtnifmbbpfdghmaaGreatDoorY7
set_option linter.all false
namespace Go.Proofs.YtnifmbbpfdghmaaGreatDoor
open Go.RowKit Go.En
def wr64 (z:Int):Int:=IntKind.i64.wrap z
mutual
def nodesW:Qy→Int
  | .mk _ _ _ kids=>nodesA kids 1
def nodesA:List Qy→Int→Int
  | [],n=>n
  | q::qs,n=>nodesA qs (wr64 (n+nodesW q))
end
mutual
def depthW:Qy→Int
  | .mk _ _ _ kids=>wr64 (depthA kids 0+1)
def depthA:List Qy→Int→Int
  | [],n=>n
  | q::qs,n=>depthA qs (if depthW q>n then depthW q else n)
end
theorem nodesA_snoc:∀(l:List Qy) (n:Int) (q:Qy),nodesA (l++[q]) n=wr64 (nodesA l n+nodesW q)
  | [],n,q=>by simp [nodesA]
  | a::l,n,q=>by
    rw [List.cons_append]
    unfold nodesA
    exact nodesA_snoc l _ q
theorem depthA_snoc:∀(l:List Qy) (n:Int) (q:Qy),depthA (l++[q]) n=if depthW q>depthA l n then depthW q else depthA l n
  | [],n,q=>by simp [depthA]
  | a::l,n,q=>by
    rw [List.cons_append]
    unfold depthA
    exact depthA_snoc l _ q
theorem nodesA_take {kids:List Qy} {i:Nat} {k:Qy} (h:kids[i]?=some k):nodesA (kids.take (i+1)) 1=wr64 (nodesA (kids.take i) 1+nodesW k):=by
  obtain⟨hi,rfl⟩:=List.getElem?_eq_some_iff.1 h
  rw [List.take_succ_eq_append_getElem hi,nodesA_snoc]
theorem depthA_take {kids:List Qy} {i:Nat} {k:Qy} (h:kids[i]?=some k):depthA (kids.take (i+1)) 0=if depthW k>depthA (kids.take i) 0 then depthW k else depthA (kids.take i) 0:=by
  obtain⟨hi,rfl⟩:=List.getElem?_eq_some_iff.1 h
  rw [List.take_succ_eq_append_getElem hi,depthA_snoc]
theorem val_addW {P:Program} {L:List (Nat × Value)} {w:World} {o:Oper} {t u:TypeId} {x y:Operand} {a b:Int} (ho:o.op=.binOp .add t x y u) (hx:ev L x=some (int a)) (hy:ev L y=some (int b)):Val P L w o (int (wr64 (a+b))):=val_addw ho hx hy
attribute [local irreducible] E EL K Val Enters Rt Calls bodyPost Code.wp RQ
set_option maxHeartbeats 4000000 in
set_option maxRecDepth 8000 in
theorem rcheck54_any (p:List UInt8) (w:World):Calls Tryz.prog 54 #[str p] w (Rt fun u w'=>u=int (checkF p)∧Ext w w'):=by
  refine calls_E (n:=11) (args:=[str p]) Tryz.func54 rfl Tryz.ntmps54 (by simp) ?_
  have ct:=tokens_any p w
  unfold checkF
  cases ht:tokens p with
  | error e=>
    rw [ht] at ct
    (repeat' (first|(refine EL_call Z Z (entersF Z Z en100) ct (fun vC wC hC=>?_);obtain⟨xC,rfl⟩:=hC)|(refine at_EL ?_;first|refine eN ?_|refine eV Z Z (zA Z Z) ?_|refine eV Z Z (zB Z Z) ?_|refine eV Z Z (zF Z Z Z) ?_)|(refine at_K ?_;first|refine K_then ?_)|(refine at_E ?_;first|refine E_seq ?_|refine E_region ?_|refine E_ret ?_)))
    exact ret_1 Z Z ⟨rfl,xC⟩
  | ok ts=>
    rw [ht] at ct
    (repeat' (first|(refine EL_call Z Z (entersF Z Z en100) ct (fun vC wC hC=>?_);obtain⟨xC,vt,rfl,_⟩:=hC)|(refine at_EL ?_;first|refine eN ?_|refine eV Z Z (zA Z Z) ?_|refine eV Z Z (zB Z Z) ?_|refine eV Z Z (zF Z Z Z) ?_)|(refine at_K ?_;first|refine K_then ?_)|(refine at_E ?_;first|refine E_seq ?_|refine E_region ?_|refine E_ret ?_)))
    exact ret_1 Z Z ⟨rfl,xC⟩
theorem kids151_any (op:Int) (w:World):Calls Tryz.prog 151 #[int op] w (Rt fun u w'=>u=int (kidsC op)∧Ext w w'):=by
  refine calls_E (n:=8) (args:=[int op]) Tryz.func151 rfl Tryz.ntmps151 (by simp) ?_
  (repeat' (first|(refine at_EL ?_;first|refine eN ?_|refine eV Z Z (zA Z Z) ?_|refine eV Z Z (zB Z Z) ?_|(refine at_bin ?_;first|refine eD Z Z (zM Z Z Z) (fun hh=>?_) (fun hh=>?_)))|(refine at_K ?_;first|refine K_then ?_|refine K_in ?_|refine K_then_ret ?_|refine K_in_ret ?_)|(refine at_E ?_;first|refine E_seq ?_|refine E_region ?_|refine E_cond_t Z ?_|refine E_cond_f Z ?_|refine E_block ?_|refine E_skip ?_|refine E_ret ?_)))
  all_goals exact ret_1 Z Z ⟨by unfold kidsC;simp [*],Ext.refl w⟩
set_option maxHeartbeats 4000000 in
set_option maxRecDepth 8000 in
theorem nodes_sz:∀(z:Nat) (q:Qy),SizeOf.sizeOf q<z→∀(qv:Value) (w:World),QAt w qv q→Calls Tryz.prog 79 #[qv] w (Rt fun u w'=>u=int (nodesW q)∧Ext w w'):=by
  intro z
  induction z with
  | zero=>intro q hq;omega
  | succ z ih=>
  intro q hqz qv w hqv
  obtain⟨op,role,txt,kids⟩:=q
  obtain⟨kv,rfl,hkv⟩:=hqv
  change Sl w kv kids at hkv
  show Calls Tryz.prog 79 #[.agg #[int op,int role,str txt,kv]] w _
  have hkv0:=hkv
  obtain⟨a,cap,rfl,hc,hm,hp⟩:=hkv.sl
  refine calls_E (n:=21) (args:=[.agg #[int op,int role,str txt,.slice a kids.length cap]]) Tryz.func79 rfl Tryz.ntmps79 (by simp) ?_
  refine E_seq ?_
  refine E_region ?_
  refine EL_box Z Z Z Z (fun bQ wQ xQ hbQ rQ0=>?_)
  have rQ:Row wQ bQ 36 [int op,int role,str txt,.slice a kids.length cap]:=rQ0
  clear rQ0
  (repeat' (first|refine eV Z Z (val_load Z Z Z (rQ.cellAt (j:=3) Z)) ?_|(refine at_EL ?_;first|refine eN ?_|refine eV Z Z (zA Z Z) ?_|refine eV Z Z (zB Z Z) ?_|(refine at_call ?_;first|refine eV Z Z (zK Z Z) ?_)|refine eV Z Z (zH Z Z) ?_)|(refine at_K ?_;first|refine K_then ?_)|(refine at_E ?_;first|refine E_seq ?_|refine E_region ?_|refine E_block ?_)))
  refine E_loop (ι:=Nat) (fun i=>[(1,.pointer (some ⟨bQ,0,none⟩)),(3,int (nodesA (kids.take i) 1)),(7,int kids.length),(8,int i)])
    (fun i wr=>i≤kids.length∧Ext wQ wr) (fun i=>kids.length-i) 0
    ⟨rfl,rfl,rfl,rfl,trivial⟩ ⟨Nat.zero_le _,Ext.refl _⟩ ?_
  rintro i wr ⟨hi,hx⟩
  have rQr:=rQ.ext hx
  have hX:=xQ.trans hx
  by_cases hlt:i<kids.length
  · obtain⟨b,off,rfl⟩:=hp (by omega)
    obtain⟨k,hk⟩:∃ k,kids[i]?=some k:=⟨_,List.getElem?_eq_getElem hlt⟩
    obtain⟨kkv,hkat,hkk⟩:=kid_at (hkv0.ext hX) hk
    have hksz:=kid_small (op:=op) (role:=role) (t:=txt) hk
    have ck:=ih k (by omega) (.agg #[int k.op,int k.role,str k.text,kkv]) wr ⟨kkv,rfl,hkk⟩
    (repeat' (first|refine eV Z Z (val_load Z Z Z (rQr.cellAt (j:=3) Z)) ?_|refine eV Z Z (val_indexAddr (m:=i) Z Z Z Z hlt) ?_|refine eV Z Z (val_loadA Z Z Z hkat rfl) ?_|(refine EL_call Z Z (entersF Z Z en79) ck (fun vC wC hC=>?_);obtain⟨rfl,xC⟩:=hC)|refine eV Z Z (val_addW (b:=nodesW k) Z Z Z) ?_|(refine at_EL ?_;first|refine eN ?_|refine eV Z Z (zA Z Z) ?_|refine eV Z Z (zB Z Z) ?_|(refine at_bin ?_;first|refine eD Z Z (zL Z Z Z) (fun hh=>?_) (fun hh=>?_)|refine eV Z Z (zU Z Z Z (by omega) (by omega)) ?_)|refine eV Z Z (zH Z Z) ?_)|(refine at_K ?_;first|refine K_then ?_|refine K_in ?_|refine K_then_exit ?_|refine K_in_exit ?_)|(refine at_E ?_;first|refine E_seq ?_|refine E_region ?_|refine E_cond_t Z ?_|refine E_cond_f Z ?_|refine E_block ?_|refine E_skip ?_|refine E_ret ?_|refine E_exit ?_)))
    all_goals (first|(exfalso;omega)|skip)
    exact K_rnd (i+1) ⟨rfl,by rw [nodesA_take hk];rfl,rfl,rfl,trivial⟩ ⟨by omega,hx.trans xC⟩ (by omega)
  · obtain rfl:i=kids.length:=by omega
    rw [List.take_length]
    (repeat' (first|(refine at_EL ?_;first|refine eN ?_|refine eV Z Z (zA Z Z) ?_|refine eV Z Z (zB Z Z) ?_|(refine at_bin ?_;first|refine eD Z Z (zL Z Z Z) (fun hh=>?_) (fun hh=>?_))|refine eV Z Z (zH Z Z) ?_)|(refine at_K ?_;first|refine K_then ?_|refine K_then_exit ?_|refine K_in_exit ?_)|(refine at_E ?_;first|refine E_seq ?_|refine E_region ?_|refine E_cond_t Z ?_|refine E_cond_f Z ?_|refine E_block ?_|refine E_skip ?_|refine E_ret ?_|refine E_exit ?_)))
    all_goals (first|(exfalso;omega)|skip)
    exact ret_1 Z Z ⟨by unfold nodesW;rfl,hX⟩
set_option maxHeartbeats 4000000 in
set_option maxRecDepth 8000 in
theorem depth_sz:∀(z:Nat) (q:Qy),SizeOf.sizeOf q<z→∀(qv:Value) (w:World),QAt w qv q→Calls Tryz.prog 56 #[qv] w (Rt fun u w'=>u=int (depthW q)∧Ext w w'):=by
  intro z
  induction z with
  | zero=>intro q hq;omega
  | succ z ih=>
  intro q hqz qv w hqv
  obtain⟨op,role,txt,kids⟩:=q
  obtain⟨kv,rfl,hkv⟩:=hqv
  change Sl w kv kids at hkv
  show Calls Tryz.prog 56 #[.agg #[int op,int role,str txt,kv]] w _
  have hkv0:=hkv
  obtain⟨a,cap,rfl,hc,hm,hp⟩:=hkv.sl
  refine calls_E (n:=22) (args:=[.agg #[int op,int role,str txt,.slice a kids.length cap]]) Tryz.func56 rfl Tryz.ntmps56 (by simp) ?_
  refine E_seq ?_
  refine E_region ?_
  refine EL_box Z Z Z Z (fun bQ wQ xQ hbQ rQ0=>?_)
  have rQ:Row wQ bQ 36 [int op,int role,str txt,.slice a kids.length cap]:=rQ0
  clear rQ0
  (repeat' (first|refine eV Z Z (val_load Z Z Z (rQ.cellAt (j:=3) Z)) ?_|(refine at_EL ?_;first|refine eN ?_|refine eV Z Z (zA Z Z) ?_|refine eV Z Z (zB Z Z) ?_|(refine at_call ?_;first|refine eV Z Z (zK Z Z) ?_)|refine eV Z Z (zH Z Z) ?_)|(refine at_K ?_;first|refine K_then ?_)|(refine at_E ?_;first|refine E_seq ?_|refine E_region ?_|refine E_block ?_)))
  refine E_loop (ι:=Nat) (fun i=>[(1,.pointer (some ⟨bQ,0,none⟩)),(3,int (depthA (kids.take i) 0)),(7,int kids.length),(8,int i)])
    (fun i wr=>i≤kids.length∧Ext wQ wr) (fun i=>kids.length-i) 0
    ⟨rfl,rfl,rfl,rfl,trivial⟩ ⟨Nat.zero_le _,Ext.refl _⟩ ?_
  rintro i wr ⟨hi,hx⟩
  have rQr:=rQ.ext hx
  have hX:=xQ.trans hx
  by_cases hlt:i<kids.length
  · obtain⟨b,off,rfl⟩:=hp (by omega)
    obtain⟨k,hk⟩:∃ k,kids[i]?=some k:=⟨_,List.getElem?_eq_getElem hlt⟩
    obtain⟨kkv,hkat,hkk⟩:=kid_at (hkv0.ext hX) hk
    have hksz:=kid_small (op:=op) (role:=role) (t:=txt) hk
    have ck:=ih k (by omega) (.agg #[int k.op,int k.role,str k.text,kkv]) wr ⟨kkv,rfl,hkk⟩
    (repeat' (first|refine eV Z Z (val_load Z Z Z (rQr.cellAt (j:=3) Z)) ?_|refine eV Z Z (val_indexAddr (m:=i) Z Z Z Z hlt) ?_|refine eV Z Z (val_loadA Z Z Z hkat rfl) ?_|(refine EL_call Z Z (entersF Z Z en56) ck (fun vC wC hC=>?_);obtain⟨rfl,xC⟩:=hC)|refine eV Z Z (val_max Z Z Z) ?_|(refine at_EL ?_;first|refine eN ?_|refine eV Z Z (zA Z Z) ?_|refine eV Z Z (zB Z Z) ?_|(refine at_bin ?_;first|refine eD Z Z (zL Z Z Z) (fun hh=>?_) (fun hh=>?_)|refine eV Z Z (zU Z Z Z (by omega) (by omega)) ?_)|refine eV Z Z (zH Z Z) ?_)|(refine at_K ?_;first|refine K_then ?_|refine K_in ?_|refine K_then_exit ?_|refine K_in_exit ?_)|(refine at_E ?_;first|refine E_seq ?_|refine E_region ?_|refine E_cond_t Z ?_|refine E_cond_f Z ?_|refine E_block ?_|refine E_skip ?_|refine E_ret ?_|refine E_exit ?_)))
    all_goals (first|(exfalso;omega)|skip)
    exact K_rnd (i+1) ⟨rfl,by rw [depthA_take hk];rfl,rfl,rfl,trivial⟩ ⟨by omega,hx.trans xC⟩ (by omega)
  · obtain rfl:i=kids.length:=by omega
    rw [List.take_length]
    (repeat' (first|refine eV Z Z (val_addW (a:=depthA kids 0) Z Z Z) ?_|(refine at_EL ?_;first|refine eN ?_|refine eV Z Z (zA Z Z) ?_|refine eV Z Z (zB Z Z) ?_|(refine at_bin ?_;first|refine eD Z Z (zL Z Z Z) (fun hh=>?_) (fun hh=>?_))|refine eV Z Z (zH Z Z) ?_)|(refine at_K ?_;first|refine K_then ?_|refine K_then_exit ?_|refine K_in_exit ?_)|(refine at_E ?_;first|refine E_seq ?_|refine E_region ?_|refine E_cond_t Z ?_|refine E_cond_f Z ?_|refine E_block ?_|refine E_skip ?_|refine E_ret ?_|refine E_exit ?_)))
    all_goals (first|(exfalso;omega)|skip)
    exact ret_1 Z Z ⟨by unfold depthW;rfl,hX⟩
theorem nodes_any (q:Qy) (qv:Value) (w:World) (h:QAt w qv q):Calls Tryz.prog 79 #[qv] w (Rt fun u w'=>u=int (nodesW q)∧Ext w w'):=nodes_sz _ q (Nat.lt_succ_self _) qv w h
theorem depth_any (q:Qy) (qv:Value) (w:World) (h:QAt w qv q):Calls Tryz.prog 56 #[qv] w (Rt fun u w'=>u=int (depthW q)∧Ext w w'):=depth_sz _ q (Nat.lt_succ_self _) qv w h
set_option maxHeartbeats 8000000 in
set_option maxRecDepth 8000 in
theorem node_sz:∀(z:Nat) (q:Qy),SizeOf.sizeOf q<z→∀(qv:Value) (w:World),QAt w qv q→Calls Tryz.prog 115 #[qv] w (Rt fun u w'=>(∃ e:Int,u=int e∧(e=0→okQ q))∧Ext w w'):=by
  intro z
  induction z with
  | zero=>intro q hq;omega
  | succ z ih=>
  intro q hqz qv w hqv
  obtain⟨op,role,txt,kids⟩:=q
  obtain⟨kv,rfl,hkv⟩:=hqv
  change Sl w kv kids at hkv
  show Calls Tryz.prog 115 #[.agg #[int op,int role,str txt,kv]] w _
  have hkv0:=hkv
  obtain⟨a,cap,rfl,hc,hm,hp⟩:=hkv.sl
  refine calls_E (n:=66) (args:=[.agg #[int op,int role,str txt,.slice a kids.length cap]]) Tryz.func115 rfl Tryz.ntmps115 (by simp) ?_
  refine E_seq ?_
  refine E_region ?_
  refine EL_box Z Z Z Z (fun bQ wQ xQ hbQ rQ0=>?_)
  have rQ:Row wQ bQ 36 [int op,int role,str txt,.slice a kids.length cap]:=rQ0
  clear rQ0
  (repeat' (first|refine yV Z Z (fun wq _ xq=>val_load Z Z Z ((rQ.ext xq).cellAt (j:=0) Z)) ?_|refine yV Z Z (fun wq _ xq=>val_load Z Z Z ((rQ.ext xq).cellAt (j:=3) Z)) ?_|refine RQ_call Z Z (fun _ _ _=>entersF Z Z en151) (fun wq xq=>kids151_any op wq) ?_|refine eV Z Z (val_load Z Z Z ((rQ.ext xq).cellAt (j:=0) Z)) ?_|refine eV Z Z (val_load Z Z Z ((rQ.ext xq).cellAt (j:=1) Z)) ?_|refine eV Z Z (val_load Z Z Z ((rQ.ext xq).cellAt (j:=2) Z)) ?_|refine eV Z Z (val_load Z Z Z ((rQ.ext xq).cellAt (j:=3) Z)) ?_|(refine EL_call Z Z (entersF Z Z en54) (rcheck54_any txt _) (fun vC wC hC=>?_);obtain⟨rfl,xC⟩:=hC)|(refine at_EL ?_;first|refine eN ?_|refine eO Z Z ?_|refine eV Z Z (zA Z Z) ?_|refine eV Z Z (zB Z Z) ?_|(refine at_bin ?_;first|refine eD Z Z (zL Z Z Z) (fun hh=>?_) (fun hh=>?_)|refine eD Z Z (zM Z Z Z) (fun hh=>?_) (fun hh=>?_)|refine eD Z Z (zO Z Z Z) (fun hh=>?_) (fun hh=>?_)|refine eD Z Z (zQ Z Z Z) (fun hh=>?_) (fun hh=>?_)|refine eD Z Z (zS Z Z Z) (fun hh=>?_) (fun hh=>?_))|(refine at_call ?_;first|refine eV Z Z (zK Z Z) ?_)|refine eV Z Z (zC Z Z Z) ?_|refine eV Z Z (zD Z Z Z) ?_|refine eV Z Z (zH Z Z) ?_)|(refine at_K ?_;first|refine K_then ?_|refine K_then_ret ?_)|(refine at_E ?_;first|refine E_seq ?_|refine E_region ?_|refine E_cond_t Z ?_|refine E_cond_f Z ?_|refine E_block ?_|refine E_skip ?_|refine E_ret ?_|refine E_dq mixedOk (by kernel_rfl) Z ?_)|(refine at_RQ ?_;first|refine yN Z (fun wq xq=>?_)|refine yO Z Z ?_|refine yV Z Z (fun _ _ _=>zA Z Z) ?_|(refine at_binR ?_;first|refine yD Z Z (fun _ _ _=>zL Z Z Z) (fun hh=>?_) (fun hh=>?_)|refine yD Z Z (fun _ _ _=>zO Z Z Z) (fun hh=>?_) (fun hh=>?_)|refine yD Z Z (fun _ _ _=>zQ Z Z Z) (fun hh=>?_) (fun hh=>?_))|(refine at_callR ?_;first|refine yV Z Z (fun _ _ _=>zK Z Z) ?_)|refine yV Z Z (fun _ _ _=>zC Z Z Z) ?_|refine yV Z Z (fun _ _ _=>zD Z Z Z) ?_|refine yV Z Z (fun _ _ _=>zH Z Z) ?_)))
  all_goals (first|(exfalso;omega)|skip)
  all_goals first
    | exact ret_1 Z Z ⟨⟨_,rfl,fun e=>absurd e (by decide)⟩,xQ.trans xq⟩
    | (refine ret_1 rfl rfl ⟨⟨_, rfl, fun _ => ?_⟩, xQ.trans (xq.trans xC)⟩
       unfold okQ
       have hk0:kids.length=0:=by
         have:kidsC op=0:=by unfold kidsC;rw [if_pos (by assumption)]
         omega
       exact⟨by omega,by omega,by omega,okAll_of fun i r hr=>by have:=(List.getElem?_eq_some_iff.1 hr).1;omega⟩)
    | skip
  all_goals
    have hX0:=xQ.trans xq
    have rQ0:=rQ.ext xq
    refine E_loop (ι:=Nat) (fun i=>[(1,.pointer (some ⟨bQ,0,none⟩)),(52,int kids.length),(53,int i)])
      (fun i wr=>i≤kids.length∧Ext wq wr∧∀ j k,j<i→kids[j]?=some k→okQ k) (fun i=>kids.length-i) 0
      ⟨rfl,rfl,rfl,trivial⟩ ⟨Nat.zero_le _,Ext.refl _,fun j k hj=>absurd hj (by omega)⟩ ?_
    rintro i wr ⟨hi,hx,hall⟩
    have rQr:=rQ0.ext hx
    have hX:=hX0.trans hx
    by_cases hlt:i<kids.length
    · obtain ⟨b, off, rfl⟩ := hp (by omega)
      obtain⟨k,hk⟩:∃ k,kids[i]?=some k:=⟨_,List.getElem?_eq_getElem hlt⟩
      obtain⟨kkv,hkat,hkk⟩:=kid_at (hkv0.ext hX) hk
      have hksz:=kid_small (op:=op) (role:=role) (t:=txt) hk
      have ck:=ih k (by omega) (.agg #[int k.op,int k.role,str k.text,kkv]) wr ⟨kkv,rfl,hkk⟩
      (repeat' (first|refine eV Z Z (val_load Z Z Z (rQr.cellAt (j:=3) Z)) ?_|refine eV Z Z (val_indexAddr (m:=i) Z Z Z Z hlt) ?_|refine eV Z Z (val_loadA Z Z Z hkat rfl) ?_|(refine EL_call Z Z (entersF Z Z en115) ck (fun vC wC hC=>?_);obtain⟨⟨e,rfl,he⟩,xC⟩:=hC)|(refine at_EL ?_;first|refine eN ?_|refine eV Z Z (zA Z Z) ?_|refine eV Z Z (zB Z Z) ?_|(refine at_bin ?_;first|refine eD Z Z (zL Z Z Z) (fun hh=>?_) (fun hh=>?_)|refine eD Z Z (zQ Z Z Z) (fun hh=>?_) (fun hh=>?_)|refine eV Z Z (zU Z Z Z (by omega) (by omega)) ?_)|refine eV Z Z (zH Z Z) ?_)|(refine at_K ?_;first|refine K_then ?_|refine K_in ?_|refine K_then_ret ?_|refine K_then_exit ?_|refine K_in_ret ?_|refine K_in_exit ?_)|(refine at_E ?_;first|refine E_seq ?_|refine E_region ?_|refine E_cond_t Z ?_|refine E_cond_f Z ?_|refine E_block ?_|refine E_skip ?_|refine E_ret ?_|refine E_exit ?_)))
      all_goals (first|(exfalso;omega)|skip)
      all_goals first
        | exact ret_1 Z Z ⟨⟨_,rfl,fun e0=>by omega⟩,hX.trans xC⟩
        | (refine K_rnd (i + 1) ⟨rfl, rfl, rfl, trivial⟩ ⟨by omega, hx.trans xC, fun j k' hj hk' => ?_⟩ (by omega)
           by_cases ej:j=i
           · subst ej
             rw [hk] at hk'
             cases hk'
             exact he (by omega)
           · exact hall j k' (by omega) hk')
    · obtain rfl:i=kids.length:=by omega
      (repeat' (first|(refine at_EL ?_;first|refine eN ?_|refine eV Z Z (zA Z Z) ?_|refine eV Z Z (zB Z Z) ?_|(refine at_bin ?_;first|refine eD Z Z (zL Z Z Z) (fun hh=>?_) (fun hh=>?_))|refine eV Z Z (zH Z Z) ?_)|(refine at_K ?_;first|refine K_then ?_|refine K_then_exit ?_|refine K_in_exit ?_)|(refine at_E ?_;first|refine E_seq ?_|refine E_region ?_|refine E_cond_t Z ?_|refine E_cond_f Z ?_|refine E_block ?_|refine E_skip ?_|refine E_ret ?_|refine E_exit ?_)))
      all_goals (first|(exfalso;omega)|skip)
      refine ret_1 Z Z ⟨⟨_,rfl,fun _=>?_⟩,hX⟩
      unfold okQ
      exact⟨by omega,by omega,by omega,okAll_of fun j k hk=>hall j k (List.getElem?_eq_some_iff.1 hk).1 hk⟩
theorem node_any (q:Qy) (qv:Value) (w:World) (h:QAt w qv q):Calls Tryz.prog 115 #[qv] w (Rt fun u w'=>(∃ e:Int,u=int e∧(e=0→okQ q))∧Ext w w'):=node_sz _ q (Nat.lt_succ_self _) qv w h
set_option maxHeartbeats 8000000 in
set_option maxRecDepth 8000 in
theorem qcheck_any (q:Qy) (qv:Value) (w:World) (h:QAt w qv q):Calls Tryz.prog 78 #[qv] w (Rt fun u w'=>(∃ e:Int,u=int e∧(e=0→okQ q∧nodesW q≤60∧depthW q≤12))∧Ext w w'):=by
  have h0:=h
  obtain⟨kv,rfl,hkv⟩:=h
  refine calls_E (n:=13) (args:=[.agg #[int q.op,int q.role,str q.text,kv]]) Tryz.func78 rfl Tryz.ntmps78 (by simp) ?_
  obtain⟨a,cap,rfl,hc,hm,hp⟩:=hkv.sl
  refine E_seq ?_
  refine E_region ?_
  refine EL_box Z Z Z Z (fun bQ wQ xQ hbQ rQ0=>?_)
  have rQ:Row wQ bQ 36 [int q.op,int q.role,str q.text,.slice a q.kids.length cap]:=rQ0
  clear rQ0
  have hq:=h0.ext xQ
  have cn:=nodes_any q _ wQ hq
  (repeat' (first|refine eV Z Z (val_loadA Z Z Z rQ.at rfl) ?_|(refine EL_call Z Z (entersF Z Z en79) cn (fun vC wC hC=>?_);obtain⟨rfl,xC⟩:=hC;replace rQ:=rQ.ext xC;replace hq:=hq.ext xC;replace xQ:=xQ.trans xC;clear xC)|(refine EL_call Z Z (entersF Z Z en56) (depth_any q _ _ hq) (fun vC wE hC=>?_);obtain⟨rfl,xC⟩:=hC;replace rQ:=rQ.ext xC;replace hq:=hq.ext xC;replace xQ:=xQ.trans xC;clear xC)|(refine EL_call Z Z (entersF Z Z en115) (node_any q _ _ hq) (fun vC wF hC=>?_);obtain⟨⟨e,rfl,he⟩,xC⟩:=hC)|(refine at_EL ?_;first|refine eN ?_|refine eO Z Z ?_|refine eV Z Z (zA Z Z) ?_|refine eV Z Z (zB Z Z) ?_|(refine at_bin ?_;first|refine eD Z Z (zO Z Z Z) (fun hh=>?_) (fun hh=>?_))|refine eV Z Z (zC Z Z Z) ?_|refine eV Z Z (zD Z Z Z) ?_)|(refine at_K ?_;first|refine K_then ?_|refine K_then_ret ?_)|(refine at_E ?_;first|refine E_seq ?_|refine E_region ?_|refine E_cond_t Z ?_|refine E_cond_f Z ?_|refine E_skip ?_|refine E_ret ?_)))
  all_goals (first|(exfalso;omega)|skip)
  all_goals first
    | exact ret_1 Z Z ⟨⟨_,rfl,fun e=>absurd e (by decide)⟩,xQ⟩
    | exact ret_1 Z Z ⟨⟨_,rfl,fun e0=>⟨he e0,by omega,by omega⟩⟩,xQ.trans xC⟩
end Go.Proofs.YtnifmbbpfdghmaaGreatDoor
