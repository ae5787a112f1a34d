/-
  Walks of the layers runes and pattern. Walks of the layers runes and pattern.
-/
import Derived.Test.YtnifmbbpfdghmaaGreatDoorY2
import Derived.RangeFuncNested
import Derived.RangeFuncBound
import Derived.RangeFuncCalls
import Derived.RangeFuncLeaves
import Derived.Shelf.Abstract
import Derived.Shelf.RegionOpen
import Derived.WalkKit
import Derived.OwnWalkIn
import Derived.TacticsInMore
import Derived.LoopNIn
import Derived.LoopIn
import Derived.Maps.AppendAt
import Derived.Lib.OthersKept
set_option linter.all false
namespace Go.Proofs.YtnifmbbpfdghmaaGreatDoor
open Go.RowKit Go.En
attribute [local irreducible] E EL K Val Enters Rt Calls bodyPost Code.wp RQ
def itCells (x:Int × Nat):List Value:=[int x.1,.int .i32 (x.2:Int)]
def ItsOwn (w0 w:World) (v:Value) (xs:List (Int × Nat)):Prop:=w.ownsRow w0.heap.size 131 2 v xs.length (xs.map itCells).flatten
def ItR (w:World) (r:Option ItSt) (u:Value) (w':World):Prop:=Ext w w'∧match r with|none=>u=.tuple #[.slice none 0 0,.bool false]|some (xs,b)=>∃ v,u=.tuple #[v,.bool (!b)]∧ItsOwn w w' v xs
set_option maxRecDepth 8000 in
theorem itCells_app (xs:List (Int × Nat)) (x:Int × Nat):((xs++[x]).map itCells).flatten=(xs.map itCells).flatten++itCells x:=by simp
set_option maxRecDepth 8000 in
theorem sp_pos {z:Nat} (h:z=42∨z=63∨z=92):specialI (z:Int)=true:=by rw [special_nat];rcases h with rfl|rfl|rfl <;> rfl
set_option maxRecDepth 8000 in
theorem sp_neg {z:Nat} (h:¬ (z=42∨z=63∨z=92)):¬ specialI (z:Int)=true:=by rw [special_nat];simp;omega
set_option maxRecDepth 8000 in
theorem itStep_esc {acc:List (Int × Nat)} {z:Nat} (h:z=42∨z=63∨z=92):itStep (acc,true) z=some (acc++[(0,z)],false):=by simp [itStep,sp_pos h]
set_option maxRecDepth 8000 in
theorem itStep_bad {acc:List (Int × Nat)} {z:Nat} (h:¬ (z=42∨z=63∨z=92)):itStep (acc,true) z=none:=by simp [itStep,sp_neg h]
set_option maxRecDepth 8000 in
theorem itStep_plain {acc:List (Int × Nat)} {z:Nat} (h:¬ (z=42∨z=63∨z=92)):itStep (acc,false) z=some (acc++[(0,z)],false):=by simp [itStep,sp_neg h]
set_option maxRecDepth 8000 in
theorem itStep_many {acc:List (Int × Nat)} {z:Nat} (h:z=42):itStep (acc,false) z=some (acc++[(2,0)],false):=by have hs:=sp_pos (z:=z) (.inl h);subst h;simp only [itStep,hs];simp
set_option maxRecDepth 8000 in
theorem itStep_one {acc:List (Int × Nat)} {z:Nat} (h:z=63):itStep (acc,false) z=some (acc++[(1,0)],false):=by have hs:=sp_pos (z:=z) (.inr (.inl h));subst h;simp only [itStep,hs];simp
set_option maxRecDepth 8000 in
theorem itStep_bs {acc:List (Int × Nat)} {z:Nat} (h:z=92):itStep (acc,false) z=some (acc,true):=by have hs:=sp_pos (z:=z) (.inr (.inr h));subst h;simp only [itStep,hs];simp
set_option maxRecDepth 8000 in
set_option maxHeartbeats 4000000 in
theorem items_any (p:List UInt8) (hl:p.length≤1048576) (zs:List Nat) (hp:points p=some zs) (w:World):Calls Tryz.prog 120 #[str p] w (Rt (ItR w (itGo ([],false) zs))):=by
  obtain⟨hzl,hsc,_⟩:=points_len _ p zs (Nat.le_refl _) hp
  refine calls_E (n:=58) (args:=[str p]) Tryz.func120 rfl Tryz.ntmps120 (by simp) ?_
  (repeat' (first|refine EL_rangeStr Z Z Z Z (fun rI wI xI hrI iI=>?_)|(refine at_EL ?_;first|refine EL_nil ?_|refine EL_val Z Z (val_move Z Z) ?_|refine EL_val Z Z (val_assign Z Z) ?_)|(refine at_K ?_;first|refine K_then ?_)|(refine at_E ?_;first|refine E_seq ?_|refine E_region ?_|refine E_block ?_)))
  refine E_loop (ι:=Nat × List Nat × Value × ItSt) (fun x=>[(4,x.2.2.1),(5,.bool x.2.2.2.2),(10,.pointer (some ⟨rI,0,none⟩))])
    (fun x wr=>x.1≤p.length∧x.2.2.2.1.length+x.2.1.length≤p.length∧points (p.drop x.1)=some x.2.1∧itGo ([],false) zs=itGo x.2.2.2 x.2.1∧It wr rI p x.1∧wI.heap.size≤wr.heap.size∧wr.ownsRow wI.heap.size 131 2 x.2.2.1 x.2.2.2.1.length (x.2.2.2.1.map itCells).flatten∧Ext w wr) (fun x=>p.length-x.1) (0,zs,.slice none 0 0,([],false))
    ⟨rfl,rfl,rfl,trivial⟩ ⟨Nat.zero_le _,by simpa using hzl,hp,rfl,iI,Nat.le_refl _,World.ownsRow_nil _ _ _ _,xI⟩ ?_
  rintro⟨i,rs,v,acc,esc⟩ wr ⟨hi,hlen,hpt,hgo,hit,hBw,hown,hx⟩
  dsimp only at hi hlen hpt hgo hit hBw hown hx ⊢
  by_cases hlt:i<p.length
  · have hne:p.drop i≠[]:=by intro h;have:=congrArg List.length h;simp at this;omega
    obtain⟨z,r,n,rfl,hdec,hn1,hn2,hpr,hz⟩:=dec_step hne hpt
    rw [List.length_drop] at hn2
    rw [List.drop_drop] at hpr
    have hz2:=(scal_iff.1 hz).1
    simp only [itGo] at hgo
    have app:∀(a:Int),itCells (a,z)=[int a,.int .i32 (z:Int)]:=fun a=>rfl
    have hgB:∀ b,v.ownBlock=some b→wI.heap.size≤b:=fun b e=>(hown.lt b e).1
    have hrIlt:=iI.lt
    (repeat' (first|(refine EL_nextStr Z Z Z Z hit hlt (fun wN hitN kbN=>?_);rw [hdec] at hitN ⊢;dsimp only at hitN ⊢;have xN:Ext w wN:=kbN.ext hx (fun b e=>by cases e;omega);have oN:=hown.kept kbN (.inr (fun e=>by have:=hgB _ e;omega));have hNs:=xN.size)|refine EL_val Z Z (val_build (vs:=[(0,int 0),(1,.int .i32 (z:Int))]) (itCells (0,z)) Z Z Z) ?_|refine EL_val Z Z (val_build (vs:=[(0,int 1)]) (itCells (1,0)) Z Z Z) ?_|refine EL_val Z Z (val_build (vs:=[(0,int 2)]) (itCells (2,0)) Z Z Z) ?_|(refine EL_append Z Z Z Z (own_ext oN xS) Z rS.at rfl rfl rfl (by decide) (by omega) (by omega) (by have:=xS.size;have:=kbN.size;have:=hBw;omega) (fun vA wA oA kA=>?_);have xA:Ext w wA:=kA.ext (xN.trans xS) (fun b e=>Nat.le_trans xI.size (hgB b e));have itA:=(hitN.ext xS).kb kA (fun e=>by have:=hgB _ e.symm;omega))|(refine at_EL ?_;first|refine EL_nil ?_|refine EL_no Z Z ?_|refine EL_val Z Z (val_move Z Z) ?_|refine EL_val Z Z (val_assign Z Z) ?_|(refine at_bin ?_;first|refine EL_dec Z Z (val_eql Z Z Z) (fun hh=>?_) (fun hh=>?_))|refine EL_val Z Z (val_pick_t Z Z Z) ?_|refine EL_val Z Z (val_pick_f Z Z Z) ?_|refine EL_val Z Z (val_not Z Z) ?_|refine EL_val Z Z (val_extract Z Z Z) ?_|refine EL_lit Z Z Z Z Z Z Z Z (fun bS wS xS hbS rS=>?_)|(refine EL_gcase Z Z Z (fun hg=>?_) (fun hg=>?_) <;> subst hg))|(refine at_K ?_;first|refine K_then ?_|refine K_in ?_|refine K_then_ret ?_|refine K_in_ret ?_)|(refine at_E ?_;first|refine E_seq ?_|refine E_region ?_|refine E_cond_t Z ?_|refine E_cond_f Z ?_|refine E_block ?_|refine E_skip ?_|refine E_ret ?_)))
    all_goals (first|(exfalso;omega)|skip)
    all_goals (simp only [List.length_cons] at hlen)
    all_goals (first
      | (rw [itStep_esc (by omega)] at hgo;(exact K_rnd (i+n,r,vA,(acc++[(0,z)],false)) ⟨rfl,rfl,rfl,trivial⟩ ⟨by omega,by rw [List.length_append];simp only [List.length_cons,List.length_nil];omega,hpr,hgo,itA,(by have:=kA.size;have:=xS.size;have:=kbN.size;omega),by rw [itCells_app,List.length_append];exact oA,xA⟩ (by dsimp only;omega)))
      | (rw [itStep_plain (by omega)] at hgo;(exact K_rnd (i+n,r,vA,(acc++[(0,z)],false)) ⟨rfl,rfl,rfl,trivial⟩ ⟨by omega,by rw [List.length_append];simp only [List.length_cons,List.length_nil];omega,hpr,hgo,itA,(by have:=kA.size;have:=xS.size;have:=kbN.size;omega),by rw [itCells_app,List.length_append];exact oA,xA⟩ (by dsimp only;omega)))
      | (rw [itStep_many (by omega)] at hgo;(exact K_rnd (i+n,r,vA,(acc++[(2,0)],false)) ⟨rfl,rfl,rfl,trivial⟩ ⟨by omega,by rw [List.length_append];simp only [List.length_cons,List.length_nil];omega,hpr,hgo,itA,(by have:=kA.size;have:=xS.size;have:=kbN.size;omega),by rw [itCells_app,List.length_append];exact oA,xA⟩ (by dsimp only;omega)))
      | (rw [itStep_one (by omega)] at hgo;(exact K_rnd (i+n,r,vA,(acc++[(1,0)],false)) ⟨rfl,rfl,rfl,trivial⟩ ⟨by omega,by rw [List.length_append];simp only [List.length_cons,List.length_nil];omega,hpr,hgo,itA,(by have:=kA.size;have:=xS.size;have:=kbN.size;omega),by rw [itCells_app,List.length_append];exact oA,xA⟩ (by dsimp only;omega)))
      | (rw [itStep_bs (by omega)] at hgo;(exact K_rnd (i+n,r,v,(acc,true)) ⟨rfl,rfl,rfl,trivial⟩ ⟨by omega,by omega,hpr,hgo,hitN,(by have:=kbN.size;omega),oN,xN⟩ (by dsimp only;omega)))
      | (rw [itStep_bad (by omega)] at hgo;exact ret_2 Z Z Z ⟨xN,by rw [hgo]⟩)
      | skip)
    · rw [itStep_bs (by omega)] at hgo
      exact K_rnd (i+n,r,v,(acc,true)) ⟨rfl,rfl,rfl,trivial⟩ ⟨by dsimp only;omega,by dsimp only;omega,hpr,hgo,hitN,(by have:=kbN.size;omega),oN,xN⟩ (by dsimp only;omega)
  · have:i=p.length:=by omega
    subst this
    rw [List.drop_length,points_nil] at hpt
    cases hpt
    (repeat' (first|refine EL_nextEnd Z Z Z Z hit (by omega) ?_|(refine at_EL ?_;first|refine EL_nil ?_|refine EL_val Z Z (val_move Z Z) ?_|refine EL_val Z Z (val_assign Z Z) ?_|refine EL_val Z Z (val_not Z Z) ?_|refine EL_val Z Z (val_extract Z Z Z) ?_)|(refine at_K ?_;first|refine K_then ?_|refine K_then_exit ?_|refine K_in_exit ?_)|(refine at_E ?_;first|refine E_seq ?_|refine E_region ?_|refine E_cond_f Z ?_|refine E_ret ?_|refine E_exit ?_)))
    simp only [itGo] at hgo
    exact ret_2 Z Z Z ⟨hx,by rw [hgo];exact⟨v,rfl,own_weak hown xI.size⟩⟩
end Go.Proofs.YtnifmbbpfdghmaaGreatDoor
namespace Go.Proofs.YtnifmbbpfdghmaaGreatDoor
open Go.RowKit Go.Shelf Go.Lib
attribute [local go_sem] Oper.semAt_some
def enc2 (x:Int × Int):Array Value:=#[.int .i64 x.1,.int .i64 x.2]
theorem iterAt_grown (w:World) (k:Nat) (s:ByteArray) (p:Nat):w.grownBy (w.iterAt k s p) (some k):=
  ⟨rfl,rfl,rfl,by rw [Lib.iterAt_size];exact Nat.le_refl _,fun b _ hne=>Lib.iterAt_other w k b s p (fun e=>hne (by rw [e]))⟩
set_option maxRecDepth 100000 in
set_option maxHeartbeats 1000000 in
theorem scalars1_in (n : Nat) (hn : 1 ≤ n) (lv Bn : Nat) (l : List UInt8) (zs : List Nat) (hp : points l = some zs) (J Jx : List (Int × Int) → World → Prop) (W : World) (hJ : AbidesFrom W.heap.size J)
    (hY:∀ pre x W1,J pre W1→pre.length<zs.length→YieldAt Fence.wide (n-1) Tryz.prog lv (enc2 x) W1 fun e W'=>
      (e=.returned (.bool true)∧J (pre++[x]) W'∧KeepsWalks W1 W')∨(e=.returned (.bool false)∧Jx (pre++[x]) W'))
    (hBn:W.cell? ⟨Bn,0,none⟩=some (.string ⟨l.toArray⟩)) (h0:J [] W) :
    CallsIn Fence.wide n Tryz.prog 177 #[.func (.yield lv) #[] #[],.pointer (some ⟨Bn,0,none⟩)] W fun e W'=>(∃ v,e=.returned v)∧
      ((∃ ys,ys.map (·.2)=zs.map Int.ofNat∧J ys W')∨(∃ pre,True∧Jx pre W')):=by
  refine callsIn_of_wp Tryz.func177 rfl trivial ?_ rfl
  simp only [Tryz.ntmps177,List.size_toArray,List.length_cons,List.length_nil,Nat.reduceAdd,Nat.reduceSub,Array.replicate_succ,Array.replicate_zero,List.push_toArray,List.append_toArray,List.nil_append,List.cons_append]
  gi_wp2
  have hsz:(ByteArray.mk l.toArray).size=l.length:=by simp [ByteArray.size]
  gi_loopw [] (fun wr=>∃(pos:Nat) (pre:List (Int × Int)) (rest:List Nat),wr.heap[W.heap.size]?=some (.stringIter ⟨l.toArray⟩ pos)∧pos≤l.length∧points (l.drop pos)=some rest∧pre.map (·.2)++rest.map Int.ofNat=zs.map Int.ofNat∧J pre wr)
    (fun wr=>l.length-wr.iterPos W.heap.size)
  case atStart=>
    exact⟨0,[],zs,World.iter_heap W _ 0,Nat.zero_le _,hp,rfl,hJ [] W _ none h0 (World.grownBy_alloc W _ none) (fun r e=>by cases e)⟩
  case round=>
    obtain⟨pos,pre,rest,hit,hpos,hpt,hx,hJs⟩:=hrel
    by_cases hlt:pos<l.length
    · have hne:l.drop pos≠[]:=by intro h;have:=congrArg List.length h;simp at this;omega
      obtain⟨z,r,m,rfl,hdec,hn1,hn2,hpr,hz⟩:=dec_step hne hpt
      have hdd:=Lib.decodeL_drop ⟨l.toArray⟩ pos
      simp only [List.toList_toArray] at hdd
      rw [hdec] at hdd
      have hd1:(Utf8.decode ⟨l.toArray⟩ pos).1=z:=by rw [← hdd]
      have hd2:(Utf8.decode ⟨l.toArray⟩ pos).2=m:=by rw [← hdd]
      have hnx:∀ ty,(Instr.next (.pointer (some ⟨W.heap.size,0,none⟩)) true ty).run Tryz.prog wr=_:=fun ty=>Lib.run_next_any_at wr W.heap.size ⟨l.toArray⟩ pos ty hit (by rw [hsz];exact hlt)
      rw [hd1,hd2] at hnx
      have hit2:=Lib.iterAt_heap wr W.heap.size ⟨l.toArray⟩ pos (pos+m) hit
      have hJ2:J pre (wr.iterAt W.heap.size ⟨l.toArray⟩ (pos+m)):=hJ pre wr _ (some W.heap.size) hJs (iterAt_grown _ _ _ _) (fun r e=>by cases e;exact⟨Nat.le_refl _,_,hit,rfl⟩)
      have hlen:=congrArg List.length hx
      simp only [List.length_append,List.length_map,List.length_cons] at hlen
      obtain⟨fn,tmps,assign,body,hy,hR⟩:=hY pre ((pos:Int),(z:Int)) _ hJ2 (by omega)
      dsimp only [enc2] at hy
      have hz2:=(scal_iff.1 hz).1
      gi_wp2
      rw [List.length_drop] at hn2
      rw [List.drop_drop] at hpr
      refine hR.mono ?_
      rintro e W3 (⟨rfl,hJ3,hk3⟩|⟨rfl,hJx3⟩)
      · have hit3:W3.heap[W.heap.size]?=some (.stringIter ⟨l.toArray⟩ (pos+m)):=hk3.same _ _ hit2 rfl
        gi_wp2
        go_roundw
        case rel=>exact⟨pos+m,pre++[((pos:Int),(z:Int))],r,hit3,by omega,hpr,by rw [← hx];simp,hJ3⟩
        case measure=>simp only [World.iterPos,hit3,hit];omega
      · gi_wp2
        refine bodyPost_ret (results_none rfl _ _ _) rfl ?_
        exact⟨⟨_,rfl⟩,.inr ⟨pre++[((pos:Int),(z:Int))],trivial,hJx3⟩⟩
    · have:pos=l.length:=by omega
      subst this
      rw [List.drop_length,points_nil] at hpt
      cases hpt
      have hnx:∀ ty,(Instr.next (.pointer (some ⟨W.heap.size,0,none⟩)) true ty).run Tryz.prog wr=_:=fun ty=>Lib.run_next_end_at wr W.heap.size ⟨l.toArray⟩ l.length ty hit (by rw [hsz];omega)
      gi_wp2
      go_end0
      exact⟨⟨_,rfl⟩,.inl ⟨pre,by simpa using hx,hJs⟩⟩
theorem scalars_stops (n:Nat) (hn:1≤n) (Bn:Nat) (l:List UInt8) (zs:List Nat) (hp:points l=some zs) (w:World) (hBn:Bn<w.heap.size) (hc:w.cell? ⟨Bn,0,none⟩=some (.string ⟨l.toArray⟩)) :
    SeqStopsK Fence.wide n Tryz.prog 177 #[.pointer (some ⟨Bn,0,none⟩)] enc2 KeepsWalks (fun ys=>ys.map (·.2)=zs.map Int.ofNat) (fun _=>True) zs.length w:=fun lv J Jx W hW hJ _ hY h0=>
  scalars1_in n hn lv Bn l zs hp J Jx W hJ hY ((hW.cell (p:=⟨Bn,0,none⟩) hBn).trans hc) h0
theorem scalars_in (l:List UInt8) (w:World) :
    Calls Tryz.prog 153 #[.string ⟨l.toArray⟩] w fun e w'=>e=.returned (.func (.func 177) #[] #[.pointer (some ⟨w.heap.size,0,none⟩)])∧w'=w.alloc (.cells #[.string ⟨l.toArray⟩] 9):=by
  refine callsIn_wide (n:=1) |>.1 ?_
  refine callsIn_of_wp Tryz.func153 rfl trivial ?_ rfl
  simp only [Tryz.ntmps153,List.size_toArray,List.length_cons,List.length_nil,Nat.reduceAdd,Nat.reduceSub,Array.replicate_succ,Array.replicate_zero,List.push_toArray,List.append_toArray,List.nil_append,List.cons_append]
  gi_wp2
  go_ret
  exact⟨rfl,rfl⟩
end Go.Proofs.YtnifmbbpfdghmaaGreatDoor
