/-
  The library's utf8.ValidString, laid at this program: what the kit's one command prints, in plain words. Walks of the layers runes and pattern. Walks of the layers runes and pattern. Walks of the layers runes and pattern.
-/
import Derived.Test.YtjicdgejhkgpgaaGreatDoorProg
import Derived.Shelf.Unicode.ValidAny
import Derived.Test.YtjicdgejhkgpgaaGreatDoorYc
import Derived.RangeFuncNested
import Derived.RangeFuncBound
import Derived.RangeFuncCalls
import Derived.RangeFuncLeaves
import Derived.Shelf.Abstract
import Derived.Shelf.RegionOpen
import Derived.WalkKit
import Derived.OwnWalkIn
import Derived.TacticsInMore
import Derived.LoopNIn
import Derived.LoopIn
import Derived.Maps.AppendAt
import Derived.Lib.OthersKept
set_option linter.all false
namespace Go.Proofs
open Go.RowKit Go.Shelf Go.Lib
def Tryz.laysValid_ren:Go.Shelf.Ren:=⟨fun|196=>128|259=>168|n=>n,fun|9=>9|4=>4|3=>3|5=>5|12=>12|119=>224|0=>0|46=>228|139=>227|138=>226|53=>258|n=>n,fun|3=>0|4=>1|n=>n⟩
theorem Tryz.laysValid:Go.Proofs.Lays.n196 Tryz.prog Tryz.laysValid_ren:={
  mixed:=by kernel_rfl
  f196:=Tryz.func128.trans (congrArg some (by kernel_rfl))
  f259:=Tryz.func168.trans (congrArg some (by kernel_rfl))
  t0:=Tryz.underlying0
  a0:=Tryz.isAgg0
  z0:=Tryz.sizeOf0
  v0:=Tryz.zeroValue0
  t3:=Tryz.underlying3
  a3:=Tryz.isAgg3
  z3:=Tryz.sizeOf3
  v3:=Tryz.zeroValue3
  t4:=Tryz.underlying4
  a4:=Tryz.isAgg4
  z4:=Tryz.sizeOf4
  v4:=Tryz.zeroValue4
  t5:=Tryz.underlying5
  a5:=Tryz.isAgg5
  z5:=Tryz.sizeOf5
  v5:=Tryz.zeroValue5
  t9:=Tryz.underlying9
  a9:=Tryz.isAgg9
  z9:=Tryz.sizeOf9
  v9:=Tryz.zeroValue9
  t12:=Tryz.underlying12
  a12:=Tryz.isAgg12
  z12:=Tryz.sizeOf12
  v12:=Tryz.zeroValue12
  t46:=Tryz.underlying228
  a46:=Tryz.isAgg228
  z46:=Tryz.sizeOf228
  v46:=Tryz.zeroValue228
  t53:=Tryz.underlying258
  a53:=Tryz.isAgg258
  z53:=Tryz.sizeOf258
  v53:=Tryz.zeroValue258
  t119:=Tryz.underlying224
  a119:=Tryz.isAgg224
  z119:=Tryz.sizeOf224
  t138:=Tryz.underlying226
  a138:=Tryz.isAgg226
  z138:=Tryz.sizeOf226
  v138:=Tryz.zeroValue226
  t139:=Tryz.underlying227
  a139:=Tryz.isAgg227
  z139:=Tryz.sizeOf227
  v139:=Tryz.zeroValue227
  g3:=by kernel_rfl
  g4:=by kernel_rfl }
end Go.Proofs
namespace Go.Proofs.YtjicdgejhkgpgaaGreatDoor
open Go.Lib
abbrev ItSt:=List (Int × Nat) × Bool
theorem dec_step {d:List UInt8} {zs:List Nat} (hd:d≠[]) (hp:points d=some zs):∃ z r n,zs=z::r∧decodeL d=(z,n)∧1≤n∧n≤d.length∧points (d.drop n)=some r∧scal z=true:=by
  have h:=points_step hd
  rw [hp] at h
  cases hf:firstR d with
  | none=>rw [hf] at h;cases h
  | some q=>
    obtain⟨z,n⟩:=q
    rw [hf] at h
    dsimp only at h
    have hs:=firstR_some hf
    cases hr:points (d.drop n) with
    | none=>rw [hr] at h;cases h
    | some r=>
      rw [hr] at h
      simp at h
      refine⟨z,r,n,h,?_,hs.1,hs.2.1,hr,hs.2.2.1⟩
      rw [firstR_eq d hd] at hf
      split at hf
      · cases hf
      · exact Option.some.inj hf
end Go.Proofs.YtjicdgejhkgpgaaGreatDoor
namespace Go.Proofs.YtjicdgejhkgpgaaGreatDoor
open Go.RowKit Go.Shelf Go.Lib
attribute [local go_sem] Oper.semAt_some
def enc2 (x:Int × Int):Array Value:=#[.int .i64 x.1,.int .i64 x.2]
theorem iterAt_grown (w:World) (k:Nat) (s:ByteArray) (p:Nat):w.grownBy (w.iterAt k s p) (some k):=
  ⟨rfl,rfl,rfl,by rw [Lib.iterAt_size];exact Nat.le_refl _,fun b _ hne=>Lib.iterAt_other w k b s p (fun e=>hne (by rw [e]))⟩
set_option maxRecDepth 100000 in
set_option maxHeartbeats 1000000 in
theorem scalars1_in (n : Nat) (hn : 1 ≤ n) (lv Bn : Nat) (l : List UInt8) (zs : List Nat) (hp : points l = some zs) (J Jx : List (Int × Int) → World → Prop) (W : World) (hJ : AbidesFrom W.heap.size J)
    (hY:∀ pre x W1,J pre W1→pre.length<zs.length→YieldAt Fence.wide (n-1) Tryz.prog lv (enc2 x) W1 fun e W'=>
      (e=.returned (.bool true)∧J (pre++[x]) W'∧KeepsWalks W1 W')∨(e=.returned (.bool false)∧Jx (pre++[x]) W'))
    (hBn:W.cell? ⟨Bn,0,none⟩=some (.string ⟨l.toArray⟩)) (h0:J [] W) :
    CallsIn Fence.wide n Tryz.prog 169 #[.func (.yield lv) #[] #[],.pointer (some ⟨Bn,0,none⟩)] W fun e W'=>(∃ v,e=.returned v)∧
      ((∃ ys,ys.map (·.2)=zs.map Int.ofNat∧J ys W')∨(∃ pre,True∧Jx pre W')):=by
  refine callsIn_of_wp Tryz.func169 rfl trivial ?_ rfl
  simp only [Tryz.ntmps169,List.size_toArray,List.length_cons,List.length_nil,Nat.reduceAdd,Nat.reduceSub,Array.replicate_succ,Array.replicate_zero,List.push_toArray,List.append_toArray,List.nil_append,List.cons_append]
  gi_wp2
  have hsz:(ByteArray.mk l.toArray).size=l.length:=by simp [ByteArray.size]
  gi_loopw [] (fun wr=>∃(pos:Nat) (pre:List (Int × Int)) (rest:List Nat),wr.heap[W.heap.size]?=some (.stringIter ⟨l.toArray⟩ pos)∧pos≤l.length∧points (l.drop pos)=some rest∧pre.map (·.2)++rest.map Int.ofNat=zs.map Int.ofNat∧J pre wr)
    (fun wr=>l.length-wr.iterPos W.heap.size)
  case atStart=>
    exact⟨0,[],zs,World.iter_heap W _ 0,Nat.zero_le _,hp,rfl,hJ [] W _ none h0 (World.grownBy_alloc W _ none) (fun r e=>by cases e)⟩
  case round=>
    obtain⟨pos,pre,rest,hit,hpos,hpt,hx,hJs⟩:=hrel
    by_cases hlt:pos<l.length
    · have hne:l.drop pos≠[]:=by intro h;have:=congrArg List.length h;simp at this;omega
      obtain⟨z,r,m,rfl,hdec,hn1,hn2,hpr,hz⟩:=dec_step hne hpt
      have hdd:=Lib.decodeL_drop ⟨l.toArray⟩ pos
      simp only [List.toList_toArray] at hdd
      rw [hdec] at hdd
      have hd1:(Utf8.decode ⟨l.toArray⟩ pos).1=z:=by rw [← hdd]
      have hd2:(Utf8.decode ⟨l.toArray⟩ pos).2=m:=by rw [← hdd]
      have hnx:∀ ty,(Instr.next (.pointer (some ⟨W.heap.size,0,none⟩)) true ty).run Tryz.prog wr=_:=fun ty=>Lib.run_next_any_at wr W.heap.size ⟨l.toArray⟩ pos ty hit (by rw [hsz];exact hlt)
      rw [hd1,hd2] at hnx
      have hit2:=Lib.iterAt_heap wr W.heap.size ⟨l.toArray⟩ pos (pos+m) hit
      have hJ2:J pre (wr.iterAt W.heap.size ⟨l.toArray⟩ (pos+m)):=hJ pre wr _ (some W.heap.size) hJs (iterAt_grown _ _ _ _) (fun r e=>by cases e;exact⟨Nat.le_refl _,_,hit,rfl⟩)
      have hlen:=congrArg List.length hx
      simp only [List.length_append,List.length_map,List.length_cons] at hlen
      obtain⟨fn,tmps,assign,body,hy,hR⟩:=hY pre ((pos:Int),(z:Int)) _ hJ2 (by omega)
      dsimp only [enc2] at hy
      have hz2:=(scal_iff.1 hz).1
      gi_wp2
      rw [List.length_drop] at hn2
      rw [List.drop_drop] at hpr
      refine hR.mono ?_
      rintro e W3 (⟨rfl,hJ3,hk3⟩|⟨rfl,hJx3⟩)
      · have hit3:W3.heap[W.heap.size]?=some (.stringIter ⟨l.toArray⟩ (pos+m)):=hk3.same _ _ hit2 rfl
        gi_wp2
        go_roundw
        case rel=>exact⟨pos+m,pre++[((pos:Int),(z:Int))],r,hit3,by omega,hpr,by rw [← hx];simp,hJ3⟩
        case measure=>simp only [World.iterPos,hit3,hit];omega
      · gi_wp2
        refine bodyPost_ret (results_none rfl _ _ _) rfl ?_
        exact⟨⟨_,rfl⟩,.inr ⟨pre++[((pos:Int),(z:Int))],trivial,hJx3⟩⟩
    · have:pos=l.length:=by omega
      subst this
      rw [List.drop_length,points_nil] at hpt
      cases hpt
      have hnx:∀ ty,(Instr.next (.pointer (some ⟨W.heap.size,0,none⟩)) true ty).run Tryz.prog wr=_:=fun ty=>Lib.run_next_end_at wr W.heap.size ⟨l.toArray⟩ l.length ty hit (by rw [hsz];omega)
      gi_wp2
      go_end0
      exact⟨⟨_,rfl⟩,.inl ⟨pre,by simpa using hx,hJs⟩⟩
theorem scalars_stops (n:Nat) (hn:1≤n) (Bn:Nat) (l:List UInt8) (zs:List Nat) (hp:points l=some zs) (w:World) (hBn:Bn<w.heap.size) (hc:w.cell? ⟨Bn,0,none⟩=some (.string ⟨l.toArray⟩)) :
    SeqStopsK Fence.wide n Tryz.prog 169 #[.pointer (some ⟨Bn,0,none⟩)] enc2 KeepsWalks (fun ys=>ys.map (·.2)=zs.map Int.ofNat) (fun _=>True) zs.length w:=fun lv J Jx W hW hJ _ hY h0=>
  scalars1_in n hn lv Bn l zs hp J Jx W hJ hY ((hW.cell (p:=⟨Bn,0,none⟩) hBn).trans hc) h0
theorem scalars_in (l:List UInt8) (w:World) :
    Calls Tryz.prog 129 #[.string ⟨l.toArray⟩] w fun e w'=>e=.returned (.func (.func 169) #[] #[.pointer (some ⟨w.heap.size,0,none⟩)])∧w'=w.alloc (.cells #[.string ⟨l.toArray⟩] 9):=by
  refine callsIn_wide (n:=1) |>.1 ?_
  refine callsIn_of_wp Tryz.func129 rfl trivial ?_ rfl
  simp only [Tryz.ntmps129,List.size_toArray,List.length_cons,List.length_nil,Nat.reduceAdd,Nat.reduceSub,Array.replicate_succ,Array.replicate_zero,List.push_toArray,List.append_toArray,List.nil_append,List.cons_append]
  gi_wp2
  go_ret
  exact⟨rfl,rfl⟩
end Go.Proofs.YtjicdgejhkgpgaaGreatDoor
namespace Go.Proofs.YtjicdgejhkgpgaaGreatDoor
open Go.RowKit Go.Shelf Go.Lib
attribute [local go_sem] Oper.semAt_some
def Tabs (w:World):Prop:=Lib.Utf8Tabs (Tryz.laysValid_ren.g 3) (Tryz.laysValid_ren.g 4) w
theorem info3:(Tryz.prog.info? 3).map (fun i=>(i.zero,i.size,i.bytes))=some (some (.int .i64 0),1,8):=by kernel_rfl
set_option maxRecDepth 100000 in
set_option maxHeartbeats 4000000 in
theorem pPoints_some (l:List UInt8) (hl:l.length≤1048576) (zs:List Nat) (hp:points l=some zs) (w:World) (hT:Tabs w) :
    Calls Tryz.prog 95 #[.string ⟨l.toArray⟩] w fun e w'=>∃ v,e=.returned (.tuple #[v,.bool true])∧w'.ownsRow w.heap.size 3 1 v zs.length (zs.map fun(z:Nat)=>.int .i64 (z:Int))∧Below w.heap.size w w':=by
  have hzl:=(points_len _ l zs (Nat.le_refl _) hp).1
  have hval:Lib.validD l=true:=by rw [← points_valid _ l (Nat.le_refl _),hp];rfl
  have hsz:(ByteArray.mk l.toArray).size=l.length:=by simp [ByteArray.size]
  have cV:Calls Tryz.prog 128 #[.string ⟨l.toArray⟩] w _:=Any.utf8_ValidString Tryz.laysValid ⟨l.toArray⟩ w (by rw [hsz];omega) hT
  simp only [List.toList_toArray,hval] at cV
  obtain⟨i0,hi,hz0,hz1,hz2⟩:=info_parts info3
  refine callsIn_wide (n:=5) |>.1 ?_
  refine callsIn_of_wp_marks Tryz.func95 rfl trivial ?_ rfl
  simp only [Tryz.ntmps95,List.size_toArray,List.length_cons,List.length_nil,Nat.reduceAdd,Nat.reduceSub,Array.replicate_succ,Array.replicate_zero,List.push_toArray,List.append_toArray,List.nil_append,List.cons_append]
  gi_wp2_with first|(refine⟨trivial,?_⟩;gi_at_call 128;refine(callsIn_wide.2 cV).mono ?_;rintro e w1 ⟨rfl,hb1⟩;have hs1:=hb1.size)|(refine⟨trivial,?_⟩;gi_at_call 129;refine(callsIn_wide.2 (scalars_in l _)).mono ?_;rintro e w2 ⟨rfl,rfl⟩)
  have bO:=Boxed.new w1 32 (.slice none 0 0)
  have bN:=Boxed.new (w1.alloc (.cells #[.slice none 0 0] 32)) 9 (.string ⟨l.toArray⟩)
  rw [World.size_alloc] at bN
  have hB0:Below w.heap.size w ((w1.alloc (.cells #[.slice none 0 0] 32)).alloc (.cells #[.string ⟨l.toArray⟩] 9)):=(hb1.alloc hs1 _).alloc (by simp;omega) _
  refine wpIn_rangeFunc_ownG rfl (by omega) (gf:=169) (lb:=#[.pointer (some ⟨w1.heap.size+1,0,none⟩)]) rfl trivial (enters_of Tryz.func169 (by kernel_rfl) rfl)
    (scalars_stops 4 (by omega) (w1.heap.size+1) l zs hp _ (by simp) bN.cell) walksK_t walksK_b (Below.refl _ _) (fun _=>rfl)
    (fun pre W=>(∃ v,Boxed W w1.heap.size 32 v∧W.ownsRow w.heap.size 3 1 v pre.length (pre.map fun x=>.int .i64 x.2)∧True)∧Below w.heap.size w W)
    (fun _ _ _=>False)
    (OwnFrom.and (Own.from (holdsRow_own w.heap.size w1.heap.size 32 3 1 (fun pre:List (Int × Int)=>pre.length) (fun pre=>pre.map fun x=>Value.int .i64 x.2) (fun pre v=>True)) _) (ownFrom_below (Nat.le_refl _) (by simp;omega)))
    (fun _ _ _ _ _ hs _ _=>hs)
    ⟨⟨_,bO.alloc _,World.ownsRow_nil _ _ _ _,trivial⟩,hB0⟩
    (fun x=>{ tmps:=#[.string ⟨l.toArray⟩,undef,.slice none 0 0,.bool false,.pointer (some ⟨w1.heap.size,0,none⟩),undef,.int .i64 x.2,.string ⟨l.toArray⟩,.bool true,.bool false,.string ⟨l.toArray⟩,.func (.func 169) #[] #[.pointer (some ⟨w1.heap.size+1,0,none⟩)],.int .i64 x.1,.int .i64 x.2,undef,undef,undef,undef,undef],defers:=[] }) ?assign ?body ?done ?stop
  case assign=>
    intro l x W K hK
    dsimp only [enc2]
    gi_wp2
    exact hK
  case body=>
    rintro lv pre x W ⟨⟨v,hv,hrow,-⟩,hB⟩ hlt
    have hc:=hv.cell
    gi_wp2_with (gi_at_builtin;refine wpListIn_append_own _ rfl _ _ 32 rfl w.heap.size 3 i0 (.int .i64 0) 1 8 Tryz.underlying32 hi hz0 hz1 hz2 rfl (by decide) _ _ _ rfl (hrow.alloc _) ⟨W.heap.size,0,none⟩ 1 1 [.int .i64 x.2] rfl rfl (cell_one_new _ _ _) (by simp [Value.oneCell']) (by unfold maxLen;omega) (by omega) (by have:=hB.size;simp;omega) ?_;intro v' w1 hown' hgrow _;obtain⟨g',cap',rfl⟩:=ownsRow_succ hown';obtain⟨hv1,hv2,hr2,hk2,hb2⟩:=hv.appended (by decide) hrow hB.size (by omega) hown' hgrow;have hc1:=hv1.cell;have hf1:=hv1.frozen)
    exact⟨hk2.from _,hk2.walks,⟨_,hv2,by simpa using hr2,trivial⟩,hB.trans hb2⟩
  case done=>
    rintro D ys W hD hys ⟨⟨v,hv,hrow,-⟩,hB⟩ hK
    have hc:=hv.cell
    have hyl:ys.length=zs.length:=by have:=congrArg List.length hys;simpa using this
    have hyc:ys.map (fun x=>Value.int .i64 x.2)=zs.map fun(z:Nat)=>Value.int .i64 (z:Int):=by
      have:=congrArg (List.map (Value.int .i64)) hys
      simpa [Function.comp_def] using this
    gi_wp2
    refine⟨by simp,.inl ⟨_,_,rfl,run_takeDeferred hK,?_⟩⟩
    refine⟨_,results_tmp2 rfl _ _ _,v,rfl,?_,hB.trans (belowK_b (w:=w) (Nat.le_refl _) W D _ _ (by simp at hD;omega) hK rfl rfl)⟩
    rw [← hyl,← hyc]
    exact ownsRow_putObj hrow _ hK rfl
  case stop=>
    rintro D c pre W _ _ h _
    exact h.elim
set_option maxRecDepth 100000 in
set_option maxHeartbeats 4000000 in
theorem pPoints_none (l:List UInt8) (hl:l.length≤1048576) (hp:points l=none) (w:World) (hT:Tabs w) :
    Calls Tryz.prog 95 #[.string ⟨l.toArray⟩] w fun e w'=>e=.returned (.tuple #[.slice none 0 0,.bool false])∧Below w.heap.size w w':=by
  have hval:Lib.validD l=false:=by rw [← points_valid _ l (Nat.le_refl _),hp];rfl
  have hsz:(ByteArray.mk l.toArray).size=l.length:=by simp [ByteArray.size]
  have cV:Calls Tryz.prog 128 #[.string ⟨l.toArray⟩] w _:=Any.utf8_ValidString Tryz.laysValid ⟨l.toArray⟩ w (by rw [hsz];omega) hT
  simp only [List.toList_toArray,hval] at cV
  refine callsIn_wide (n:=5) |>.1 ?_
  refine callsIn_of_wp_marks Tryz.func95 rfl trivial ?_ rfl
  simp only [Tryz.ntmps95,List.size_toArray,List.length_cons,List.length_nil,Nat.reduceAdd,Nat.reduceSub,Array.replicate_succ,Array.replicate_zero,List.push_toArray,List.append_toArray,List.nil_append,List.cons_append]
  gi_wp2_with (refine⟨trivial,?_⟩;gi_at_call 128;refine(callsIn_wide.2 cV).mono ?_;rintro e w1 ⟨rfl,hb1⟩;have hs1:=hb1.size)
  exact⟨_,results_tmp2 rfl _ _ _,rfl,hb1⟩
open Go.En in
theorem pPoints_any (l:List UInt8) (hl:l.length≤1048576) (w:World) (hT:Tabs w):Calls Tryz.prog 95 #[str l] w (Rt (PointsR w (points l))):=by
  cases hp:points l with
  | none=>
    refine(pPoints_none l hl hp w hT).mono ?_
    rintro e w' ⟨rfl,hb⟩
    exact⟨_,rfl,hb,rfl⟩
  | some zs=>
    refine(pPoints_some l hl zs hp w hT).mono ?_
    rintro e w' ⟨v,rfl,ho,hb⟩
    exact⟨_,rfl,hb,v,rfl,ho⟩
end Go.Proofs.YtjicdgejhkgpgaaGreatDoor
