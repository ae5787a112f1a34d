/-
  The library's utf8.ValidString, laid at this program: what the kit's one command prints, in plain words. Walks of the layers runes and pattern.
-/
import Derived.Test.YtnifmbbpfdghmaaGreatDoorProg
import Derived.Shelf.Unicode.ValidAny
import Derived.Test.YtnifmbbpfdghmaaGreatDoorYk
set_option linter.all false
namespace Go.Proofs
open Go.RowKit Go.Shelf Go.Lib
def Tryz.laysValid_ren:Go.Shelf.Ren:=⟨fun|196=>152|259=>176|n=>n,fun|9=>9|4=>4|3=>3|5=>5|12=>12|119=>169|0=>0|46=>173|139=>172|138=>171|53=>184|n=>n,fun|3=>0|4=>1|n=>n⟩
theorem Tryz.laysValid:Go.Proofs.Lays.n196 Tryz.prog Tryz.laysValid_ren:={
  mixed:=by kernel_rfl
  f196:=Tryz.func152.trans (congrArg some (by kernel_rfl))
  f259:=Tryz.func176.trans (congrArg some (by kernel_rfl))
  t0:=Tryz.underlying0
  a0:=Tryz.isAgg0
  z0:=Tryz.sizeOf0
  v0:=Tryz.zeroValue0
  t3:=Tryz.underlying3
  a3:=Tryz.isAgg3
  z3:=Tryz.sizeOf3
  v3:=Tryz.zeroValue3
  t4:=Tryz.underlying4
  a4:=Tryz.isAgg4
  z4:=Tryz.sizeOf4
  v4:=Tryz.zeroValue4
  t5:=Tryz.underlying5
  a5:=Tryz.isAgg5
  z5:=Tryz.sizeOf5
  v5:=Tryz.zeroValue5
  t9:=Tryz.underlying9
  a9:=Tryz.isAgg9
  z9:=Tryz.sizeOf9
  v9:=Tryz.zeroValue9
  t12:=Tryz.underlying12
  a12:=Tryz.isAgg12
  z12:=Tryz.sizeOf12
  v12:=Tryz.zeroValue12
  t46:=Tryz.underlying173
  a46:=Tryz.isAgg173
  z46:=Tryz.sizeOf173
  v46:=Tryz.zeroValue173
  t53:=Tryz.underlying184
  a53:=Tryz.isAgg184
  z53:=Tryz.sizeOf184
  v53:=Tryz.zeroValue184
  t119:=Tryz.underlying169
  a119:=Tryz.isAgg169
  z119:=Tryz.sizeOf169
  t138:=Tryz.underlying171
  a138:=Tryz.isAgg171
  z138:=Tryz.sizeOf171
  v138:=Tryz.zeroValue171
  t139:=Tryz.underlying172
  a139:=Tryz.isAgg172
  z139:=Tryz.sizeOf172
  v139:=Tryz.zeroValue172
  g3:=by kernel_rfl
  g4:=by kernel_rfl }
end Go.Proofs
namespace Go.Proofs.YtnifmbbpfdghmaaGreatDoor
open Go.RowKit Go.Shelf Go.Lib
attribute [local go_sem] Oper.semAt_some
def Tabs (w:World):Prop:=Lib.Utf8Tabs (Tryz.laysValid_ren.g 3) (Tryz.laysValid_ren.g 4) w
theorem info3:(Tryz.prog.info? 3).map (fun i=>(i.zero,i.size,i.bytes))=some (some (.int .i64 0),1,8):=by kernel_rfl
set_option maxRecDepth 100000 in
set_option maxHeartbeats 4000000 in
theorem pPoints_some (l:List UInt8) (hl:l.length≤1048576) (zs:List Nat) (hp:points l=some zs) (w:World) (hT:Tabs w) :
    Calls Tryz.prog 119 #[.string ⟨l.toArray⟩] w fun e w'=>∃ v,e=.returned (.tuple #[v,.bool true])∧w'.ownsRow w.heap.size 3 1 v zs.length (zs.map fun(z:Nat)=>.int .i64 (z:Int))∧Below w.heap.size w w':=by
  have hzl:=(points_len _ l zs (Nat.le_refl _) hp).1
  have hval:Lib.validD l=true:=by rw [← points_valid _ l (Nat.le_refl _),hp];rfl
  have hsz:(ByteArray.mk l.toArray).size=l.length:=by simp [ByteArray.size]
  have cV:Calls Tryz.prog 152 #[.string ⟨l.toArray⟩] w _:=Any.utf8_ValidString Tryz.laysValid ⟨l.toArray⟩ w (by rw [hsz];omega) hT
  simp only [List.toList_toArray,hval] at cV
  obtain⟨i0,hi,hz0,hz1,hz2⟩:=info_parts info3
  refine callsIn_wide (n:=5) |>.1 ?_
  refine callsIn_of_wp_marks Tryz.func119 rfl trivial ?_ rfl
  simp only [Tryz.ntmps119,List.size_toArray,List.length_cons,List.length_nil,Nat.reduceAdd,Nat.reduceSub,Array.replicate_succ,Array.replicate_zero,List.push_toArray,List.append_toArray,List.nil_append,List.cons_append]
  gi_wp2_with first|(refine⟨trivial,?_⟩;gi_at_call 152;refine(callsIn_wide.2 cV).mono ?_;rintro e w1 ⟨rfl,hb1⟩;have hs1:=hb1.size)|(refine⟨trivial,?_⟩;gi_at_call 153;refine(callsIn_wide.2 (scalars_in l _)).mono ?_;rintro e w2 ⟨rfl,rfl⟩)
  have bO:=Boxed.new w1 22 (.slice none 0 0)
  have bN:=Boxed.new (w1.alloc (.cells #[.slice none 0 0] 22)) 9 (.string ⟨l.toArray⟩)
  rw [World.size_alloc] at bN
  have hB0:Below w.heap.size w ((w1.alloc (.cells #[.slice none 0 0] 22)).alloc (.cells #[.string ⟨l.toArray⟩] 9)):=(hb1.alloc hs1 _).alloc (by simp;omega) _
  refine wpIn_rangeFunc_ownG rfl (by omega) (gf:=177) (lb:=#[.pointer (some ⟨w1.heap.size+1,0,none⟩)]) rfl trivial (enters_of Tryz.func177 (by kernel_rfl) rfl)
    (scalars_stops 4 (by omega) (w1.heap.size+1) l zs hp _ (by simp) bN.cell) walksK_t walksK_b (Below.refl _ _) (fun _=>rfl)
    (fun pre W=>(∃ v,Boxed W w1.heap.size 22 v∧W.ownsRow w.heap.size 3 1 v pre.length (pre.map fun x=>.int .i64 x.2)∧True)∧Below w.heap.size w W)
    (fun _ _ _=>False)
    (OwnFrom.and (Own.from (holdsRow_own w.heap.size w1.heap.size 22 3 1 (fun pre:List (Int × Int)=>pre.length) (fun pre=>pre.map fun x=>Value.int .i64 x.2) (fun pre v=>True)) _) (ownFrom_below (Nat.le_refl _) (by simp;omega)))
    (fun _ _ _ _ _ hs _ _=>hs)
    ⟨⟨_,bO.alloc _,World.ownsRow_nil _ _ _ _,trivial⟩,hB0⟩
    (fun x=>{ tmps:=#[.string ⟨l.toArray⟩,undef,.slice none 0 0,.bool false,.pointer (some ⟨w1.heap.size,0,none⟩),undef,.int .i64 x.2,.string ⟨l.toArray⟩,.bool true,.bool false,.string ⟨l.toArray⟩,.func (.func 177) #[] #[.pointer (some ⟨w1.heap.size+1,0,none⟩)],.int .i64 x.1,.int .i64 x.2,undef,undef,undef,undef,undef],defers:=[] }) ?assign ?body ?done ?stop
  case assign=>
    intro l x W K hK
    dsimp only [enc2]
    gi_wp2
    exact hK
  case body=>
    rintro lv pre x W ⟨⟨v,hv,hrow,-⟩,hB⟩ hlt
    have hc:=hv.cell
    gi_wp2_with (gi_at_builtin;refine wpListIn_append_own _ rfl _ _ 22 rfl w.heap.size 3 i0 (.int .i64 0) 1 8 Tryz.underlying22 hi hz0 hz1 hz2 rfl (by decide) _ _ _ rfl (hrow.alloc _) ⟨W.heap.size,0,none⟩ 1 1 [.int .i64 x.2] rfl rfl (cell_one_new _ _ _) (by simp [Value.oneCell']) (by unfold maxLen;omega) (by omega) (by have:=hB.size;simp;omega) ?_;intro v' w1 hown' hgrow _;obtain⟨g',cap',rfl⟩:=ownsRow_succ hown';obtain⟨hv1,hv2,hr2,hk2,hb2⟩:=hv.appended (by decide) hrow hB.size (by omega) hown' hgrow;have hc1:=hv1.cell;have hf1:=hv1.frozen)
    exact⟨hk2.from _,hk2.walks,⟨_,hv2,by simpa using hr2,trivial⟩,hB.trans hb2⟩
  case done=>
    rintro D ys W hD hys ⟨⟨v,hv,hrow,-⟩,hB⟩ hK
    have hc:=hv.cell
    have hyl:ys.length=zs.length:=by have:=congrArg List.length hys;simpa using this
    have hyc:ys.map (fun x=>Value.int .i64 x.2)=zs.map fun(z:Nat)=>Value.int .i64 (z:Int):=by
      have:=congrArg (List.map (Value.int .i64)) hys
      simpa [Function.comp_def] using this
    gi_wp2
    refine⟨by simp,.inl ⟨_,_,rfl,run_takeDeferred hK,?_⟩⟩
    refine⟨_,results_tmp2 rfl _ _ _,v,rfl,?_,hB.trans (belowK_b (w:=w) (Nat.le_refl _) W D _ _ (by simp at hD;omega) hK rfl rfl)⟩
    rw [← hyl,← hyc]
    exact ownsRow_putObj hrow _ hK rfl
  case stop=>
    rintro D c pre W _ _ h _
    exact h.elim
set_option maxRecDepth 100000 in
set_option maxHeartbeats 4000000 in
theorem pPoints_none (l:List UInt8) (hl:l.length≤1048576) (hp:points l=none) (w:World) (hT:Tabs w) :
    Calls Tryz.prog 119 #[.string ⟨l.toArray⟩] w fun e w'=>e=.returned (.tuple #[.slice none 0 0,.bool false])∧Below w.heap.size w w':=by
  have hval:Lib.validD l=false:=by rw [← points_valid _ l (Nat.le_refl _),hp];rfl
  have hsz:(ByteArray.mk l.toArray).size=l.length:=by simp [ByteArray.size]
  have cV:Calls Tryz.prog 152 #[.string ⟨l.toArray⟩] w _:=Any.utf8_ValidString Tryz.laysValid ⟨l.toArray⟩ w (by rw [hsz];omega) hT
  simp only [List.toList_toArray,hval] at cV
  refine callsIn_wide (n:=5) |>.1 ?_
  refine callsIn_of_wp_marks Tryz.func119 rfl trivial ?_ rfl
  simp only [Tryz.ntmps119,List.size_toArray,List.length_cons,List.length_nil,Nat.reduceAdd,Nat.reduceSub,Array.replicate_succ,Array.replicate_zero,List.push_toArray,List.append_toArray,List.nil_append,List.cons_append]
  gi_wp2_with (refine⟨trivial,?_⟩;gi_at_call 152;refine(callsIn_wide.2 cV).mono ?_;rintro e w1 ⟨rfl,hb1⟩;have hs1:=hb1.size)
  exact⟨_,results_tmp2 rfl _ _ _,rfl,hb1⟩
open Go.En in
theorem pPoints_any (l:List UInt8) (hl:l.length≤1048576) (w:World) (hT:Tabs w):Calls Tryz.prog 119 #[str l] w (Rt (PointsR w (points l))):=by
  cases hp:points l with
  | none=>
    refine(pPoints_none l hl hp w hT).mono ?_
    rintro e w' ⟨rfl,hb⟩
    exact⟨_,rfl,hb,rfl⟩
  | some zs=>
    refine(pPoints_some l hl zs hp w hT).mono ?_
    rintro e w' ⟨v,rfl,ho,hb⟩
    exact⟨_,rfl,hb,v,rfl,ho⟩
end Go.Proofs.YtnifmbbpfdghmaaGreatDoor
