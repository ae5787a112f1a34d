/- Own text. -/
import Derived.RangeFuncNested
import Derived.RangeFuncBound
import Derived.RangeFuncCalls
import Derived.RangeFuncLeaves
import Derived.RangeFuncBox
import Derived.Shelf.Abstract
import Derived.Shelf.RegionOpen
import Derived.OwnWalkIn
import Derived.TacticsInMore
import Derived.LoopNIn
import Derived.LoopIn
import Derived.Maps.AppendAt
import Derived.Lib.OthersKept
import Derived.Test.YtojadfppncgphaaGreatDoorChecked
import Derived.ChangeArms
import Derived.SizedLaws
import Derived.Carry
import Derived.Shelf.Sort.Plain
import Derived.Shelf.Slices.In.SortNone
import Derived.Sort.OwnSortedInts
import Derived.Test.YtojadfppncgphaaGreatDoorQI
import Derived.Test.YtojadfppncgphaaGreatDoorQYb
set_option linter.all false
set_option maxHeartbeats 4000000
set_option maxRecDepth 100000
namespace Go.Proofs.YtojadfppncgphaaGreatDoor
open Go.RowKit Go.Shelf Go.Lib
attribute [local go_sem] Oper.semAt_some
def upTo {α:Type}(f:Nat→α)(k:Nat):List α:=(List.range k).map f
theorem B1h {α:Type}(f:Nat→α)(k:Nat):upTo f (k+1)=upTo f k++[f k]:=by simp [upTo,List.range_succ]
theorem B6v {α:Type}(f:Nat→α)(k:Nat):(upTo f k).length=k:=by simp [upTo]
theorem C7x (zs:List Int):upTo (fun j=>zs[j]?.getD 0) zs.length=zs:=by
 apply List.ext_getElem
 ·simp [upTo]
 ·intro i h1 h2
  simp [upTo,h2]
theorem G4b:(Tryz.prog.info? 3).map (fun i=>(i.zero,i.size,i.bytes))=some (some (.int .i64 0),1,8):=by kernel_rfl
theorem C0i (F : Fence)(n : Nat)(h7 : F.fn 307)(hro : F.round = none)(hn : 1 ≤ n)(l Bs n₀ b off len cap : Nat)(zs : List Int)(hreach : len * 8 ≤ 140737488351232)(hb : b < n₀)(J Jx : List Int → World → Prop)
  (hY:∀ pre x W,J pre W→pre.length<len→YieldAt F (n-1) Tryz.prog l #[.int .i64 x] W fun e W'=>
   (e=.returned (.bool true)∧J (pre++[x]) W'∧Below n₀ W W')∨(e=.returned (.bool false)∧Jx (pre++[x]) W'))
  (W:World) (hBs:W.cell? ⟨Bs,0,none⟩=some (.slice (some ⟨b,off,none⟩) len cap)) (hc:∀ j,j<len→W.cell? ⟨b,off+j,none⟩=some (.int .i64 (zs[j]?.getD 0))) (h0:J [] W) :
  CallsIn F n Tryz.prog 307 #[.func (.yield l) #[] #[],.pointer (some ⟨Bs,0,none⟩)] W fun e W'=>(∃ v,e=.returned v)∧
   ((∃ ys,ys=upTo (fun j=>zs[j]?.getD 0) len∧J ys W')∨(∃ pre,(∃ k,k≤len∧pre=upTo (fun j=>zs[j]?.getD 0) k)∧Jx pre W')):=by
 refine callsIn_of_wp Tryz.func307 rfl h7 ?_ hro
 simp only [Tryz.ntmps307,List.size_toArray,List.length_cons,List.length_nil,Nat.reduceAdd,Nat.reduceSub,Array.replicate_succ,Array.replicate_zero,List.push_toArray,List.append_toArray,List.nil_append,List.cons_append]
 gi_wp2
 gi_loopw [7] (fun i wr=>∃ k:Nat,k≤len∧i=.int .i64 k∧J (upTo (fun j=>zs[j]?.getD 0) k) wr∧Below n₀ W wr)
  (fun i _=>len-(intOf i).toNat)
 case atStart=>exact⟨0,Nat.zero_le _,rfl,h0,Below.refl _ _⟩
 case round=>
  obtain⟨k,hk,rfl,hJs,hnx⟩:=hrel
  have hcx:k<len→wr.cell? ⟨b,off+k,none⟩=some (.int .i64 (zs[k]?.getD 0)):=fun h=>(hnx.cell (p:=⟨b,off+k,none⟩) hb).trans (hc k h)
  by_cases hlt:k<len
  ·obtain⟨fn,tmps,assign,body,hy,hR⟩:=hY _ (zs[k]?.getD 0) wr hJs (by rw [B6v];exact hlt)
   have hcx':=hcx hlt
   gi_wp2
   refine hR.mono ?_
   rintro e W3 (⟨rfl,hJ3,hk3⟩|⟨rfl,hJx3⟩)
   ·gi_wp2
    go_roundw
    case rel=>exact⟨k+1,by omega,by simp,by rw [B1h];exact hJ3,hnx.trans hk3⟩
    case measure=>simp [intOf];omega
   ·gi_wp2
    refine bodyPost_ret (results_none rfl _ _ _) rfl ?_
    exact⟨⟨_,rfl⟩,.inr ⟨_,⟨k+1,by omega,(B1h _ _).symm⟩,hJx3⟩⟩
  ·obtain rfl:k=len:=by omega
   gi_wp2
   go_end0
   exact⟨⟨_,rfl⟩,.inl ⟨_,rfl,hJs⟩⟩
def Ints (n₀:Nat)(W:World)(sv:Value)(zs:List Int):Prop:=
 ((∃ a cap,sv=.slice a 0 cap)∧zs=[])∨∃ b off cap,sv=.slice (some ⟨b,off,none⟩) zs.length cap∧b<n₀∧∀ j,j<zs.length→W.cell? ⟨b,off+j,none⟩=some (.int .i64 (zs[j]?.getD 0))
theorem Ints.below {n₀:Nat}{A B:World}(h:Below n₀ A B){sv:Value}{zs:List Int}:Ints n₀ A sv zs→Ints n₀ B sv zs
 | .inl e=>.inl e
 | .inr ⟨b,off,cap,e,hb,hc⟩=>.inr ⟨b,off,cap,e,hb,fun j hj=>(h.cell (p:=⟨b,off+j,none⟩) hb).trans (hc j hj)⟩
theorem A7p (F:Fence)(n:Nat)(h7:F.fn 307)(hro:F.round=none)(l Bs:Nat)(a:Option Addr)(cap:Nat)(J:List Int→World→Prop)(W:World)(hBs:W.cell? ⟨Bs,0,none⟩=some (.slice a 0 cap))(h0:J [] W) :
  CallsIn F n Tryz.prog 307 #[.func (.yield l) #[] #[],.pointer (some ⟨Bs,0,none⟩)] W fun e W'=>(∃ v,e=.returned v)∧J [] W':=by
 refine callsIn_of_wp Tryz.func307 rfl h7 ?_ hro
 simp only [Tryz.ntmps307,List.size_toArray,List.length_cons,List.length_nil,Nat.reduceAdd,Nat.reduceSub,Array.replicate_succ,Array.replicate_zero,List.push_toArray,List.append_toArray,List.nil_append,List.cons_append]
 gi_wp2
 gi_loopw [7] (fun i wr=>i=.int .i64 0∧J [] wr) (fun _ _=>0)
 case atStart=>exact⟨rfl,h0⟩
 case round=>
  obtain⟨rfl,hJs⟩:=hrel
  gi_wp2
  go_end0
  exact⟨⟨_,rfl⟩,hJs⟩
theorem B4k (F:Fence)(n:Nat)(h7:F.fn 307)(hro:F.round=none)(hn:1≤n)(Bs n₀:Nat)(sv:Value)(zs:List Int)(hreach:zs.length*8≤140737488351232)(w:World)(hBs:Bs<w.heap.size)(hn₀:n₀≤w.heap.size)
  (hc:w.cell? ⟨Bs,0,none⟩=some sv) (hI:Ints n₀ w sv zs) :
  SeqStopsK F n Tryz.prog 307 #[.pointer (some ⟨Bs,0,none⟩)] (fun x:Int=>#[Value.int .i64 x]) (Below n₀) (fun ys=>ys=zs) (fun _=>True) zs.length w:=fun l J Jx W hW _ _ hY h0=>by
 have hc':=(hW.cell (p:=⟨Bs,0,none⟩) hBs).trans hc
 rcases hI.below (hW.mono hn₀) with⟨⟨a,cap,rfl⟩,rfl⟩|⟨b,off,cap,rfl,hb,hcs⟩
 ·exact(A7p F n h7 hro l Bs a cap J W hc' h0).mono fun e W' ⟨he,hj⟩=>⟨he,.inl ⟨_,rfl,hj⟩⟩
 ·refine(C0i F n h7 hro hn l Bs n₀ b off zs.length cap zs hreach hb J Jx hY W hc' hcs h0).mono ?_
  rintro e W' ⟨he,⟨ys,rfl,hj⟩|⟨pre,_,hj⟩⟩
  ·exact⟨he,.inl ⟨_,C7x zs,hj⟩⟩
  ·exact⟨he,.inr ⟨_,trivial,hj⟩⟩
theorem B0y (sv:Value)(zs:List Int)(hl:zs.length≤1048576)(Bs:Nat)(w:World)(hBs:Bs<w.heap.size)(hcell:w.cell? ⟨Bs,0,none⟩=some sv)(hI:Ints w.heap.size w sv zs) :
  Calls Tryz.prog 329 #[.slice none 0 0,.func (.func 307) #[] #[.pointer (some ⟨Bs,0,none⟩)] ] w fun e w'=>∃ v,e=.returned v∧w'.ownsRow w.heap.size 3 1 v zs.length (zs.map (.int .i64))∧Below w.heap.size w w':=by
 obtain⟨i0,hi,hz0,hz1,hz2⟩:=info_parts G4b
 refine callsIn_wide (n:=5) |>.1 ?_
 refine callsIn_of_wp_marks Tryz.func329 rfl trivial ?_ rfl
 simp only [Tryz.ntmps329,List.size_toArray,List.length_cons,List.length_nil,Nat.reduceAdd,Nat.reduceSub,Array.replicate_succ,Array.replicate_zero,List.push_toArray,List.append_toArray,List.nil_append,List.cons_append]
 gi_wp2
 have bO:=Boxed.new w 31 (.slice none 0 0)
 have hB0:Below w.heap.size w (w.alloc (.cells #[.slice none 0 0] 31)):=(Below.refl _ w).alloc (Nat.le_refl _) _
 refine wpIn_rangeFunc_ownG rfl (by omega) (gf:=307) (lb:=#[.pointer (some ⟨Bs,0,none⟩)]) rfl trivial (enters_of Tryz.func307 (by kernel_rfl) rfl)
  (B4k Fence.wide 4 trivial rfl (by omega) Bs w.heap.size sv zs (by omega) _ (by simp;omega) (by simp) ((hB0.cell (p:=⟨Bs,0,none⟩) hBs).trans hcell) (hI.below hB0)) belowK_t (belowK_b (by simp)) (Below.refl _ _) (fun _=>rfl)
  (fun pre W=>(∃ v,Boxed W w.heap.size 31 v∧W.ownsRow w.heap.size 3 1 v pre.length (pre.map fun x=>.int .i64 x)∧True)∧Below w.heap.size w W)
  (fun _ _ _=>False)
  (OwnFrom.and (Own.from (holdsRow_own w.heap.size w.heap.size 31 3 1 (fun pre:List Int=>pre.length) (fun pre=>pre.map fun x=>Value.int .i64 x) (fun pre v=>True)) _) (ownFrom_below (Nat.le_refl _) (by simp)))
  (fun _ _ _ _ _ hs _ _=>hs)
  ⟨⟨_,bO,World.ownsRow_nil _ _ _ _,trivial⟩,hB0⟩
  (fun x=>{ tmps:=#[.slice none 0 0,.func (.func 307) #[] #[.pointer (some ⟨Bs,0,none⟩)],.pointer (some ⟨w.heap.size,0,none⟩),undef,.slice none 0 0,.int .i64 x,.func (.func 307) #[] #[.pointer (some ⟨Bs,0,none⟩)],.int .i64 x,undef,undef,undef,undef,undef],defers:=[] }) ?assign ?body ?done ?stop
 case assign=>
  intro l x W K hK
  gi_wp2
  exact hK
 case body=>
  rintro lv pre x W ⟨⟨v,hv,hrow,-⟩,hB⟩ hlt
  have hc:=hv.cell
  gi_wp2_with (gi_at_builtin;refine wpListIn_append_own _ rfl _ _ 31 rfl w.heap.size 3 i0 (.int .i64 0) 1 8 Tryz.underlying31 hi hz0 hz1 hz2 rfl (by decide) _ _ _ rfl (hrow.alloc _) ⟨W.heap.size,0,none⟩ 1 1 [.int .i64 x] rfl rfl (cell_one_new _ _ _) (by simp [Value.oneCell']) (by unfold maxLen;omega) (by omega) (by have:=hB.size;simp;omega) ?_;intro v' w1 hown' hgrow _;obtain⟨g',cap',rfl⟩:=ownsRow_succ hown';obtain⟨hv1,hv2,hr2,hk2,hb2⟩:=hv.appended (by decide) hrow hB.size (by omega) hown' hgrow;have hc1:=hv1.cell;have hf1:=hv1.frozen)
  exact⟨hk2.from _,hb2,⟨_,hv2,by simpa using hr2,trivial⟩,hB.trans hb2⟩
 case done=>
  rintro D ys W hD rfl ⟨⟨v,hv,hrow,-⟩,hB⟩ hK
  have hc:=hv.cell
  gi_wp2
  refine⟨by simp,.inl ⟨_,_,rfl,run_takeDeferred hK,?_⟩⟩
  refine⟨_,results_tmp rfl _ _ _,v,rfl,?_,hB.trans (belowK_b (w:=w) (Nat.le_refl _) W D _ _ (by simp at hD;omega) hK rfl rfl)⟩
  exact ownsRow_putObj hrow _ hK rfl
 case stop=>
  rintro D c pre W _ _ h _
  exact h.elim
end Go.Proofs.YtojadfppncgphaaGreatDoor
namespace Go.En
open Go.RowKit
def AllAt {α β:Type}(R:α→β→Prop):List α→List β→Prop
 | [],[]=>True
 | a::az,c::cs=>R a c∧AllAt R az cs
 | _,_=>False
theorem AllAt.len {α β:Type}{R:α→β→Prop}:∀ {az:List α} {cs:List β},AllAt R az cs→az.length=cs.length
 | [],[],_=>rfl
 | _::_,_::_,h=>by simp [AllAt.len h.2]
 | [],_::_,h=>h.elim
 | _::_,[],h=>h.elim
theorem AllAt.mono {α β:Type}{R S:α→β→Prop}(hi:∀ a c,R a c→S a c):∀ {az:List α} {cs:List β},AllAt R az cs→AllAt S az cs
 | [],[],_=>trivial
 | _::_,_::_,h=>⟨hi _ _ h.1,AllAt.mono hi h.2⟩
 | [],_::_,h=>h.elim
 | _::_,[],h=>h.elim
theorem AllAt.get {α β:Type}{R:α→β→Prop}:∀ {az:List α} {cs:List β},AllAt R az cs→∀ {i:Nat} {a:α},az[i]?=some a→∃ c,cs[i]?=some c∧R a c
 | [],[],_,_,_,hi=>by simp at hi
 | _::_,c::_,h,0,_,hi=>by simp at hi;subst hi;exact⟨c,rfl,h.1⟩
 | _::_,_::_,h,i+1,_,hi=>by simpa using AllAt.get h.2 (by simpa using hi)
 | [],_::_,h,_,_,_=>h.elim
 | _::_,[],h,_,_,_=>h.elim
theorem AllAt.take {α β:Type}{R:α→β→Prop}:∀ {az:List α} {cs:List β} (k:Nat),AllAt R az cs→AllAt R (az.take k) (cs.take k)
 | [],[],k,_=>by simp [AllAt]
 | _::_,_::_,0,_=>trivial
 | _::_,_::_,k+1,h=>⟨h.1,AllAt.take k h.2⟩
 | [],_::_,_,h=>h.elim
 | _::_,[],_,h=>h.elim
theorem AllAt.drop {α β:Type}{R:α→β→Prop}:∀ {az:List α} {cs:List β} (k:Nat),AllAt R az cs→AllAt R (az.drop k) (cs.drop k)
 | [],[],k,_=>by simp [AllAt]
 | _::_,_::_,0,h=>h
 | _::_,_::_,k+1,h=>AllAt.drop k h.2
 | [],_::_,_,h=>h.elim
 | _::_,[],_,h=>h.elim
theorem AllAt.set {α β:Type}{R:α→β→Prop}{a:α}{c:β}(h0:R a c):∀ {az:List α} {cs:List β} (k:Nat),AllAt R az cs→AllAt R (az.set k a) (cs.set k c)
 | [],[],k,_=>by simp [AllAt]
 | _::_,_::_,0,h=>⟨h0,h.2⟩
 | _::_,_::_,k+1,h=>⟨h.1,AllAt.set h0 k h.2⟩
 | [],_::_,_,h=>h.elim
 | _::_,[],_,h=>h.elim
theorem AllAt.all {α β:Type}{R:α→β→Prop}{q:β→Prop}(hq:∀ a c,R a c→q c):∀ {az:List α} {cs:List β},AllAt R az cs→∀ c∈cs,q c
 | [],[],_,_,hc=>by simp at hc
 | _::_,_::_,h,c,hc=>by
  rcases List.mem_cons.1 hc with rfl|hc
  ·exact hq _ _ h.1
  ·exact AllAt.all hq h.2 c hc
 | [],_::_,h,_,_=>h.elim
 | _::_,[],h,_,_=>h.elim
class Rep (α:Type) where
 sz:Nat
 pos:0<sz
 at_:(Nat→Prop)→World→α→List Value→Prop
 len:∀ {G w a cs},at_ G w a cs→cs.length=sz
 one:∀ {G w a cs},at_ G w a cs→cs.all Value.oneCell'=true
 move:∀ {G G':Nat→Prop} {w w':World} {a cs},at_ G w a cs→(∀ b,G b→b<w.heap.size→G' b∧w'.heap[b]?=w.heap[b]?)→at_ G' w' a cs
abbrev Tt:Nat→Prop:=fun _=>True
theorem B3o {k:Nat}:∀ {css:List (List Value)},(∀ c∈css,c.length=k)→css.flatten.length=css.length*k
 | [],_=>by simp
 | c::css,h=>by simp [B3o (css:=css) (fun c hc=>h c (List.mem_cons_of_mem _ hc)),h c (List.mem_cons_self ..),Nat.add_mul];omega
theorem A9n {k:Nat}:∀ {css:List (List Value)} (i:Nat),(∀ c∈css,c.length=k)→(css.take i).flatten=css.flatten.take (i*k)
 | [],i,_=>by simp
 | c::css,0,_=>by simp
 | c::css,i+1,h=>by
  have hc:=h c (List.mem_cons_self ..)
  rw [List.take_succ_cons,List.flatten_cons,List.flatten_cons,A9n i (fun c hc=>h c (List.mem_cons_of_mem _ hc)),List.take_append,List.take_of_length_le (l:=c) (by rw [hc,Nat.add_mul];omega)]
  congr 2
  rw [hc,Nat.add_mul];omega
theorem A3c {k:Nat}:∀ {css:List (List Value)} (i:Nat),(∀ c∈css,c.length=k)→(css.drop i).flatten=css.flatten.drop (i*k)
 | [],i,_=>by simp
 | c::css,0,_=>by simp
 | c::css,i+1,h=>by
  have hc:=h c (List.mem_cons_self ..)
  rw [List.drop_succ_cons,List.flatten_cons,A3c i (fun c hc=>h c (List.mem_cons_of_mem _ hc)),List.drop_append,List.drop_eq_nil_of_le (show c.length≤(i+1)*k by rw [hc,Nat.add_mul];omega),List.nil_append]
  congr 1
  rw [hc,Nat.add_mul];omega
variable {α : Type}[Rep α]
abbrev AtsG (G:Nat→Prop)(w:World)(xs:List α)(css:List (List Value)):Prop:=AllAt (Rep.at_ G w) xs css
abbrev Ats (w:World)(xs:List α)(css:List (List Value)):Prop:=AtsG Tt w xs css
theorem AtsG.lens {G:Nat→Prop}{w:World}{xs:List α}{css:List (List Value)}(h:AtsG G w xs css):∀ c∈css,c.length=Rep.sz α:=AllAt.all (fun _ _ h=>Rep.len h) h
theorem AtsG.flat {G:Nat→Prop}{w:World}{xs:List α}{css:List (List Value)}(h:AtsG G w xs css):css.flatten.length=xs.length*Rep.sz α:=by rw [B3o (AtsG.lens h),h.len]
theorem AtsG.move {G G':Nat→Prop}{w w':World}{xs:List α}{css:List (List Value)}(h:AtsG G w xs css)(hm:∀ b,G b→b<w.heap.size→G' b∧w'.heap[b]?=w.heap[b]?):AtsG G' w' xs css:=AllAt.mono (fun _ _ h=>Rep.move h hm) h
theorem Ext.mv {w w':World}(x:Ext w w'){G:Nat→Prop}:∀ b,G b→b<w.heap.size→G b∧w'.heap[b]?=w.heap[b]?:=fun _ hg hb=>⟨hg,x.block hb⟩
theorem AtsG.ext {G:Nat→Prop}{w w':World}{xs:List α}{css:List (List Value)}(h:AtsG G w xs css)(x:Ext w w'):AtsG G w' xs css:=AtsG.move h x.mv
def SlG (G:Nat→Prop)(w:World)(v:Value)(xs:List α):Prop:=
 ∃ a cap,v=.slice a xs.length cap∧xs.length≤cap∧xs.length≤140737488355328∧(0<xs.length→∃ b off,a=some ⟨b,off,none⟩∧G b∧∃ css,AtsG G w xs css∧At w b off css.flatten)
abbrev Sl (w:World)(v:Value)(xs:List α):Prop:=SlG Tt w v xs
theorem At.lt {w:World}{b off:Nat}{cs:List Value}(h:At w b off cs)(hp:0<cs.length):b<w.heap.size:=by
 obtain⟨v,hv⟩:∃ v,cs[0]?=some v:=⟨_,List.getElem?_eq_getElem hp⟩
 exact World.block_lt_of_cell? _ _ (h 0 v hv)
theorem At.same {w w':World}{b off:Nat}{cs:List Value}(h:At w b off cs)(hb:w'.heap[b]?=w.heap[b]?):At w' b off cs:=fun j v hv=>(World.cell?_of_block hb).trans (h j v hv)
theorem SlG.move {G G':Nat→Prop}{w w':World}{v:Value}{xs:List α}(h:SlG G w v xs)(hm:∀ b,G b→b<w.heap.size→G' b∧w'.heap[b]?=w.heap[b]?):SlG G' w' v xs:=by
 obtain⟨a,cap,hv,hc,hl,hp⟩:=h
 refine⟨a,cap,hv,hc,hl,fun h0=>?_⟩
 obtain⟨b,off,ha,hg,css,h1,h2⟩:=hp h0
 have hlt:=h2.lt (by rw [AtsG.flat h1];exact Nat.mul_pos h0 (Rep.pos))
 exact⟨b,off,ha,(hm b hg hlt).1,css,AtsG.move h1 hm,h2.same (hm b hg hlt).2⟩
theorem SlG.ext {G:Nat→Prop}{w w':World}{v:Value}{xs:List α}(h:SlG G w v xs)(x:Ext w w'):SlG G w' v xs:=h.move x.mv
theorem SlG.any {G:Nat→Prop}{w:World}{v:Value}{xs:List α}(h:SlG G w v xs):Sl w v xs:=h.move fun _ _ _=>⟨trivial,rfl⟩
theorem AtsG.any {G:Nat→Prop}{w:World}{xs:List α}{css:List (List Value)}(h:AtsG G w xs css):Ats w xs css:=AtsG.move h fun _ _ _=>⟨trivial,rfl⟩
theorem Kb.mv {w w':World}{g:Option Nat}(k:Kb g w w'){G:Nat→Prop}(hg:∀ b,G b→some b≠g):∀ b,G b→b<w.heap.size→G b∧w'.heap[b]?=w.heap[b]?:=fun b h hb=>⟨h,World.grownBy.block k b hb (hg b h)⟩
def Nb (v:Value):Nat→Prop:=fun b=>some b≠v.ownBlock
theorem Nb.mv {w w':World}{v v':Value}(k:Kb v.ownBlock w w')(h:v'.ownBlock=v.ownBlock∨v'.ownBlock=some w.heap.size):∀ b,Nb v b→b<w.heap.size→Nb v' b∧w'.heap[b]?=w.heap[b]?:=fun b hb hlt=>by
 refine⟨?_,World.grownBy.block k b hlt hb⟩
 unfold Nb at*
 rcases h with h|h
 ·rw [h];exact hb
 ·rw [h];intro he;cases he;omega
theorem SlG.sl {G:Nat→Prop}{w:World}{v:Value}{xs:List α}(h:SlG G w v xs):∃ a cap,v=.slice a xs.length cap∧xs.length≤cap∧xs.length≤140737488355328∧(0<xs.length→∃ b off,a=some ⟨b,off,none⟩):=by
 obtain⟨a,cap,hv,hc,hm,hp⟩:=h
 refine⟨a,cap,hv,hc,hm,fun h0=>?_⟩
 obtain⟨b,off,ha,_⟩:=hp h0
 exact⟨b,off,ha⟩
theorem SlG.nil {G:Nat→Prop}{w:World}:SlG G w (.slice none 0 0) ([]:List α):=⟨none,0,rfl,Nat.le_refl _,by simp,fun h=>absurd h (by simp)⟩
theorem SlG.ats {G:Nat→Prop}{w:World}{b off n cap:Nat}{xs:List α}(h:SlG G w (.slice (some ⟨b,off,none⟩) n cap) xs)(hp:0<xs.length):G b∧∃ css,AtsG G w xs css∧At w b off css.flatten:=by
 obtain⟨a,cap',hv,hc,hm,hq⟩:=h
 obtain⟨b',off',ha,hg,css,h1,h2⟩:=hq hp
 cases hv
 cases ha
 exact⟨hg,css,h1,h2⟩
theorem At.seg {w:World}{b off:Nat}{cs:List Value}(h:At w b off cs)(k:Nat){n:Nat}:At w b (off+k) ((cs.drop k).take n):=fun j v hv=>by
 have hj:j<n:=by
  have:=(List.getElem?_eq_some_iff.1 hv).1
  simp at this;omega
 rw [List.getElem?_take_of_lt hj,List.getElem?_drop] at hv
 rw [Nat.add_assoc]
 exact h _ _ hv
theorem SlG.css {G:Nat→Prop}{w:World}{a:Option Addr}{n cap:Nat}{xs:List α}(h:SlG G w (.slice a n cap) xs):∃ css,AtsG G w xs css∧(0<css.flatten.length→∃ b so,a=some ⟨b,so,none⟩∧G b∧At w b so css.flatten):=by
 by_cases h0:0<xs.length
 ·obtain⟨a',cap',hv,_,_,hp⟩:=h
  cases hv
  obtain⟨b,off,rfl,hg,css,h1,h2⟩:=hp h0
  exact⟨css,h1,fun _=>⟨b,off,rfl,hg,h2⟩⟩
 ·obtain rfl:xs=[]:=List.length_eq_zero_iff.1 (by omega)
  exact⟨[],trivial,fun h=>absurd h (by simp)⟩
theorem flat_upd {k:Nat}{v:Value}:∀ {css:List (List Value)} {i j:Nat} {c:List Value},(∀ c∈css,c.length=k)→css[i]?=some c→j<k→(css.set i (c.set j v)).flatten=css.flatten.set (i*k+j) v
 | [],_,_,_,_,hc,_=>by simp at hc
 | c0::css,0,j,c,h,hc,hj=>by
  simp at hc;subst hc
  have hl:=h c0 (List.mem_cons_self ..)
  rw [List.set_cons_zero,List.flatten_cons,List.flatten_cons,Nat.zero_mul,Nat.zero_add,List.set_append_left _ _ (by omega)]
 | c0::css,i+1,j,c,h,hc,hj=>by
  have hl:=h c0 (List.mem_cons_self ..)
  rw [List.set_cons_succ,List.flatten_cons,List.flatten_cons,flat_upd (i:=i) (fun c hc=>h c (List.mem_cons_of_mem _ hc)) (by simpa using hc) hj,List.set_append_right _ _ (by rw [hl,Nat.add_mul];omega)]
  congr 2
  rw [hl,Nat.add_mul];omega
theorem SlG.elem {G:Nat→Prop}{w:World}{b off n cap:Nat}{xs:List α}(h:SlG G w (.slice (some ⟨b,off,none⟩) n cap) xs){i:Nat}{x:α}(hx:xs[i]?=some x):∃ cs,Rep.at_ G w x cs∧At w b (off+i*Rep.sz α) cs:=by
 have hi:i<xs.length:=(List.getElem?_eq_some_iff.1 hx).1
 obtain⟨_,css,h1,h2⟩:=h.ats (by omega)
 obtain⟨c,hc,hr⟩:=AllAt.get h1 hx
 refine⟨c,hr,?_⟩
 have hs:=h2.seg (i*Rep.sz α) (n:=Rep.sz α)
 have he:(css.flatten.drop (i*Rep.sz α)).take (Rep.sz α)=c:=by
  rw [← A3c i (AtsG.lens h1)]
  obtain⟨hl,rfl⟩:=List.getElem?_eq_some_iff.1 hc
  rw [List.drop_eq_getElem_cons hl,List.flatten_cons,List.take_append_of_le_length (by rw [Rep.len hr];exact Nat.le_refl _),← Rep.len hr,List.take_length]
 rw [he] at hs
 exact hs
theorem C3h {G:Nat→Prop}{w:World}{B:Nat}{e:TypeId}{v:Value}{n:Nat}{xs:List α}{css:List (List Value)}(h:w.ownsRow B e (Rep.sz α) v n css.flatten)(hr:AtsG G w xs css)(hg:∀ b,B≤b→G b)(hn:n=xs.length)(hm:xs.length≤140737488355328):SlG G w v xs:=by
 subst hn
 rcases O0 h with⟨rfl,h0,_⟩|⟨b,cap,rfl,hc,hb,_,hat⟩
 ·exact⟨none,0,by rw [h0],by omega,hm,fun h1=>by omega⟩
 ·exact⟨_,cap,rfl,hc,hm,fun _=>⟨b,0,rfl,hg b hb,css,hr,hat⟩⟩
theorem C9k {w:World}{B:Nat}{e:TypeId}{v:Value}{n:Nat}{xs:List α}{css:List (List Value)}(h:w.ownsRow B e (Rep.sz α) v n css.flatten)(hr:Ats w xs css)(hn:n=xs.length)(hm:xs.length≤140737488355328):Sl w v xs:=C3h h hr (fun _ _=>trivial) hn hm
theorem SlG.take {G:Nat→Prop}{w:World}{a:Option Addr}{n cap k:Nat}{xs:List α}(h:SlG G w (.slice a n cap) xs)(hk:k≤xs.length):SlG G w (.slice a k cap) (xs.take k):=by
 obtain⟨a',cap',hv,hc,hm,hp⟩:=h
 cases hv
 have hl:(xs.take k).length=k:=by simp;omega
 refine⟨a,cap,by rw [hl],by omega,by omega,fun h0=>?_⟩
 obtain⟨b,off,ha,hg,css,h1,h2⟩:=hp (by omega)
 refine⟨b,off,ha,hg,css.take k,AllAt.take k h1,?_⟩
 rw [A9n k (AtsG.lens h1)]
 have:=h2.seg 0 (n:=k*Rep.sz α)
 simpa using this
theorem SlG.drop {G:Nat→Prop}{w:World}{a:Option Addr}{n cap k:Nat}{xs:List α}(h:SlG G w (.slice a n cap) xs)(hk:k≤xs.length):SlG G w (.slice (if cap=k then a else a.map (·.add (k*Rep.sz α))) (n-k) (cap-k)) (xs.drop k):=by
 obtain⟨a',cap',hv,hc,hm,hp⟩:=h
 cases hv
 have hl:(xs.drop k).length=xs.length-k:=by simp
 refine⟨_,cap-k,by rw [hl],by omega,by omega,fun h0=>?_⟩
 obtain⟨b,off,rfl,hg,css,h1,h2⟩:=hp (by omega)
 rw [if_neg (by omega),Option.map_some,D6]
 refine⟨b,_,rfl,hg,css.drop k,AllAt.drop k h1,?_⟩
 rw [A3c k (AtsG.lens h1)]
 have:=h2.seg (k*Rep.sz α) (n:=css.flatten.length)
 rw [List.take_of_length_le (by simp)] at this
 exact this
instance:Rep Int where
 sz:=1
 pos:=by decide
 at_ _ _ z cs:=cs=[int z]
 len h:=by rw [h];rfl
 one h:=by rw [h];rfl
 move h _:=h
structure Txt where
 l:List UInt8
instance:DecidableEq Txt:=fun a b=>by
 cases a with|mk x=>cases b with|mk y=>
 exact decidable_of_iff (x=y) (by simp)
instance:Rep Txt where
 sz:=1
 pos:=by decide
 at_ _ _ t cs:=cs=[str t.l]
 len h:=by rw [h];rfl
 one h:=by rw [h];rfl
 move h _:=h
theorem R4 (ids:List Int):(ids.map fun z=>[int z]).flatten=ids.map int:=by induction ids with|nil=>rfl|cons z r ih=>simp [ih]
theorem Y3 {G:Nat→Prop}(w:World):∀ ids:List Int,AtsG G w ids (ids.map fun z=>[int z])
 | []=>trivial
 | z::r=>⟨rfl,Y3 w r⟩
theorem B0e {G:Nat→Prop}{w:World}:∀ {ids:List Int} {css:List (List Value)},AtsG G w ids css→css=ids.map fun z=>[int z]
 | [],[],_=>rfl
 | z::r,c::cs,h=>by rw [List.map_cons,← B0e (ids:=r) (css:=cs) h.2,← show c=[int z] from h.1]
 | [],_::_,h=>h.elim
 | _::_,[],h=>h.elim
def Bd {H:Type}(P:Program)(t:TypeId)(d:DataW H):Prop:=(d.weights P t).all (·≤reachBytes)=true
class Opens (P:Program)(t:TypeId)(α:Type)[Rep α]:Prop where
 op:∀ {H:Type} {enc:TypeId × Value→H} {w:World} {sp:Nat→Bool} {held:Bool} {fuel:Nat} {cs:List Value} {x:DataW H × List MemPlace},DataW.trod enc P w 0 sp held fuel t cs=some x→Bd P t x.1→∃ a:α,Rep.at_ Tt w a cs
theorem cells_at {w:World}{b off n:Nat}{cs:List Value}(h:w.cells? 0 ⟨b,off,none⟩ n=some cs):cs.length=n∧At w b off cs:=by
 unfold World.cells? at h
 rw [if_pos (Nat.zero_le _)] at h
 have hl:=mapM_some_length h
 simp at hl
 refine⟨hl,fun j v hv=>?_⟩
 have hj:=(List.getElem?_eq_some_iff.1 hv).1
 have hr:(List.range n)[j]?=some j:=List.getElem?_range (by omega)
 have:=mapM_some_get h j j hr
 rw [D6] at this
 rw [this,hv]
theorem cell_spot {w:World}{a:Addr}{v:Value}(h:w.cell? a=some v):a=⟨a.block,a.off,none⟩:=by
 unfold World.cell? at h
 cases a with|mk b off s=>
 split at h
 ·cases s with
  | none=>rfl
  | some s=>simp at h
 ·cases h
theorem A0m {H:Type}{P:Program}{e:TypeId}{q:Nat→Bool}:∀ {ds:List (DataW H)},(DataW.weightsAll P e ds).all q=true→∀ d∈ds,(d.weights P e).all q=true
 | [],_,d,hd=>by simp at hd
 | x::r,h,d,hd=>by
  simp only [DataW.weightsAll,List.all_append,Bool.and_eq_true] at h
  rcases List.mem_cons.1 hd with rfl|hd
  ·exact h.1
  ·exact A0m h.2 d hd
section
variable {P : Program}{n : Nat}{Q : Post}{L : List (Nat × Value)}{w : World}{ops : List Oper}{o : Oper}{rest : List Oper}
theorem J3 {t:TypeId}{x y:Operand}{v z:Value}{size bytes:Nat}{b off:Nat}{e:TypeId}{cur cs:List Value}[TI P t z size bytes]{w0:World}(hr:Row w b e cur)(x0:Ext w0 w)(hb:w0.heap.size≤b)
  (hg:gst ops L o=some true) (hd:o.dst=none) (ho:o.op=.store t x y)
  (hx:ev L x=some (.pointer (some ⟨b,off,none⟩))) (hy:ev L y=some v) (hc:v.cells.toList=cs) (hs:Nat.beq cs.length size=true) (h1:cs.all Value.oneCell'=true) (hl:off+cs.length≤cur.length)
  (k:∀ w',Row w' b e (cur.take off++cs++cur.drop (off+cs.length))→Ext w0 w'→Kb (some b) w w'→EL P n ops Q rest L w'):EL P n ops Q (o::rest) L w:=by
 have e1:=Nat.eq_of_beq_eq_true hs
 have hsz:v.cells.size=size:=by rw [← e1,← hc,Array.length_toList]
 refine V3 hg hd ho hx hy hsz (by rw [hc];exact h1) hr (by omega) fun w' h2 h3 _=>k w' ?_ (h3.ext x0 fun b' hb'=>by cases hb';exact hb) h3
 rw [hc,← e1] at h2
 exact h2
end
end Go.En
namespace Go.Proofs
open Go.RowKit Go.Shelf Go.Lib
def Tryz.laysSort_ren:Go.Shelf.Ren:=⟨fun|189=>306|125=>254|257=>330|128=>286|129=>287|294=>345|295=>346|296=>347|297=>348|298=>349|299=>350|216=>351|300=>352|301=>353|328=>359|329=>310|330=>311|331=>360|332=>361|215=>245|343=>363|n=>n,fun|28=>31|3=>3|46=>362|0=>0|51=>391|53=>393|4=>4|183=>384|182=>383|131=>388|5=>5|9=>9|218=>408|222=>412|228=>431|229=>368|n=>n,fun|n=>n⟩
theorem Tryz.laysSort:Go.Proofs.Lays.n189 Tryz.prog Tryz.laysSort_ren:={
 mixed:=by kernel_rfl
 f125:=Tryz.func254.trans (congrArg some (by kernel_rfl))
 f128:=Tryz.func286.trans (congrArg some (by kernel_rfl))
 f129:=Tryz.func287.trans (congrArg some (by kernel_rfl))
 f189:=Tryz.func306.trans (congrArg some (by kernel_rfl))
 f215:=Tryz.func245.trans (congrArg some (by kernel_rfl))
 f216:=Tryz.func351.trans (congrArg some (by kernel_rfl))
 f257:=Tryz.func330.trans (congrArg some (by kernel_rfl))
 f294:=Tryz.func345.trans (congrArg some (by kernel_rfl))
 f295:=Tryz.func346.trans (congrArg some (by kernel_rfl))
 f296:=Tryz.func347.trans (congrArg some (by kernel_rfl))
 f297:=Tryz.func348.trans (congrArg some (by kernel_rfl))
 f298:=Tryz.func349.trans (congrArg some (by kernel_rfl))
 f299:=Tryz.func350.trans (congrArg some (by kernel_rfl))
 f300:=Tryz.func352.trans (congrArg some (by kernel_rfl))
 f301:=Tryz.func353.trans (congrArg some (by kernel_rfl))
 f328:=Tryz.func359.trans (congrArg some (by kernel_rfl))
 f329:=Tryz.func310.trans (congrArg some (by kernel_rfl))
 f330:=Tryz.func311.trans (congrArg some (by kernel_rfl))
 f331:=Tryz.func360.trans (congrArg some (by kernel_rfl))
 f332:=Tryz.func361.trans (congrArg some (by kernel_rfl))
 f343:=Tryz.func363.trans (congrArg some (by kernel_rfl))
 t0:=Tryz.underlying0
 a0:=Tryz.isAgg0
 z0:=Tryz.sizeOf0
 v0:=Tryz.zeroValue0
 t3:=Tryz.underlying3
 a3:=Tryz.isAgg3
 z3:=Tryz.sizeOf3
 v3:=Tryz.zeroValue3
 t4:=Tryz.underlying4
 a4:=Tryz.isAgg4
 z4:=Tryz.sizeOf4
 v4:=Tryz.zeroValue4
 t5:=Tryz.underlying5
 a5:=Tryz.isAgg5
 z5:=Tryz.sizeOf5
 v5:=Tryz.zeroValue5
 t9:=Tryz.underlying9
 a9:=Tryz.isAgg9
 z9:=Tryz.sizeOf9
 v9:=Tryz.zeroValue9
 t28:=Tryz.underlying31
 a28:=Tryz.isAgg31
 z28:=Tryz.sizeOf31
 v28:=Tryz.zeroValue31
 t46:=Tryz.underlying362
 a46:=Tryz.isAgg362
 z46:=Tryz.sizeOf362
 v46:=Tryz.zeroValue362
 t51:=Tryz.underlying391
 a51:=Tryz.isAgg391
 z51:=Tryz.sizeOf391
 v51:=Tryz.zeroValue391
 t53:=Tryz.underlying393
 a53:=Tryz.isAgg393
 z53:=Tryz.sizeOf393
 v53:=Tryz.zeroValue393
 t131:=Tryz.underlying388
 a131:=Tryz.isAgg388
 z131:=Tryz.sizeOf388
 v131:=Tryz.zeroValue388
 t182:=Tryz.underlying383
 a182:=Tryz.isAgg383
 z182:=Tryz.sizeOf383
 v182:=Tryz.zeroValue383
 t183:=Tryz.underlying384
 a183:=Tryz.isAgg384
 z183:=Tryz.sizeOf384
 v183:=Tryz.zeroValue384
 t218:=Tryz.underlying408
 a218:=Tryz.isAgg408
 z218:=Tryz.sizeOf408
 v218:=Tryz.zeroValue408
 t222:=Tryz.underlying412
 a222:=Tryz.isAgg412
 z222:=Tryz.sizeOf412
 v222:=Tryz.zeroValue412
 t228:=Tryz.underlying431
 a228:=Tryz.isAgg431
 z228:=Tryz.sizeOf431
 v228:=Tryz.zeroValue431
 t229:=Tryz.underlying368
 a229:=Tryz.isAgg368
 z229:=Tryz.sizeOf368
 v229:=Tryz.zeroValue368 }
end Go.Proofs
namespace Go.Proofs.YtojadfppncgphaaGreatDoor
open Go.RowKit Go.En Go.Sort
end Go.Proofs.YtojadfppncgphaaGreatDoor
namespace Go.En
open Go.RowKit
theorem Kb.trans {g:Option Nat}{a b c:World}(h:Kb g a b)(k:Kb g b c):Kb g a c:=
 ⟨(World.grownBy.os k).trans (World.grownBy.os h),(World.grownBy.tape k).trans (World.grownBy.tape h),(World.grownBy.output k).trans (World.grownBy.output h),Nat.le_trans (Kb.size h) (Kb.size k),fun i hi hne=>(World.grownBy.block k i (Nat.lt_of_lt_of_le hi (Kb.size h)) hne).trans (World.grownBy.block h i hi hne)⟩
end Go.En
namespace Go.Proofs.YtojadfppncgphaaGreatDoor
open Go.RowKit Go.En Go.Sort
theorem C0r (l:List Int)(v:Value)(B:Nat)(w:World)(h:w.ownsRow B 3 1 v l.length (l.map int))(hlen:l.length≤1000000):Calls Tryz.prog 306 #[v] w (Rt fun _ w'=>w'.ownsRow B 3 1 v l.length ((l.mergeSort (fun x y=>decide (x≤y))).map int)∧Kb v.ownBlock w w'):=by
 rcases h.2 with⟨rfl,h0⟩|⟨g,cap,cur,rfl,hb,hg,h1,h2,h3,h4⟩
 ·have hl:l=[]:=List.length_eq_zero_iff.1 h0
  subst hl
  have c:=Any.slices_Sort_int_none Tryz.laysSort none 0 w
  refine Calls.mono c ?_
  rintro e w' ⟨rfl,rfl⟩
  exact⟨_,rfl,by simpa using h,((Ext.refl _).kb _)⟩
 ·have hH:=holds_of_blockI (ss:=l) hg (by rw [Nat.mul_one] at h4;exact h4)
  have c:=Any.slices_Sort_int Tryz.laysSort g 0 cap l w hH (Array.getElem?_eq_some_iff.1 hg).1 (by omega)
  refine Calls.mono c ?_
  rintro e w' ⟨rfl,n,os,rfl⟩
  exact⟨_,rfl,ownsRow_sortedI (by simp) hb hg h1 h2 h3,grownBy_sortedI _⟩
theorem D5y {G:Nat→Prop}{w:World}{a:Option Addr}{n cap:Nat}{ids:List Int}(h:SlG G w (.slice a n cap) ids)(h0:0<n):∃ b off,a=some ⟨b,off,none⟩∧At w b off (ids.map int):=by
 have hn:n=ids.length:=by obtain⟨a',c',e,_⟩:=h;cases e;rfl
 obtain⟨css,h1,h2⟩:=h.css
 have hc:=B0e h1
 subst hc
 rw [R4] at h2
 obtain⟨b,so,e,_,h3⟩:=h2 (by simp;omega)
 exact⟨b,so,e,h3⟩
theorem D5z {w:World}{v:Value}{l:List Int}(h:Sl w v l):Ints w.heap.size w v l:=by
 obtain⟨a,cap,rfl,hc,hm,hp⟩:=h.sl
 by_cases h0:0<l.length
 ·obtain⟨b,off,rfl,hat⟩:=D5y h h0
  refine .inr ⟨b,off,cap,rfl,hat.lt (by simpa using h0),fun j hj=>?_⟩
  have:=hat j (int (l[j]?.getD 0)) (by rw [List.getElem?_map,List.getElem?_eq_getElem hj];rfl)
  exact this
 ·obtain rfl:l=[]:=List.length_eq_zero_iff.1 (by omega)
  exact .inl ⟨⟨a,cap,rfl⟩,rfl⟩
theorem Ints.mono {n m:Nat}{W:World}{sv:Value}{zs:List Int}(h:n≤m):Ints n W sv zs→Ints m W sv zs
 | .inl e=>.inl e
 | .inr ⟨b,off,cap,e,hb,hc⟩=>.inr ⟨b,off,cap,e,by omega,hc⟩
theorem Ints.ext {w w':World}{sv:Value}{zs:List Int}(h:Ints w.heap.size w sv zs)(x:Ext w w'):Ints w'.heap.size w' sv zs:=(h.below x).mono x.size
theorem D6b (l:List Int)(v:Value)(b:Nat)(w:World)(hr:Row w b 31 [v])(hv:Ints w.heap.size w v l)(hl:l.length≤1000000):Calls Tryz.prog 329 #[.slice none 0 0,.func (.func 307) #[] #[.pointer (some ⟨b,0,none⟩)] ] w (Rt fun u w'=>Ext w w'∧w'.ownsRow w.heap.size 3 1 u l.length (l.map int)):=by
 refine Calls.mono (B0y v l (by omega) b w hr.lt (hr.cellAt (j:=0) rfl) hv) ?_
 rintro e w' ⟨u,rfl,ho,hb⟩
 exact⟨u,rfl,hb,ho⟩
attribute [local irreducible] E EL K Val Enters Rt Calls bodyPost Code.wp RQ
theorem C0h (a:Option Addr)(n cap:Nat)(w:World):Calls Tryz.prog 272 #[.slice a n cap] w (Rt fun u w'=>∃ b,u=.func (.func 307) #[] #[.pointer (some ⟨b,0,none⟩)]∧Row w' b 31 [.slice a n cap]∧Ext w w'):=by
 refine G3 (n:=4) (args:=[.slice a n cap]) Tryz.func272 rfl Tryz.ntmps272 (by simp) ?_
 refine J2 ?_
 refine H8 ?_
 refine O9 Z Z Z Z (fun bS wS xS hbS rS0=>?_)
 have rS:Row wS bS 31 [.slice a n cap]:=rS0
 (repeat' (first|refine eV Z Z (J5 (vs:=[.pointer (some ⟨bS,0,none⟩)]) Z Z) ?_|refine Sy ?_|fail))
 exact Q1 Z Z ⟨bS,rfl,rS,xS⟩
theorem B0x (l:List Int)(v:Value)(b:Nat)(w:World)(hr:Row w b 31 [v])(hv:Ints w.heap.size w v l)(hl:l.length≤1000000):Calls Tryz.prog 305 #[.func (.func 307) #[] #[.pointer (some ⟨b,0,none⟩)] ] w (Rt fun u w'=>Ext w w'∧w'.ownsRow w.heap.size 3 1 u l.length (l.map int)):=by
 refine G3 (n:=5) (args:=[.func (.func 307) #[] #[.pointer (some ⟨b,0,none⟩)] ]) Tryz.func305 rfl Tryz.ntmps305 (by simp) ?_
 have c:=D6b l v b w hr hv hl
 (repeat' (first|(refine D7 Z Z (D5 Z Z G7g) c (fun vC wC hC=>?_);obtain⟨xC,oC⟩:=hC)|refine Sy ?_|fail))
 exact Q1 Z Z ⟨xC,oC⟩
theorem B4u (l:List Int)(v:Value)(b:Nat)(w:World)(hr:Row w b 31 [v])(hv:Ints w.heap.size w v l)(hl:l.length≤1000000):Calls Tryz.prog 271 #[.func (.func 307) #[] #[.pointer (some ⟨b,0,none⟩)] ] w (Rt fun u w'=>Ext w w'∧w'.ownsRow w.heap.size 3 1 u l.length ((l.mergeSort (fun x y=>decide (x≤y))).map int)):=by
 refine G3 (n:=9) (args:=[.func (.func 307) #[] #[.pointer (some ⟨b,0,none⟩)] ]) Tryz.func271 rfl Tryz.ntmps271 (by simp) ?_
 have c:=B0x l v b w hr hv hl
 (repeat' (first|(refine D7 Z Z (D5 Z Z G7k) c (fun vC wC hC=>?_);obtain⟨xC,oC⟩:=hC)|refine Sy ?_|fail))
 have c2:=C0r l vC w.heap.size wC oC hl
 (repeat' (first|(refine D7 Z Z (D5 Z Z G7j) c2 (fun vD wD hD=>?_);obtain⟨oD,kD⟩:=hD)|refine Sy ?_|fail))
 exact Q1 Z Z ⟨A8s oC xC kD,oD⟩
end Go.Proofs.YtojadfppncgphaaGreatDoor
namespace Go.En
open Go.RowKit
section
variable {P : Program}{n : Nat}{Q : Post}{ops : List Oper}
theorem H0y (J:(Nat→Prop)→Act→World→Prop)(hlow:A9z ops=true)(hgd:∀ o∈ops,o.guard=none)
  (hstep:∀ C C' a w i o,J C a w→Clo ops C→¬ C i→ops[i]?=some o→(∀ e∈o.after,Region.binds .any e=true→C e.on)→(∀ j,C' j↔j=i∨C j)→∀ K Q',(∀ v w',J C' (a.put o.dst v) w'→K (a.put o.dst v) w')→o.wp P a w K Q')
  (hend:∀ C a w,(∀ j,j<ops.length→C j)→J C a w→Q .normal a w) :
  ∀(fuel:Nat) (listed:Array Bool) (a:Act) (w:World),listed.size=ops.length→Clo ops (LsD listed)→J (LsD listed) a w→unl ops.length listed=fuel→wpAny P .any ops.toArray Q fuel listed a w:=by
 have hleast:∀(listed:Array Bool),listed.size=ops.length→(¬ ∀ j,j<ops.length→LsD listed j)→∃ i,i<ops.length∧i∈Region.ready .any ops.toArray listed:=by
  intro listed hl hn
  have:∃ i,i<ops.length∧¬ LsD listed i:=by
   apply Classical.byContradiction
   intro h
   exact hn fun j hj=>Classical.byContradiction fun hj'=>h ⟨j,hj,hj'⟩
  obtain⟨i,h1,h2,h3⟩:=A1v (fun i=>by unfold LsD;infer_instance) ops.length this
  exact⟨i,h1,(K2 hl).2 ⟨h2,_,List.getElem?_eq_getElem h1,fun e he hb=>h3 _ (Y8 hlow (List.getElem?_eq_getElem h1) he hb)⟩⟩
 intro fuel
 induction fuel with
 | zero=>
  intro listed a w hl hc hj hu
  have hall:∀ j,j<ops.length→LsD listed j:=by
   intro j hj
   apply Classical.byContradiction
   intro hn
   have:=A1o (N:=ops.length) hj hl hn
   omega
  refine⟨?_,hend _ a w hall hj⟩
  rw [List.eq_nil_iff_forall_not_mem]
  intro i hi
  obtain⟨h1,o,ho,_⟩:=(K2 hl).1 hi
  exact h1 (hall i (List.getElem?_eq_some_iff.1 ho).1)
 | succ fuel ih=>
  intro listed a w hl hc hj hu
  refine⟨fun h0=>?_,fun i hi=>?_⟩
  ·refine hend _ a w (Classical.byContradiction fun hn=>?_) hj
   obtain⟨i,_,hi⟩:=hleast listed hl hn
   rw [h0] at hi;cases hi
  obtain⟨hun,o,ho,hed⟩:=(K2 hl).1 hi
  have hilt:=(List.getElem?_eq_some_iff.1 ho).1
  have hoa:ops.toArray[i]?=some o:=by simpa using ho
  have hset:∀ j,LsD (listed.setIfInBounds i true) j↔(j=i∨LsD listed j):=fun j=>by
   unfold LsD
   by_cases hij:i=j
   ·subst hij;simp [hl,hilt]
   ·rw [getD_set_ne false hij];constructor
    ·exact .inr
    ·rintro(h|h)
     ·exact absurd h.symm hij
     ·exact h
  unfold wpOp
  simp only [hoa]
  have hw:Region.wanted o (yielded ops.toArray a.tmps)=true:=by unfold Region.wanted;rw [hgd o (List.mem_of_getElem? ho)]
  rw [if_pos hw]
  refine .inl (hstep _ _ a w i o hj hc hun ho (fun e he hb=>hed e he hb) hset _ _ fun v w' hv=>?_)
  refine ih _ _ _ (by simpa using hl) ?_ hv ?_
  ·intro k q hq hk e he hb
   rw [hset] at hk ⊢
   rcases hk with rfl|hk
   ·rw [ho] at hq;cases hq;exact .inr (hed e he hb)
   ·exact .inr (hc k q hq hk e he hb)
  ·have:=A1o (N:=ops.length) hilt hl hun
   omega
theorem G6s {L:List (Nat × Value)}{a:Act}{x:Operand}{v:Value}(h:∀ s u,x=.tmp s→lk L s=some u→a.tmps[s]?=some u)(hx:ev L x=some v):a.eval x=v:=by
 cases x with
 | tmp t=>simp only [En.ev] at hx;have:=h t v rfl hx;simp [Act.eval,Array.getD_eq_getD_getElem?,this]
 | const u=>simpa [En.ev,Act.eval] using hx
 | global g=>simpa [En.ev,Act.eval] using hx
 | func f=>simpa [En.ev,Act.eval] using hx
structure JP (n:Nat)(L0 Lr:List (Nat × Value))(w0:World)(m p q:Nat)(t:TypeId)(Zc X Y:List Value)(C:Nat→Prop)(a:Act)(w:World):Prop where
 size:a.tmps.size=n
 nod:a.defers=[]
 ext:Ext w0 w
 base:∀ s v,lk L0 s=some v→a.tmps[s]?=some v
 reads:∀ j s v,C j→Lr[j]?=some (s,v)→a.tmps[s]?=some v
 hp:C m→∃ b,a.tmps[p]?=some (.pointer (some ⟨b,0,none⟩))∧w0.heap.size≤b∧(C (m+2)→Row w b t X)∧(¬ C (m+2)→Row w b t Zc)
 hq:C (m+1)→∃ b,a.tmps[q]?=some (.pointer (some ⟨b,0,none⟩))∧w0.heap.size≤b∧(C (m+3)→Row w b t Y)∧(¬ C (m+3)→Row w b t Zc)
 ne:C m→C (m+1)→a.tmps[p]?≠a.tmps[q]?
theorem C8v {a:Act}{d:Option Tmp}{v:Value}{s:Nat}(h:d≠some s):(a.put d v).tmps[s]?=a.tmps[s]?:=by
 cases d with
 | none=>rfl
 | some d=>exact Array.getElem?_setIfInBounds_ne (fun e=>h (by rw [e]))
theorem G3f {a:Act}{d:Nat}{v:Value}(h:d<a.tmps.size):(a.put (some d) v).tmps[d]?=some v:=by
 simp only [Act.put];exact Array.getElem?_setIfInBounds_self_of_lt h
theorem C8u {a:Act}{d:Option Tmp}{v:Value}:(a.put d v).tmps.size=a.tmps.size:=by cases d <;> simp [Act.put]
theorem D6i {a:Act}{d:Option Tmp}{v:Value}:(a.put d v).defers=a.defers:=by cases d <;> rfl
end
end Go.En
namespace Go.En
open Go.RowKit
section
variable {P : Program}{n : Nat}{Q : Post}{ops : List Oper}
end
end Go.En
