/- Own text. -/
import Derived.Test.YtojadfppncgphaaGreatDoorQUd
import Derived.Test.YtojadfppncgphaaGreatDoorQUc
import Derived.Test.YtojadfppncgphaaGreatDoorTie
import Derived.Deep.DeepWitnessRowRef
import Derived.JoinedCond
set_option linter.all false
set_option maxHeartbeats 16000000
set_option maxRecDepth 100000
namespace Go.Proofs.YtojadfppncgphaaGreatDoor
section
open Go.ChangeShapes Go.WideShapes Go.ChangeAt Go.RowKit Go.Lib Go.En Go.Dl Go.Tp
theorem C9n {α:Type}{t:TypeId}{fs:Array Field}{C:α→List Dt}{B:Nat→α→Prop}(hO:OpE Tryz.prog t C B)(hu:Tryz.prog.underlying t=some (.struct fs)){H:Type}{enc:TypeId × Value→H}{W:World}{base:Nat}{v:Value}{d:DataW H}{ps:List MemPlace}{sp:Nat→Bool}{held:Bool}
  (hval:Value.okWide Tryz.prog W .any base t v) (h:DataW.Trod enc Tryz.prog W 0 sp held t v d ps) (hbd:Bd Tryz.prog t d):∃ a:α,DR (Hb W) W (.g (C a)) v∧B (Rows.uptoBulk d) a:=by
 obtain⟨cs,rfl,hcs⟩:=okWide_struct hu hval
 obtain⟨fuel,h⟩:=h
 obtain⟨a,r,m⟩:=hO.o (x:=(d,ps)) h hbd
 exact⟨a,by rw [DR];exact⟨cs.toList,by simp,by simpa [Value.cells] using r⟩,m⟩
theorem vR0 {G:Nat→Prop}{w:World}:DR.valsR G w false [] []:=by rw [DR.valsR]
theorem vRc {G:Nat→Prop}{w:World}{x:Dt}{xs:List Dt}{u:Value}{us:List Value}(h:DR G w x u)(k:DR.valsR G w false xs us):DR.valsR G w false (x::xs) (u::us):=by rw [DR.valsR];exact⟨u,us,rfl,fun h=>Bool.noConfusion h,h,k⟩
theorem D4k {k:Nat}{g:Lng}(h:bLng k g)(hk:k≤1048576):LangS g where
 s1 p hp:=Nat.le_trans (h.1.2.1 p hp).1 hk
 s2:=Nat.le_trans h.2.1.1 hk
 s3 u hu:=Nat.le_trans (h.2.1.2.1.2.1 u hu).1 hk
 s4 l hl s hs:=Nat.le_trans ((h.2.1.2.2.1.2.1 l hl).2.1 s hs) hk
 s5:=Nat.le_trans (h.2.1.2.2.1.2.2 List.length fun _ _ q=>q.1) hk
 s6 r hr:=Nat.le_trans (h.2.2.1.2.1 r hr).1.1 hk
 s7:=Nat.le_trans h.2.2.2.2.1.1 hk
 s8 e he s hs:=⟨Nat.le_trans ((h.2.2.2.2.1.2.1 e he).2.2.2.2.2.1.2.1 s hs).1 hk,Nat.le_trans ((h.2.2.2.2.1.2.1 e he).2.2.2.2.2.1.2.1 s hs).2.1 hk⟩
theorem D8o {k:Nat}{p:Prj}(h:bPrj k p)(hk:k≤1048576):PrjS p where
 lang:=D4k h.1 hk
 docs:=Nat.le_trans h.2.1.1 hk
 names d hd t ht:=Nat.le_trans ((h.2.1.2.1 d hd).2.1.2.1 t ht).1 hk
 notes d hd n hn:=Nat.le_trans ((h.2.1.2.1 d hd).2.2.1.2.1 n hn).2.2.2.2.2.1 hk
 recs d hd:=Nat.le_trans (h.2.1.2.1 d hd).1.2.1 hk
 pnts q hq:=⟨Nat.le_trans (h.2.2.2.1.2.1 q hq).2.1 hk,Nat.le_trans (h.2.2.2.1.2.1 q hq).2.2.1 hk⟩
 people q hq:=Nat.le_trans (h.2.2.2.2.1.1.2.1 q hq).2.1 hk
 groups q hq:=Nat.le_trans (h.2.2.2.2.1.2.1.2.1 q hq).2.1 hk
 subs:=by
  have:=h.2.2.2.2.1.2.1.2.2 (fun g=>g.subs.length) fun _ _ q=>q.2.2.2.1.1
  unfold P3
  rw [List.length_flatMap]
  omega
end
section
open Go.ChangeShapes Go.WideShapes Go.ChangeAt Go.RowKit Go.Lib Go.En
theorem own:ownKnob Tryz.prog.godebug=none:=by kernel_rfl
theorem C3x:laidOutB Tryz.prog=true:=by kernel_rfl
def lv:DataW Unit→Value
 | .lit l=>l.value
 | _=>.int .u8 0
def lvs:DataW Unit→List Value
 | .agg l=>l.map lv
 | _=>[]
def lvs2:DataW Unit→List Value
 | .agg l=>l.flatMap lvs
 | _=>[]
noncomputable def laidWorld (os:Os):World:=
 let w0:=World.holding Tryz.prog os ⟨#[],#[],[]⟩
 let put (h:Array Obj) (g:Nat) (cs:Array Value):Array Obj:=h.modify g fun
  | .cells _ t frozen=>.cells cs t frozen
  | o=>o
 let h1:=put w0.heap 0 (lvs Rows.laid_internal_strconv_uint64pow10).toArray
 let h2:=put h1 2 (lvs Rows.laid_unicode_utf8_first).toArray
 let h3:=put h2 3 (lvs2 Rows.laid_unicode_utf8_acceptRanges).toArray
 let h4:=put h3 4 (lvs Rows.laid_math_bits_deBruijn32tab).toArray
 let h5:=put h4 5 (lvs Rows.laid_math_bits_deBruijn64tab).toArray
 { w0 with heap:=h5 }
theorem D0l (os:Os)(args:Array Value):laidMet Tryz.prog Rows.topWithdrawnUptoRow.laid ((laidWorld os).forCall (fun _ _=>0) ⟨#[],args,[]⟩).memory:=
 (LaidIn.of_run (l:=Rows.topWithdrawnUptoRow.laid) [0,2,3,4,5] 8 (by kernel_rfl) (by kernel_rfl) (by kernel_rfl) (by kernel_rfl)).met
theorem band {a b:Bool}(ha:a=true)(hb:b=true):(a&&b)=true:=by rw [ha,hb];rfl
end
end Go.Proofs.YtojadfppncgphaaGreatDoor
namespace Go.Proofs.YtojadfppncgphaaGreatDoor
section
theorem D6m:laidOutB Tryz.pinned.checked.prog=true:=by kernel_rfl
theorem C8w:mapsRowed Tryz.pinned.checked.prog=true:=by kernel_rfl
theorem C8z:Tryz.pinned.checked.prog.stopsHeard=true:=by kernel_rfl
theorem C9a:Tryz.pinned.checked.prog.mayEnter=true:=by kernel_rfl
theorem C8y:(Rows.topWithdrawnRow.lifted==Tryz.pinned.checked.prog.liftsFinal)=true:=by kernel_rfl
theorem D6k:(Tryz.pinned.checked.prog.make==some Rows.topWithdrawnRow.make)=true:=by kernel_rfl
theorem C8x:(Rows.topWithdrawnRow.plainKeys==Tryz.pinned.checked.prog.plainKeys)=true:=by kernel_rfl
theorem D6l:Tryz.pinned.checked.prog.mainIs=some (Rows.topWithdrawnCard.stood.harness.1,Rows.topWithdrawnCard.stood.harness.2.toList):=by kernel_rfl
end
end Go.Proofs.YtojadfppncgphaaGreatDoor