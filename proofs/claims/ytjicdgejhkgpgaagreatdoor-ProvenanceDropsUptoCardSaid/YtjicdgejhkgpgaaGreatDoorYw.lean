/-
  Own text of the proof.
-/
import Derived.Test.YtjicdgejhkgpgaaGreatDoorYu
import Derived.Test.YtjicdgejhkgpgaaGreatDoorYv
import Derived.Test.YtjicdgejhkgpgaaGreatDoorYm
import Derived.Test.YtjicdgejhkgpgaaGreatDoorYd
import Derived.Test.YtjicdgejhkgpgaaGreatDoorYe
import Derived.MapKept
import Derived.Test.YtjicdgejhkgpgaaGreatDoorYj
import Derived.RangeFuncNested
import Derived.RangeFuncBound
import Derived.RangeFuncCalls
import Derived.RangeFuncLeaves
import Derived.RangeFuncBox
import Derived.Shelf.Abstract
import Derived.Shelf.RegionOpen
import Derived.WalkKit
import Derived.OwnWalkIn
import Derived.TacticsInMore
import Derived.LoopNIn
import Derived.LoopIn
import Derived.Maps.AppendAt
import Derived.Lib.OthersKept
import Derived.Test.YtjicdgejhkgpgaaGreatDoorChecked
import Derived.Test.YtjicdgejhkgpgaaGreatDoorProg
import Derived.Shelf.Sort.Plain
import Derived.Shelf.Slices.In.SortNone
import Derived.Sort.OwnSortedInts
import Derived.Test.YtjicdgejhkgpgaaGreatDoorYg
import Derived.Test.YtjicdgejhkgpgaaGreatDoorG
import Derived.Lib.SliceRun
set_option linter.all false
set_option maxHeartbeats 8000000
set_option maxRecDepth 100000
namespace Go.Proofs.YtjicdgejhkgpgaaGreatDoor
section
open Go.RowKit Go.En Go.Pv
structure Kx (T:Nat→Prop) (w w':World):Prop where
  os:w'.os=w.os
  tape:w'.tape=w.tape
  output:w'.output=w.output
  size:w.heap.size≤w'.heap.size
  block:∀ k,k<w.heap.size→¬ T k→w'.heap[k]?=w.heap[k]?
theorem Kx.of_ext {T:Nat→Prop} {w w':World} (x:Ext w w'):Kx T w w':=⟨Below.os x,Below.tape x,Below.output x,x.size,fun _ hk _=>x.block hk⟩
theorem Kx.of_kb {T:Nat→Prop} {b:Nat} {w w':World} (k:Kb (some b) w w') (hb:T b):Kx T w w':=⟨k.os,k.tape,k.output,k.size,fun q hq hn=>World.grownBy.block k q hq (fun e=>hn (by cases e;exact hb))⟩
theorem Kx.trans {T:Nat→Prop} {a b c:World} (h:Kx T a b) (k:Kx T b c):Kx T a c:=
  ⟨k.os.trans h.os,k.tape.trans h.tape,k.output.trans h.output,Nat.le_trans h.size k.size,fun q hq hn=>(k.block q (Nat.lt_of_lt_of_le hq h.size) hn).trans (h.block q hq hn)⟩
theorem Kx.wk {T T':Nat→Prop} {a b:World} (h:Kx T a b) (hT:∀ q,T q→T' q):Kx T' a b:=⟨h.os,h.tape,h.output,h.size,fun q hq hn=>h.block q hq (fun ht=>hn (hT q ht))⟩
theorem Kx.mv {T:Nat→Prop} {w w':World} (h:Kx T w w') {G:Nat→Prop} (hG:∀ b,G b→¬ T b):∀ b,G b→b<w.heap.size→G b∧w'.heap[b]?=w.heap[b]?:=fun b hb hlt=>⟨hb,h.block b hlt (hG b hb)⟩
theorem Kx.row {T:Nat→Prop} {w w':World} (h:Kx T w w') {b:Nat} {e:TypeId} {cs:List Value} (hr:Row w b e cs) (hb:¬ T b):Row w' b e cs:=(h.block b hr.lt hb).trans hr
theorem Kx.ext {T:Nat→Prop} {w w':World} (h:Kx T w w') (hT:∀ b,b<w.heap.size→¬ T b):Ext w w':=⟨h.os,h.tape,h.output,h.size,fun q hq=>h.block q hq (hT q hq)⟩
theorem Kx.from {T:Nat→Prop} {w0 w w':World} (h:Kx T w w') (x:Ext w0 w) (hT:∀ b,b<w0.heap.size→¬ T b):Ext w0 w':=
  ⟨h.os.trans (Below.os x),h.tape.trans (Below.tape x),h.output.trans (Below.output x),Nat.le_trans x.size h.size,fun q hq=>(h.block q (Nat.lt_of_lt_of_le hq x.size) (hT q hq)).trans (x.block hq)⟩
def OKb (l:List Int):Prop:=∀ x∈l,1≤x∧x≤8
def fitB (g:Lg) (ws base:List Int):Bool:=decide ((Z5 D1 g.segs g.rules base).length≠0)&&decide (Z5 D1 g.segs g.rules base=ws)
def Tried (g:Lg) (ws:List Int) (w:World) (bT:Nat):Prop:=∃ f:List UInt8→Option Value,MapK w bT f∧∀ k v,f k=some v→∃ b,v=.bool b∧∀ base,OKb base→keyF base=k→b=fitB g ws base
theorem Tried.ext {g:Lg} {ws:List Int} {w w':World} {bT:Nat} (h:Tried g ws w bT) (x:Ext w w'):Tried g ws w' bT:=by
  obtain⟨f,h1,h2⟩:=h;exact⟨f,h1.ext x,h2⟩
theorem A6u {l:List Int} (h:OKb l):∀ x∈l,0≤x∧x<256:=fun x hx=>by have:=h x hx;omega
theorem okb_ne {l:List Int} (h:OKb l):∀ x∈l,x≠0:=fun x hx=>by have:=h x hx;omega
attribute [local irreducible] E EL K Val Enters Rt Calls bodyPost Code.wp RQ
theorem B5c (g : Lg) (hok : ∀ r ∈ g.rules, RulOK r) (pv uv tv rv sv fv ev wv fnv : Value) (sh : Bool) (fin : Nat) (bS bT : Nat) (ws base : List Int) (bv : Value) (w : World) (hb : OKb base) (hbl : base.length ≤ 1000)
    (rS:Row w bS 178 (srC g pv uv tv rv sv fv ev wv (.map (some bT)) fnv sh fin)) (hT:Tried g ws w bT) (hp:Sl w pv g.segs) (hr:Sl w rv g.rules) (hw:Sl w wv ws) (hbv:Sl w bv base) :
    Calls Tryz.prog 139 #[.pointer (some ⟨bS,0,none⟩),bv] w (Rt fun u w'=>u=.bool (fitB g ws base)∧Kx (fun b=>b=bT) w w'∧Tried g ws w' bT):=by
  obtain⟨f,hM,hf⟩:=hT
  unfold srC at rS
  refine A6 (n:=53) (args:=[.pointer (some ⟨bS,0,none⟩),bv]) Tryz.func139 rfl Tryz.ntmps139 (by simp) ?_
  have hX:=Ext.refl w
  have ck:=fun wz hz=>B7w base (A6u hb) hbl bv wz hz
  cases hfk:f (keyF base) with
  | some v=>
    obtain⟨b,rfl,hbb⟩:=hf _ _ hfk
    have hfit:=hbb base hb rfl
    rw [← hfit]
    (repeat' (first|(refine cqC (ck _ hbv) en182 fun wC xC=>?_;replace hX:=hX.trans xC;replace rS:=rS.ext xC;replace hM:=hM.ext xC)|(refine eV Z Z (A2j (k:=keyF base) hM rfl rfl rfl) ?_;rw [hfk])|refine Ly ?_))
    exact A4 Z Z ⟨rfl,Kx.of_ext hX,f,hM,hf⟩
  | none=>
    obtain⟨V,hV⟩:∃ V,V=Z5 D1 g.segs g.rules base:=⟨_,rfl⟩
    have hfit:fitB g ws base=(decide (V.length≠0)&&decide (V=ws)):=by unfold fitB;rw [← hV]
    (repeat' ((fail_if_success (refine B4 (x:=(Code.region 5 _ _)) ?_));first|(refine cqC (ck _ hbv) en182 fun wC xC=>?_;replace hX:=hX.trans xC;replace rS:=rS.ext xC;replace hM:=hM.ext xC;replace hp:=hp.ext xC;replace hr:=hr.ext xC;replace hw:=hw.ext xC;replace hbv:=hbv.ext xC)|(refine eV Z Z (A2j (k:=keyF base) hM rfl rfl rfl) ?_;rw [hfk])|refine Ly ?_))
    refine B4 ?_
    refine E.sub (M:=[(0,.pointer (some ⟨bS,0,none⟩)),(1,bv),(5,str (keyF base))]) ⟨rfl,rfl,rfl,trivial⟩ ?_
    have hI:At _ bS (0+0) [pv]:=At.sub (xs:=[]) (ys:=[pv]) (zs:=[str g.oname,uv,tv,rv,int g.net.states,sv,fv,ev,wv,.bool sh,.int .u32 (fin:Int),.map (some bT),fnv]) rS.at
    have cl:=fun wz h1 h2 h3=>B4o g.segs pv g.rules rv base bv wz h1 h2 h3 hok hbl (okb_ne hb)
    rw [← hV] at cl
    (repeat' ((fail_if_success (refine B4 (x:=(Code.region 6 _ _)) ?_));first|refine C8 (f:=183) (fun u w'=>Sl w' u V) (fun _=>#[.agg #[pv],rv,bv]) Z Z (fun _ _ _ _ xe h=>SlG.ext h xe) (fun _ _ _=>A5 Z Z en183) (fun wq _ xq _=>C0 (cl wq (hp.ext xq) (hr.ext xq) (hbv.ext xq)) (fun _ _ hh=>⟨hh.2,hh.1⟩)) ?_|refine RQ_asgS Z Z Z Z (fun _=>rfl) ?_|(refine J4 (fun wq δ xq hR=>?_);have hF:=hR 8 _ rfl)|refine Sy ?_|refine yqY ?_|refine yqZ ?_|refine E_dq B5 (by kernel_rfl) Z ?_))
    all_goals (try (exfalso;omega))
    replace hX:=hX.trans xq;replace rS:=rS.ext xq;replace hM:=hM.ext xq;replace hw:=hw.ext xq
    obtain⟨va,vc,e8,_,_,_⟩:=SlG.sl hF
    rw [e8] at hF
    refine E.sub (M:=[(0,.pointer (some ⟨bS,0,none⟩)),(5,str (keyF base)),(8,.slice va V.length vc)]) ⟨rfl,rfl,congrArg some e8,trivial⟩ ?_
    have ce:=fun wz h1 h2=>B2e V ws (.slice va V.length vc) wv wz h1 h2
    have upd:∀(b:Bool) (w1 w2:World),b=fitB g ws base→MapK w2 bT (fun j=>if j=keyF base then some (.bool b) else f j)→Tried g ws w2 bT:=fun b w1 w2 he hm=>⟨_,hm,fun k v hk=>by
      by_cases ek:k=keyF base
      · subst ek
        simp at hk;subst hk
        exact⟨b,rfl,fun base' h1 h2=>by rw [B4s (A6u h1) (A6u hb) h2];exact he⟩
      · rw [if_neg ek] at hk
        exact hf k v hk⟩
    by_cases h0:V.length=0
    · have hfF:fitB g ws base=false:=by rw [hfit,h0];rfl
      rw [hfF]
      (repeat' (first|(refine A1n (k:=keyF base) hM rfl rfl rfl rfl rfl rfl (fun wU hU kU=>?_))|refine Ly ?_|refine Dy (fun hh=>?_) fun hh=>?_))
      all_goals (try (exfalso;omega))
      exact A4 Z Z ⟨rfl,(Kx.of_ext hX).trans (Kx.of_kb kU rfl),upd false wU wU hfF.symm hU⟩
    · have hfF:fitB g ws base=decide (V=ws):=by rw [hfit,decide_eq_true h0,Bool.true_and]
      obtain⟨b,hbd⟩:∃ b,decide (V=ws)=b:=⟨_,rfl⟩
      rw [hbd] at ce hfF
      rw [hfF]
      (repeat' (first|(refine cqC (ce _ hF hw) en184 fun wC xC=>?_;replace hX:=hX.trans xC;replace rS:=rS.ext xC;replace hM:=hM.ext xC)|(refine A1n (k:=keyF base) hM rfl rfl rfl rfl rfl rfl (fun wU hU kU=>?_))|refine Ly ?_|refine Dy (fun hh=>?_) fun hh=>?_))
      all_goals (try (exfalso;omega))
      exact A4 Z Z ⟨rfl,(Kx.of_ext hX).trans (Kx.of_kb kU rfl),upd b wU wU hfF.symm hU⟩
end
section
open Go.RowKit Go.En
attribute [local irreducible] E EL K Val Enters Rt Calls bodyPost Code.wp RQ
end
section
open Go.RowKit Go.En
end
end Go.Proofs.YtjicdgejhkgpgaaGreatDoor
namespace Go.En
open Go.RowKit Go.MapKept
def MapF (w:World) (r:Nat) (f:Int→Option Value):Prop:=
  ∃ es clock,w.heap[r]?=some (.map es clock)∧Stamped es clock∧(∀ x∈es.toList,IsKey (.int .i64) x.key)∧∀ k v,f k=some v↔∃ e∈es.toList,e.key=int k∧e.val=v
theorem MapF.lt {w:World} {r:Nat} {f:Int→Option Value} (h:MapF w r f):r<w.heap.size:=by
  obtain⟨_,_,h,_⟩:=h;exact(Array.getElem?_eq_some_iff.1 h).1
theorem MapF.same {w w':World} {r:Nat} {f:Int→Option Value} (h:MapF w r f) (e:w'.heap[r]?=w.heap[r]?):MapF w' r f:=by
  obtain⟨es,c,h1,h2⟩:=h;exact⟨es,c,e.trans h1,h2⟩
theorem MapF.ext {w w':World} {r:Nat} {f:Int→Option Value} (h:MapF w r f) (x:Ext w w'):MapF w' r f:=h.same (x.block h.lt)
section
variable {P : Program} {n : Nat} {Q : Post} {L : List (Nat × Value)} {w : World} {ops : List Oper} {o : Oper} {rest : List Oper}
end
end Go.En
namespace Go.En
open Go.RowKit Go.MapKept
end Go.En
namespace Go.Proofs.YtjicdgejhkgpgaaGreatDoor
section
open Go.RowKit Go.En
attribute [local irreducible] E EL K Val Enters Rt Calls bodyPost Code.wp RQ
end
section
open Go.RowKit Go.En
def C0h (d:Dc) (i:Nat) (k:Int):List Int:=((d.notes.take i).filter fun n=>decide (n.parent=k)).map fun n=>n.id
structure KF (d:Dc) (i:Nat) (Bw:Nat) (w:World) (f:Int→Option Value):Prop where
  none_:∀ k,f k=none→C0h d i k=[]
  some_:∀ k v,f k=some v→w.ownsRow Bw 3 1 v (C0h d i k).length ((C0h d i k).map int)∧0<(C0h d i k).length
  apart:∀ k k' v v',k≠k'→f k=some v→f k'=some v'→v.ownBlock≠v'.ownBlock
theorem KF.ext {d:Dc} {i Bw:Nat} {w w':World} {f:Int→Option Value} (h:KF d i Bw w f) (x:Ext w w'):KF d i Bw w' f:=
  ⟨h.none_,fun k v hv=>⟨C7 (h.some_ k v hv).1 x,(h.some_ k v hv).2⟩,h.apart⟩
attribute [local irreducible] E EL K Val Enters Rt Calls bodyPost Code.wp RQ
end
section
open Go.RowKit Go.Shelf Go.Lib
attribute [local go_sem] Oper.semAt_some
def upTo {α:Type} (f:Nat→α) (k:Nat):List α:=(List.range k).map f
theorem A9d {α:Type} (f:Nat→α) (k:Nat):upTo f (k+1)=upTo f k++[f k]:=by simp [upTo,List.range_succ]
theorem B3h {α:Type} (f:Nat→α) (k:Nat):(upTo f k).length=k:=by simp [upTo]
theorem C3r (zs:List Int):upTo (fun j=>zs[j]?.getD 0) zs.length=zs:=by
  apply List.ext_getElem
  · simp [upTo]
  · intro i h1 h2
    simp [upTo,h2]
theorem info22:(Tryz.prog.info? 3).map (fun i=>(i.zero,i.size,i.bytes))=some (some (.int .i64 0),1,8):=by kernel_rfl
theorem B6i (F : Fence) (n : Nat) (h7 : F.fn 137) (hro : F.round = none) (hn : 1 ≤ n) (l Bs n₀ b off len cap : Nat) (zs : List Int) (hreach : len * 8 ≤ 140737488351232) (hb : b < n₀) (J Jx : List Int → World → Prop)
    (hY:∀ pre x W,J pre W→pre.length<len→YieldAt F (n-1) Tryz.prog l #[.int .i64 x] W fun e W'=>
      (e=.returned (.bool true)∧J (pre++[x]) W'∧Below n₀ W W')∨(e=.returned (.bool false)∧Jx (pre++[x]) W'))
    (W:World) (hBs:W.cell? ⟨Bs,0,none⟩=some (.slice (some ⟨b,off,none⟩) len cap)) (hc:∀ j,j<len→W.cell? ⟨b,off+j,none⟩=some (.int .i64 (zs[j]?.getD 0))) (h0:J [] W) :
    CallsIn F n Tryz.prog 137 #[.func (.yield l) #[] #[],.pointer (some ⟨Bs,0,none⟩)] W fun e W'=>(∃ v,e=.returned v)∧
      ((∃ ys,ys=upTo (fun j=>zs[j]?.getD 0) len∧J ys W')∨(∃ pre,(∃ k,k≤len∧pre=upTo (fun j=>zs[j]?.getD 0) k)∧Jx pre W')):=by
  refine callsIn_of_wp Tryz.func137 rfl h7 ?_ hro
  simp only [Tryz.ntmps137,List.size_toArray,List.length_cons,List.length_nil,Nat.reduceAdd,Nat.reduceSub,Array.replicate_succ,Array.replicate_zero,List.push_toArray,List.append_toArray,List.nil_append,List.cons_append]
  gi_wp2
  gi_loopw [7] (fun i wr=>∃ k:Nat,k≤len∧i=.int .i64 k∧J (upTo (fun j=>zs[j]?.getD 0) k) wr∧Below n₀ W wr)
    (fun i _=>len-(intOf i).toNat)
  case atStart=>exact⟨0,Nat.zero_le _,rfl,h0,Below.refl _ _⟩
  case round=>
    obtain⟨k,hk,rfl,hJs,hnx⟩:=hrel
    have hcx:k<len→wr.cell? ⟨b,off+k,none⟩=some (.int .i64 (zs[k]?.getD 0)):=fun h=>(hnx.cell (p:=⟨b,off+k,none⟩) hb).trans (hc k h)
    by_cases hlt:k<len
    · obtain⟨fn,tmps,assign,body,hy,hR⟩:=hY _ (zs[k]?.getD 0) wr hJs (by rw [B3h];exact hlt)
      have hcx':=hcx hlt
      gi_wp2
      refine hR.mono ?_
      rintro e W3 (⟨rfl,hJ3,hk3⟩|⟨rfl,hJx3⟩)
      · gi_wp2
        go_roundw
        case rel=>exact⟨k+1,by omega,by simp,by rw [A9d];exact hJ3,hnx.trans hk3⟩
        case measure=>simp [intOf];omega
      · gi_wp2
        refine bodyPost_ret (results_none rfl _ _ _) rfl ?_
        exact⟨⟨_,rfl⟩,.inr ⟨_,⟨k+1,by omega,(A9d _ _).symm⟩,hJx3⟩⟩
    · obtain rfl:k=len:=by omega
      gi_wp2
      go_end0
      exact⟨⟨_,rfl⟩,.inl ⟨_,rfl,hJs⟩⟩
def IntsU (n₀:Nat) (W:World) (sv:Value) (zs:List Int):Prop:=
  ((∃ a cap,sv=.slice a 0 cap)∧zs=[])∨∃ b off cap,sv=.slice (some ⟨b,off,none⟩) zs.length cap∧b<n₀∧∀ j,j<zs.length→W.cell? ⟨b,off+j,none⟩=some (.int .i64 (zs[j]?.getD 0))
theorem IntsU.below {n₀:Nat} {A B:World} (h:Below n₀ A B) {sv:Value} {zs:List Int}:IntsU n₀ A sv zs→IntsU n₀ B sv zs
  | .inl e=>.inl e
  | .inr ⟨b,off,cap,e,hb,hc⟩=>.inr ⟨b,off,cap,e,hb,fun j hj=>(h.cell (p:=⟨b,off+j,none⟩) hb).trans (hc j hj)⟩
theorem A5v (F:Fence) (n:Nat) (h7:F.fn 137) (hro:F.round=none) (l Bs:Nat) (a:Option Addr) (cap:Nat) (J:List Int→World→Prop) (W:World) (hBs:W.cell? ⟨Bs,0,none⟩=some (.slice a 0 cap)) (h0:J [] W) :
    CallsIn F n Tryz.prog 137 #[.func (.yield l) #[] #[],.pointer (some ⟨Bs,0,none⟩)] W fun e W'=>(∃ v,e=.returned v)∧J [] W':=by
  refine callsIn_of_wp Tryz.func137 rfl h7 ?_ hro
  simp only [Tryz.ntmps137,List.size_toArray,List.length_cons,List.length_nil,Nat.reduceAdd,Nat.reduceSub,Array.replicate_succ,Array.replicate_zero,List.push_toArray,List.append_toArray,List.nil_append,List.cons_append]
  gi_wp2
  gi_loopw [7] (fun i wr=>i=.int .i64 0∧J [] wr) (fun _ _=>0)
  case atStart=>exact⟨rfl,h0⟩
  case round=>
    obtain⟨rfl,hJs⟩:=hrel
    gi_wp2
    go_end0
    exact⟨⟨_,rfl⟩,hJs⟩
theorem B0o (F:Fence) (n:Nat) (h7:F.fn 137) (hro:F.round=none) (hn:1≤n) (Bs n₀:Nat) (sv:Value) (zs:List Int) (hreach:zs.length*8≤140737488351232) (w:World) (hBs:Bs<w.heap.size) (hn₀:n₀≤w.heap.size)
    (hc:w.cell? ⟨Bs,0,none⟩=some sv) (hI:IntsU n₀ w sv zs) :
    SeqStopsK F n Tryz.prog 137 #[.pointer (some ⟨Bs,0,none⟩)] (fun x:Int=>#[Value.int .i64 x]) (Below n₀) (fun ys=>ys=zs) (fun _=>True) zs.length w:=fun l J Jx W hW _ _ hY h0=>by
  have hc':=(hW.cell (p:=⟨Bs,0,none⟩) hBs).trans hc
  rcases hI.below (hW.mono hn₀) with⟨⟨a,cap,rfl⟩,rfl⟩|⟨b,off,cap,rfl,hb,hcs⟩
  · exact(A5v F n h7 hro l Bs a cap J W hc' h0).mono fun e W' ⟨he,hj⟩=>⟨he,.inl ⟨_,rfl,hj⟩⟩
  · refine(B6i F n h7 hro hn l Bs n₀ b off zs.length cap zs hreach hb J Jx hY W hc' hcs h0).mono ?_
    rintro e W' ⟨he,⟨ys,rfl,hj⟩|⟨pre,_,hj⟩⟩
    · exact⟨he,.inl ⟨_,C3r zs,hj⟩⟩
    · exact⟨he,.inr ⟨_,trivial,hj⟩⟩
theorem A8x (sv:Value) (zs:List Int) (hl:zs.length≤1048576) (Bs:Nat) (w:World) (hBs:Bs<w.heap.size) (hcell:w.cell? ⟨Bs,0,none⟩=some sv) (hI:IntsU w.heap.size w sv zs) :
    Calls Tryz.prog 179 #[.slice none 0 0,.func (.func 137) #[] #[.pointer (some ⟨Bs,0,none⟩)] ] w fun e w'=>∃ v,e=.returned v∧w'.ownsRow w.heap.size 3 1 v zs.length (zs.map (.int .i64))∧Below w.heap.size w w':=by
  obtain⟨i0,hi,hz0,hz1,hz2⟩:=info_parts info22
  refine callsIn_wide (n:=5) |>.1 ?_
  refine callsIn_of_wp_marks Tryz.func179 rfl trivial ?_ rfl
  simp only [Tryz.ntmps179,List.size_toArray,List.length_cons,List.length_nil,Nat.reduceAdd,Nat.reduceSub,Array.replicate_succ,Array.replicate_zero,List.push_toArray,List.append_toArray,List.nil_append,List.cons_append]
  gi_wp2
  have bO:=Boxed.new w 32 (.slice none 0 0)
  have hB0:Below w.heap.size w (w.alloc (.cells #[.slice none 0 0] 32)):=(Below.refl _ w).alloc (Nat.le_refl _) _
  refine wpIn_rangeFunc_ownG rfl (by omega) (gf:=137) (lb:=#[.pointer (some ⟨Bs,0,none⟩)]) rfl trivial (enters_of Tryz.func137 (by kernel_rfl) rfl)
    (B0o Fence.wide 4 trivial rfl (by omega) Bs w.heap.size sv zs (by omega) _ (by simp;omega) (by simp) ((hB0.cell (p:=⟨Bs,0,none⟩) hBs).trans hcell) (hI.below hB0)) belowK_t (belowK_b (by simp)) (Below.refl _ _) (fun _=>rfl)
    (fun pre W=>(∃ v,Boxed W w.heap.size 32 v∧W.ownsRow w.heap.size 3 1 v pre.length (pre.map fun x=>.int .i64 x)∧True)∧Below w.heap.size w W)
    (fun _ _ _=>False)
    (OwnFrom.and (Own.from (holdsRow_own w.heap.size w.heap.size 32 3 1 (fun pre:List Int=>pre.length) (fun pre=>pre.map fun x=>Value.int .i64 x) (fun pre v=>True)) _) (ownFrom_below (Nat.le_refl _) (by simp)))
    (fun _ _ _ _ _ hs _ _=>hs)
    ⟨⟨_,bO,World.ownsRow_nil _ _ _ _,trivial⟩,hB0⟩
    (fun x=>{ tmps:=#[.slice none 0 0,.func (.func 137) #[] #[.pointer (some ⟨Bs,0,none⟩)],.pointer (some ⟨w.heap.size,0,none⟩),undef,.slice none 0 0,.int .i64 x,.func (.func 137) #[] #[.pointer (some ⟨Bs,0,none⟩)],.int .i64 x,undef,undef,undef,undef,undef],defers:=[] }) ?assign ?body ?done ?stop
  case assign=>
    intro l x W K hK
    gi_wp2
    exact hK
  case body=>
    rintro lv pre x W ⟨⟨v,hv,hrow,-⟩,hB⟩ hlt
    have hc:=hv.cell
    gi_wp2_with (gi_at_builtin;refine wpListIn_append_own _ rfl _ _ 32 rfl w.heap.size 3 i0 (.int .i64 0) 1 8 Tryz.underlying32 hi hz0 hz1 hz2 rfl (by decide) _ _ _ rfl (hrow.alloc _) ⟨W.heap.size,0,none⟩ 1 1 [.int .i64 x] rfl rfl (cell_one_new _ _ _) (by simp [Value.oneCell']) (by unfold maxLen;omega) (by omega) (by have:=hB.size;simp;omega) ?_;intro v' w1 hown' hgrow _;obtain⟨g',cap',rfl⟩:=ownsRow_succ hown';obtain⟨hv1,hv2,hr2,hk2,hb2⟩:=hv.appended (by decide) hrow hB.size (by omega) hown' hgrow;have hc1:=hv1.cell;have hf1:=hv1.frozen)
    exact⟨hk2.from _,hb2,⟨_,hv2,by simpa using hr2,trivial⟩,hB.trans hb2⟩
  case done=>
    rintro D ys W hD rfl ⟨⟨v,hv,hrow,-⟩,hB⟩ hK
    have hc:=hv.cell
    gi_wp2
    refine⟨by simp,.inl ⟨_,_,rfl,run_takeDeferred hK,?_⟩⟩
    refine⟨_,results_tmp rfl _ _ _,v,rfl,?_,hB.trans (belowK_b (w:=w) (Nat.le_refl _) W D _ _ (by simp at hD;omega) hK rfl rfl)⟩
    exact ownsRow_putObj hrow _ hK rfl
  case stop=>
    rintro D c pre W _ _ h _
    exact h.elim
end
end Go.Proofs.YtjicdgejhkgpgaaGreatDoor
namespace Go.Proofs
open Go.RowKit Go.Shelf Go.Lib
def Tryz.laysSort_ren:Go.Shelf.Ren:=⟨fun|189=>136|125=>181|257=>180|128=>215|129=>216|294=>206|295=>207|296=>208|297=>209|298=>210|299=>211|216=>212|300=>213|301=>214|328=>229|329=>230|330=>231|331=>232|332=>233|215=>189|343=>243|n=>n,fun|28=>32|3=>3|46=>228|0=>0|51=>176|53=>258|4=>4|183=>264|182=>263|131=>268|5=>5|9=>9|218=>283|222=>287|228=>293|229=>230|n=>n,fun|n=>n⟩
theorem Tryz.laysSort:Go.Proofs.Lays.n189 Tryz.prog Tryz.laysSort_ren:={
  mixed:=by kernel_rfl
  f125:=Tryz.func181.trans (congrArg some (by kernel_rfl))
  f128:=Tryz.func215.trans (congrArg some (by kernel_rfl))
  f129:=Tryz.func216.trans (congrArg some (by kernel_rfl))
  f189:=Tryz.func136.trans (congrArg some (by kernel_rfl))
  f215:=Tryz.func189.trans (congrArg some (by kernel_rfl))
  f216:=Tryz.func212.trans (congrArg some (by kernel_rfl))
  f257:=Tryz.func180.trans (congrArg some (by kernel_rfl))
  f294:=Tryz.func206.trans (congrArg some (by kernel_rfl))
  f295:=Tryz.func207.trans (congrArg some (by kernel_rfl))
  f296:=Tryz.func208.trans (congrArg some (by kernel_rfl))
  f297:=Tryz.func209.trans (congrArg some (by kernel_rfl))
  f298:=Tryz.func210.trans (congrArg some (by kernel_rfl))
  f299:=Tryz.func211.trans (congrArg some (by kernel_rfl))
  f300:=Tryz.func213.trans (congrArg some (by kernel_rfl))
  f301:=Tryz.func214.trans (congrArg some (by kernel_rfl))
  f328:=Tryz.func229.trans (congrArg some (by kernel_rfl))
  f329:=Tryz.func230.trans (congrArg some (by kernel_rfl))
  f330:=Tryz.func231.trans (congrArg some (by kernel_rfl))
  f331:=Tryz.func232.trans (congrArg some (by kernel_rfl))
  f332:=Tryz.func233.trans (congrArg some (by kernel_rfl))
  f343:=Tryz.func243.trans (congrArg some (by kernel_rfl))
  t0:=Tryz.underlying0
  a0:=Tryz.isAgg0
  z0:=Tryz.sizeOf0
  v0:=Tryz.zeroValue0
  t3:=Tryz.underlying3
  a3:=Tryz.isAgg3
  z3:=Tryz.sizeOf3
  v3:=Tryz.zeroValue3
  t4:=Tryz.underlying4
  a4:=Tryz.isAgg4
  z4:=Tryz.sizeOf4
  v4:=Tryz.zeroValue4
  t5:=Tryz.underlying5
  a5:=Tryz.isAgg5
  z5:=Tryz.sizeOf5
  v5:=Tryz.zeroValue5
  t9:=Tryz.underlying9
  a9:=Tryz.isAgg9
  z9:=Tryz.sizeOf9
  v9:=Tryz.zeroValue9
  t28:=Tryz.underlying32
  a28:=Tryz.isAgg32
  z28:=Tryz.sizeOf32
  v28:=Tryz.zeroValue32
  t46:=Tryz.underlying228
  a46:=Tryz.isAgg228
  z46:=Tryz.sizeOf228
  v46:=Tryz.zeroValue228
  t51:=Tryz.underlying176
  a51:=Tryz.isAgg176
  z51:=Tryz.sizeOf176
  v51:=Tryz.zeroValue176
  t53:=Tryz.underlying258
  a53:=Tryz.isAgg258
  z53:=Tryz.sizeOf258
  v53:=Tryz.zeroValue258
  t131:=Tryz.underlying268
  a131:=Tryz.isAgg268
  z131:=Tryz.sizeOf268
  v131:=Tryz.zeroValue268
  t182:=Tryz.underlying263
  a182:=Tryz.isAgg263
  z182:=Tryz.sizeOf263
  v182:=Tryz.zeroValue263
  t183:=Tryz.underlying264
  a183:=Tryz.isAgg264
  z183:=Tryz.sizeOf264
  v183:=Tryz.zeroValue264
  t218:=Tryz.underlying283
  a218:=Tryz.isAgg283
  z218:=Tryz.sizeOf283
  v218:=Tryz.zeroValue283
  t222:=Tryz.underlying287
  a222:=Tryz.isAgg287
  z222:=Tryz.sizeOf287
  v222:=Tryz.zeroValue287
  t228:=Tryz.underlying293
  a228:=Tryz.isAgg293
  z228:=Tryz.sizeOf293
  v228:=Tryz.zeroValue293
  t229:=Tryz.underlying230
  a229:=Tryz.isAgg230
  z229:=Tryz.sizeOf230
  v229:=Tryz.zeroValue230 }
end Go.Proofs
namespace Go.Proofs.YtjicdgejhkgpgaaGreatDoor
section
open Go.RowKit Go.En Go.Sort
theorem B6x (l:List Int) (v:Value) (B:Nat) (w:World) (h:w.ownsRow B 3 1 v l.length (l.map int)) (hlen:l.length≤1000000):Calls Tryz.prog 136 #[v] w (Rt fun _ w'=>w'.ownsRow B 3 1 v l.length ((l.mergeSort (fun x y=>decide (x≤y))).map int)∧Kb v.ownBlock w w'):=by
  rcases h.2 with⟨rfl,h0⟩|⟨g,cap,cur,rfl,hb,hg,h1,h2,h3,h4⟩
  · have hl:l=[]:=List.length_eq_zero_iff.1 h0
    subst hl
    have c:=Any.slices_Sort_int_none Tryz.laysSort none 0 w
    refine Calls.mono c ?_
    rintro e w' ⟨rfl,rfl⟩
    exact⟨_,rfl,by simpa using h,Kb.refl _ _⟩
  · have hH:=holds_of_blockI (ss:=l) hg (by rw [Nat.mul_one] at h4;exact h4)
    have c:=Any.slices_Sort_int Tryz.laysSort g 0 cap l w hH (Array.getElem?_eq_some_iff.1 hg).1 (by omega)
    refine Calls.mono c ?_
    rintro e w' ⟨rfl,n,os,rfl⟩
    exact⟨_,rfl,ownsRow_sortedI (by simp) hb hg h1 h2 h3,grownBy_sortedI _⟩
theorem sl_Ints {w:World} {v:Value} {l:List Int} (h:Sl w v l):IntsU w.heap.size w v l:=by
  obtain⟨a,cap,rfl,hc,hm,hp⟩:=h.sl
  by_cases h0:0<l.length
  · obtain⟨b,off,rfl,hat⟩:=sl_ints h h0
    refine .inr ⟨b,off,cap,rfl,hat.lt (by simpa using h0),fun j hj=>?_⟩
    have:=hat j (int (l[j]?.getD 0)) (by rw [List.getElem?_map,List.getElem?_eq_getElem hj];rfl)
    exact this
  · obtain rfl:l=[]:=List.length_eq_zero_iff.1 (by omega)
    exact .inl ⟨⟨a,cap,rfl⟩,rfl⟩
theorem seq_any (l:List Int) (v:Value) (b:Nat) (w:World) (hr:Row w b 32 [v]) (hv:Sl w v l) (hl:l.length≤1000000):Calls Tryz.prog 179 #[.slice none 0 0,.func (.func 137) #[] #[.pointer (some ⟨b,0,none⟩)] ] w (Rt fun u w'=>Ext w w'∧w'.ownsRow w.heap.size 3 1 u l.length (l.map int)):=by
  refine Calls.mono (A8x v l (by omega) b w hr.lt (hr.cellAt (j:=0) rfl) (sl_Ints hv)) ?_
  rintro e w' ⟨u,rfl,ho,hb⟩
  exact⟨u,rfl,hb,ho⟩
attribute [local irreducible] E EL K Val Enters Rt Calls bodyPost Code.wp RQ
theorem B6h (a:Option Addr) (n cap:Nat) (w:World):Calls Tryz.prog 104 #[.slice a n cap] w (Rt fun u w'=>∃ b,u=.func (.func 137) #[] #[.pointer (some ⟨b,0,none⟩)]∧Row w' b 32 [.slice a n cap]∧Ext w w'):=by
  refine A6 (n:=4) (args:=[.slice a n cap]) Tryz.func104 rfl Tryz.ntmps104 (by simp) ?_
  refine B4 ?_
  refine A9 ?_
  refine C6 Z Z Z Z (fun bS wS xS hbS rS0=>?_)
  have rS:Row wS bS 32 [.slice a n cap]:=rS0
  (repeat' (first|refine eV Z Z (J6 (vs:=[.pointer (some ⟨bS,0,none⟩)]) Z Z) ?_|refine Sy ?_))
  exact A4 Z Z ⟨bS,rfl,rS,xS⟩
theorem A8w (l:List Int) (v:Value) (b:Nat) (w:World) (hr:Row w b 32 [v]) (hv:Sl w v l) (hl:l.length≤1000000):Calls Tryz.prog 135 #[.func (.func 137) #[] #[.pointer (some ⟨b,0,none⟩)] ] w (Rt fun u w'=>Ext w w'∧w'.ownsRow w.heap.size 3 1 u l.length (l.map int)):=by
  refine A6 (n:=5) (args:=[.func (.func 137) #[] #[.pointer (some ⟨b,0,none⟩)] ]) Tryz.func135 rfl Tryz.ntmps135 (by simp) ?_
  have c:=seq_any l v b w hr hv hl
  (repeat' (first|(refine A8 Z Z (A5 Z Z en179) c (fun vC wC hC=>?_);obtain⟨xC,oC⟩:=hC)|refine Sy ?_))
  exact A4 Z Z ⟨xC,oC⟩
theorem B0w (l:List Int) (v:Value) (b:Nat) (w:World) (hr:Row w b 32 [v]) (hv:Sl w v l) (hl:l.length≤1000000):Calls Tryz.prog 103 #[.func (.func 137) #[] #[.pointer (some ⟨b,0,none⟩)] ] w (Rt fun u w'=>Ext w w'∧w'.ownsRow w.heap.size 3 1 u l.length ((l.mergeSort (fun x y=>decide (x≤y))).map int)):=by
  refine A6 (n:=9) (args:=[.func (.func 137) #[] #[.pointer (some ⟨b,0,none⟩)] ]) Tryz.func103 rfl Tryz.ntmps103 (by simp) ?_
  have c:=A8w l v b w hr hv hl
  (repeat' (first|(refine A8 Z Z (A5 Z Z en135) c (fun vC wC hC=>?_);obtain⟨xC,oC⟩:=hC)|refine Sy ?_))
  have c2:=B6x l vC w.heap.size wC oC hl
  (repeat' (first|(refine A8 Z Z (A5 Z Z en136) c2 (fun vD wD hD=>?_);obtain⟨oD,kD⟩:=hD)|refine Sy ?_))
  exact A4 Z Z ⟨O3 oC xC kD,oD⟩
end
end Go.Proofs.YtjicdgejhkgpgaaGreatDoor
namespace Go.En
open Go.RowKit
section
variable {P : Program} {n : Nat} {Q : Post} {L : List (Nat × Value)} {w : World} {ops : List Oper} {o : Oper} {rest : List Oper}
theorem B2s {v:Value} {w':World} (hg:gst ops L o=some true) (hd:o.dst=none) (h:∀ ρ,Agree L o ρ→(execOp ρ o).run P w=.ok (.value v) w') (k:EL P n ops Q rest L w'):EL P n ops Q (o::rest) L w:=
  fun a ha=>wpList_step fun K hK=>by
    rw [N9 ha hg,if_pos rfl]
    unfold Oper.wp
    rw [h a.eval (ha.agree o)]
    refine hK _ _ (k _ ?_)
    rw [hd]
    exact ha
theorem A1e (z:Value) (n:Nat):(Builtin.zeroCells #[z] n).toList=List.replicate n z:=by
  unfold Builtin.zeroCells
  apply List.ext_getElem?
  intro i
  simp only [Array.toList_map,Array.toList_range,List.getElem?_map,List.getElem?_replicate]
  by_cases hi:i<n
  · rw [List.getElem?_range (by simpa using hi),if_pos hi]
    simp [Nat.mod_one]
  · rw [if_neg hi,List.getElem?_eq_none (by simpa using hi)]
    rfl
theorem EL_clear {t e:TypeId} {x:Operand} {z:Value} {bytes:Nat} {b off m cap:Nat} {cur:List Value} [ut:UT P t (.slice e)] [ti:TI P e z 1 bytes] (hr:Row w b e cur) (hg:gst ops L o=some true) (hd:o.dst=none) (ho:o.op=.call { callee:=.builtin .clear,args:=#[x],argTypes:=#[t] })
    (hx:ev L x=some (.slice (some ⟨b,off,none⟩) m cap)) (hz:z.cells=#[z]) (h1:z.oneCell'=true) (hfit:off+m≤cur.length)
    (k:∀ w',Row w' b e (cur.take off++List.replicate m z++cur.drop (off+m))→Kb (some b) w w'→EL P n ops Q rest L w'):EL P n ops Q (o::rest) L w:=by
  obtain⟨i0,hi,hz0,hz1,hz2⟩:=info_parts ti.i
  have hzv:(zeroValue e).run P w=.ok z w:=O7 (P:=P) (t:=e) w
  have hu:=J8 (t:=t) (P:=P) w
  by_cases h0:m=0
  · subst h0
    refine B2s (w':=w) (v:=.tuple #[]) hg hd (fun ρ ha=>?_) (k w (by simpa using hr) (World.grownBy.refl _ _))
    have a1:=ha.ev (by rw [ho];simp [Op.operands,Call.operands]) hx
    simp [execOp,ho,resolve,invoke,builtin,Builtin.clear_,a1,hu]
  · have hst:=run_storeCells_at (P:=P) b off e (List.replicate m z) 0 cur.toArray w hr (by simp;omega) (fun u hu=>by rw [List.eq_of_mem_replicate hu];exact h1)
    simp only [Nat.add_zero] at hst
    have hkb:Kb (some b) w (w.setRow b (cur.take off++List.replicate m z++cur.drop (off+m)).toArray):=⟨rfl,rfl,rfl,by simp,fun k hk hne=>setRow_other w b k _ (fun e=>hne (by rw [e]))⟩
    refine B2s (w':=w.setRow b (cur.take off++List.replicate m z++cur.drop (off+m)).toArray) (v:=.tuple #[]) hg hd (fun ρ ha=>?_) (k _ (setRow_heap w b cur.toArray _ e (0,0) hr) hkb)
    have a1:=ha.ev (by rw [ho];simp [Op.operands,Call.operands]) hx
    obtain⟨m',rfl⟩:∃ m',m=m'+1:=⟨m-1,by omega⟩
    simp only [execOp,ho,resolve,invoke,builtin,Builtin.clear_,Sem.run_bind,Sem.run_pure,Result.andThen_ok,List.map_toArray,List.map_cons,List.map_nil,a1,hu,hzv,hz,A1e]
    simp [hu,hzv,hz,A1e,hst]
end
section
variable {P : Program} {L : List (Nat × Value)} {w : World} {o : Oper}
theorem A5w {t e u:TypeId} {x y:Operand} {a:Option Addr} {m c:Nat} [ut:UT P t (.slice e)] (ho:o.op=.binOp .eql t x y u) (hx:ev L x=some (.slice a m c)) (hy:ev L y=some (.slice none 0 0)):Val P L w o (.bool a.isNone):=fun ρ ha=>by
  have h1:=ha.ev (by rw [ho];simp [Op.operands]) hx
  have h2:=ha.ev (by rw [ho];simp [Op.operands]) hy
  have h3:=J8 (t:=t) (P:=P) w
  have h4:=Lib.run_eql_slice_nil (P:=P) w t e a m c 0 0 ut.u
  simp [execOp,ho,h1,h2,h3,h4,eqGuard]
end
end Go.En
