/-
  Own text of the proof.
-/
import Derived.Test.YtjicdgejhkgpgaaGreatDoorCards
import Derived.Test.YtjicdgejhkgpgaaGreatDoorTie
import Derived.Test.YtjicdgejhkgpgaaGreatDoorYn
import Derived.Test.YtjicdgejhkgpgaaGreatDoorYi
import Derived.Test.YtjicdgejhkgpgaaGreatDoorYp
import Derived.Test.YtjicdgejhkgpgaaGreatDoorYt
import Derived.Lib.LaidIn
import Derived.Lib.LaidU8T
import Derived.PinnedBridge
import Derived.Deep.DeepHandedRow
import Derived.Deep.DeepWitnessRowRef
import Derived.ProofKit
import Derived.SizedLaws
import Derived.OpenShut
set_option linter.all false
set_option maxRecDepth 100000
namespace Go.Proofs.YtjicdgejhkgpgaaGreatDoor
open Go.Shelf Go.ChangeShapes Go.WideShapes Go.ChangeAt Go.RowKit Go.Lib Go.En Go.Pv
open Go.ChangeMaps (open_string shut_string)
theorem own:ownKnob Tryz.prog.godebug=none:=by kernel_rfl
theorem B1s:laidOutB Tryz.prog=true:=by kernel_rfl
noncomputable def laidWorld (os:Os):World:=
  let w0:=World.holding Tryz.prog os ⟨#[],#[],[]⟩
  let put (h:Array Obj) (g:Nat) (cs:Array Value):Array Obj:=h.modify g fun
    | .cells _ t frozen=>.cells cs t frozen
    | o=>o
  let h1:=put w0.heap 0 (Lib.firstTab.map fun z=>Value.int .u8 z).toArray
  let h2:=put h1 1 ((List.range 16).flatMap fun i=>[Value.int .u8 (Lib.accLo i),Value.int .u8 (Lib.accHi i)]).toArray
  { w0 with heap:=h2 }
theorem C5k:Rows.laid_unicode_utf8_first=Lib.firstData:=Pinned.utf8First_eq
theorem C3f:(Rows.laid_unicode_utf8_acceptRanges:DataW Unit)=Lib.acceptData:=by kernel_rfl
theorem C2a {W:World} (hL:laidMetH Tryz.prog Rows.provenanceAttestsRow.laid W):Tabs W:=by
  have hL':laidMet Tryz.prog Rows.provenanceAttestsRow.laid W:=hL
  have h1:=Lib.laidMet.reads hL' (.head _)
  have h2:=Lib.laidMet.reads hL' (.tail _ (.head _))
  rw [C3f] at h1
  rw [C5k] at h2
  exact utf8Tabs_of_readsT (U8Types.of196 Tryz.laysValid) ⟨by kernel_rfl,by kernel_rfl,by kernel_rfl,by kernel_rfl,by kernel_rfl,by kernel_rfl,by kernel_rfl⟩ h2 h1
theorem K6 {s:ByteArray} (h:s.size≤maxLen):s.data.toList.length≤9223372036854775807:=by
  have h1:s.data.toList.length=s.size:=rfl
  unfold maxLen at h
  omega
theorem C6h {H:Type} (d:DataW H):1≤Rows.uptoBulk d:=by
  cases d with
  | lit l=>cases l <;>(unfold Rows.uptoBulk;omega)
  | _=>unfold Rows.uptoBulk;omega
theorem A7q {H:Type} {d:DataW H}:∀ {ds:List (DataW H)},d∈ds→Rows.uptoBulk d≤Rows.uptoBulkAll ds
  | [],h=>by cases h
  | e :: r, h => by
    unfold Rows.uptoBulkAll
    rcases List.mem_cons.1 h with rfl|h
    · omega
    · have:=A7q h
      omega
theorem B4m {H:Type}:∀(ds:List (DataW H)),ds.length≤Rows.uptoBulkAll ds
  | []=>Nat.zero_le _
  | d::r=>by
    unfold Rows.uptoBulkAll
    have:=B4m r
    have:=C6h d
    rw [List.length_cons];omega
theorem N6 {H:Type} {x:DataW H × List MemPlace} {s:ByteArray} {k:Nat} (h:x=(.lit (.string s.data.toList),[])) (hk:Rows.uptoBulk x.1≤k):s.data.toList.length≤k:=by
  subst h
  simp only [Rows.uptoBulk] at hk
  omega
class Bdd (α:Type) where
  B:Nat→α→Prop
  mono:∀ {k k':Nat} {a:α},k≤k'→B k a→B k' a
instance:Bdd Int:=⟨fun _ _=>True,fun _ _=>trivial⟩
instance:Bdd Txt:=⟨fun k t=>t.l.length≤k,fun h h'=>Nat.le_trans h' h⟩
instance {α:Type} [Bdd α]:Bdd (List α):=⟨fun k l=>l.length≤k∧∀ x∈l,Bdd.B k x,fun h h'=>⟨Nat.le_trans h'.1 h,fun x hx=>Bdd.mono h (h'.2 x hx)⟩⟩
class OpB (P:Program) (t:TypeId) (α:Type) [Rep α] [Bdd α]:Prop where
  o:∀ {H:Type} {enc:TypeId × Value→H} {w:World} {sp:Nat→Bool} {held:Bool} {fuel:Nat} {cs:List Value} {x:DataW H × List MemPlace},DataW.trod enc P w 0 sp held fuel t cs=some x→Bd P t x.1→∃ a:α,Rep.at_ Tt w a cs∧Bdd.B (Rows.uptoBulk x.1) a
theorem C4t {α:Type} [Rep α] {H:Type} {enc:TypeId × Value→H} {P:Program} {w:World} {sp:Nat→Bool} {held:Bool} {fuel:Nat} {t e:TypeId} {cs:List Value} {x:DataW H × List MemPlace} (M:α→DataW H→Prop)
    (hO:∀(n:Nat) (cs:List Value) (x:DataW H × List MemPlace),fuel=n+1→DataW.trod enc P w 0 sp held n e cs=some x→Bd P e x.1→∃ a:α,Rep.at_ Tt w a cs∧M a x.1) (ht:P.underlying t=some (.slice e)) (hc:P.cellsOf e=Rep.sz α) (hz:0<Rep.sz α) (hb:1≤P.bytesOf e) (h:DataW.trod enc P w 0 sp held fuel t cs=some x) (hbd:Bd P t x.1) :
    ∃ v,cs=[v]∧∃ xs:List α,Sl w v xs∧(xs=[]∨∃ elems spare,x.1=.slice elems spare∧xs.length=elems.length∧∀(i:Nat) (a:α),xs[i]?=some a→∃ d,elems[i]?=some d∧M a d):=by
  rcases DataW.trod_slice ht h with⟨rfl,_⟩|⟨a,len,cap,elems,rest,n,hfu,rfl,rfl,_,hl,_,hlen,hel,_⟩
  · exact⟨_,rfl,[],SlG.nil,.inl rfl⟩
  refine⟨_,rfl,?_⟩
  simp only [Bd,DataW.weights,ht,List.all_cons,List.all_append,Bool.and_eq_true,decide_eq_true_eq,List.length_map] at hbd
  obtain⟨hw1,hw2,_⟩:=hbd
  have hlm:len≤140737488355328:=by
    have h1:=reachBytes_lt
    have h2:elems.length*1≤(elems.length+rest.length)*P.bytesOf e:=Nat.mul_le_mul (by omega) hb
    omega
  have key:∀ i,i<len→∃ c x y,w.cells? 0 (a.add (i*P.cellsOf e)) (P.cellsOf e)=some c∧Rep.at_ Tt w (x:α) c∧elems[i]?=some y∧M x y.1:=fun i hi=>by
    have h1:=hel i hi
    obtain⟨y,hy⟩:∃ y,elems[i]?=some y:=⟨_,List.getElem?_eq_getElem (by omega)⟩
    rw [hy,Option.bind_eq_some_iff] at h1
    obtain⟨c,hc1,hc2⟩:=h1
    obtain⟨x,hx,hm⟩:=hO n _ _ hfu hc2 (Z8 hw2 y.1 (List.mem_map.2 ⟨y,List.mem_of_getElem? hy,rfl⟩))
    exact⟨c,x,y,hc1,hx,hy,hm⟩
  by_cases h0:len=0
  · subst h0
    exact⟨[],⟨some a,cap,rfl,by simp,by simp,fun h=>absurd h (by simp)⟩,.inl rfl⟩
  have hsp:a=⟨a.block,a.off,none⟩:=by
    obtain⟨c,x,_,hc1,_⟩:=key 0 (by omega)
    unfold World.cells? at hc1
    rw [if_pos (Nat.zero_le _)] at hc1
    have hlc:=mapM_some_length hc1
    rw [List.length_range,hc] at hlc
    obtain⟨v,hv⟩:∃ v,c[0]?=some v:=⟨_,List.getElem?_eq_getElem (by omega)⟩
    have:=mapM_some_get hc1 0 0 (List.getElem?_range (by omega))
    rw [hv] at this
    simp only [Nat.zero_mul,show ∀ a:Addr,a.add 0=a from fun a=>by simp [Addr.add]] at this
    exact Go.En.cell_spot this
  have all:∀ k,k≤len→∃(xs:List α) (css:List (List Value)),xs.length=k∧Ats w xs css∧At w a.block a.off css.flatten∧∀(i:Nat) (x:α),xs[i]?=some x→∃ y,elems[i]?=some y∧M x y.1:=by
    intro k
    induction k with
    | zero=>exact fun _=>⟨[],[],rfl,trivial,fun j v hv=>by simp at hv,fun i x hx=>by simp at hx⟩
    | succ k ih=>
      intro hk
      obtain⟨xs,css,h1,h2,h3,h5⟩:=ih (by omega)
      obtain⟨c,x,y,hc1,hx,hy,hm⟩:=key k (by omega)
      rw [hsp,D2] at hc1
      obtain⟨_,h4⟩:=C6d hc1
      refine⟨xs++[x],css++[c],by simp [h1],AllAt.append h2 (AllAt.one hx),?_,fun i z hz=>?_⟩
      · rw [List.flatten_append]
        refine At.join h3 ?_
        rw [AtsG.flat h2,h1,← hc]
        simpa using h4
      · by_cases hi:i<k
        · rw [List.getElem?_append_left (by omega)] at hz
          exact h5 i z hz
        · have:=(List.getElem?_eq_some_iff.1 hz).1
          simp at this
          obtain rfl:i=k:=by omega
          rw [List.getElem?_append_right (by omega),h1,Nat.sub_self] at hz
          simp at hz
          subst hz
          exact⟨y,hy,hm⟩
  obtain⟨xs,css,h1,h2,h3,h5⟩:=all len (Nat.le_refl _)
  refine⟨xs,⟨some a,cap,by rw [h1],by omega,by omega,fun _=>⟨a.block,a.off,by rw [← hsp],trivial,css,h2,h3⟩⟩,.inr ⟨_,_,rfl,by rw [List.length_map,h1,hlen],fun i z hz=>?_⟩⟩
  obtain⟨y,hy,hm⟩:=h5 i z hz
  exact⟨y.1,by rw [List.getElem?_map,hy];rfl,hm⟩
theorem H7 {α:Type} [Rep α] [Bdd α] {H:Type} {enc:TypeId × Value→H} {P:Program} {w:World} {sp:Nat→Bool} {held:Bool} {fuel:Nat} {t e:TypeId} {cs:List Value} {x:DataW H × List MemPlace} [hO:OpB P e α] (ht:P.underlying t=some (.slice e)) (hc:P.cellsOf e=Rep.sz α) (hb:1≤P.bytesOf e)
    (h:DataW.trod enc P w 0 sp held fuel t cs=some x) (hbd:Bd P t x.1):∃ v,cs=[v]∧∃ xs:List α,Sl w v xs∧Bdd.B (Rows.uptoBulk x.1) xs:=by
  obtain⟨v,e1,xs,h1,h2⟩:=C4t (α:=α) (fun a d=>Bdd.B (Rows.uptoBulk d) a) (fun n c y _ hy hby=>hO.o hy hby) ht hc Rep.pos hb h hbd
  refine⟨v,e1,xs,h1,?_⟩
  rcases h2 with rfl|⟨elems,spare,e2,hl,hm⟩
  · exact⟨Nat.zero_le _,fun _ h=>by cases h⟩
  · rw [e2]
    have h3:=B4m elems
    refine⟨by unfold Rows.uptoBulk;omega,fun a ha=>?_⟩
    obtain⟨i,hi⟩:=List.getElem?_of_mem ha
    obtain⟨d,hd,hB⟩:=hm i a hi
    refine Bdd.mono ?_ hB
    have:=A7q (List.mem_of_getElem? hd)
    simp only [Rows.uptoBulk]
    omega
theorem B4f {P:Program} {t e:TypeId} {α:Type} [Rep α] [Bdd α] [hO:OpB P e α] (ht:P.underlying t=some (.slice e)) (hc:P.cellsOf e=Rep.sz α) (hb:1≤P.bytesOf e):OpB P t (List α):=⟨fun h hbd=>by
  obtain⟨v,e1,xs,h1,h2⟩:=H7 (α:=α) ht hc hb h hbd
  exact⟨xs,⟨v,e1,h1⟩,h2⟩⟩
theorem C5 {H:Type} {enc:TypeId × Value→H} {P:Program} {w:World} {sp:Nat→Bool} {held:Bool} {fuel:Nat} {t:TypeId} {fs:Array Field} {tos:List (TypeId × Nat)} {cs:List Value} {x:DataW H × List MemPlace}
    (hu:P.underlying t=some (.struct fs)) (hfs:(fs.toList.map fun f=>(f.type,f.offset))=tos) (h:DataW.trod enc P w 0 sp held fuel t cs=some x) (hbd:Bd P t x.1) :
    cs.length=P.cellsOf t∧∀(i:Nat) (ty off:Nat),tos[i]?=some (ty,off)→∃ y n,DataW.trod enc P w 0 sp held n ty ((cs.drop off).take (P.cellsOf ty))=some y∧Bd P ty y.1∧Rows.uptoBulk y.1≤Rows.uptoBulk x.1:=by
  obtain⟨xs,n,_,rfl,hl,hlen,hf⟩:=DataW.trod_struct hu h
  refine⟨hl,fun i ty off hi=>?_⟩
  subst hfs
  rw [List.getElem?_map,Array.getElem?_toList] at hi
  cases hfi:fs[i]? with
  | none=>rw [hfi] at hi;cases hi
  | some f=>
    rw [hfi] at hi
    simp only [Option.map_some,Option.some.injEq,Prod.mk.injEq] at hi
    obtain⟨rfl,rfl⟩:=hi
    have hlt:=(Array.getElem?_eq_some_iff.1 hfi).1
    obtain⟨y,hy⟩:∃ y,xs[i]?=some y:=⟨_,List.getElem?_eq_getElem (by omega)⟩
    refine⟨y,n,by rw [hf i f hfi,hy],?_,?_⟩
    · simp only [Bd,DataW.weights,hu] at hbd
      exact A5q hbd (j:=i) (by rw [List.getElem?_map,Array.getElem?_toList,hfi];rfl) (by rw [List.getElem?_map,hy];rfl)
    · have:=A7q (List.mem_map.2 ⟨y,List.mem_of_getElem? hy,rfl⟩:y.1∈xs.map (·.1))
      simp only [Rows.uptoBulk]
      omega
instance opB3:OpB Tryz.prog 3 Int:=⟨fun h _=>by
  obtain⟨z,rfl,_⟩:=DataW.trod_int Tryz.underlying3 h
  exact⟨z,rfl,trivial⟩⟩
instance opB9:OpB Tryz.prog 9 Txt:=⟨fun h _=>by
  obtain⟨s,rfl,d,_⟩:=DataW.trod_string Tryz.underlying9 h
  exact⟨⟨s.data.toList⟩,by rw [X5];rfl,N6 d (Nat.le_refl _)⟩⟩
instance opB32:OpB Tryz.prog 32 (List Int):=B4f Tryz.underlying32 (by kernel_rfl) (of_decide_eq_true (by kernel_rfl))
instance opB109:OpB Tryz.prog 109 (List Txt):=B4f Tryz.underlying109 (by kernel_rfl) (of_decide_eq_true (by kernel_rfl))
instance:Bdd Tier:=⟨fun k a=>a.name.length≤k∧a.name.length≤9223372036854775807,fun h h'=>⟨Nat.le_trans h'.1 h,h'.2⟩⟩
instance opB88:OpB Tryz.prog 88 Tier:=⟨fun {H enc w sp held fuel cs x} h hbd=>by
  obtain⟨fs0,hu0,hfs0⟩:∃ fs,Tryz.prog.underlying 88=some (.struct fs)∧(fs.toList.map fun f=>(f.type,f.offset))=[(9,0),(3,1),(3,2),(3,3)]:=⟨_,Tryz.underlying88,by kernel_rfl⟩
  obtain⟨hl0,hf0⟩:=C5 hu0 hfs0 h hbd
  rw [show Tryz.prog.cellsOf 88=4 by kernel_rfl] at hl0
  match cs,hl0 with
  | [c0,c1,c2,c3],_=>
    obtain⟨y1,n1,h1,b1,q1⟩:=hf0 0 9 0 rfl
    rw [show Tryz.prog.cellsOf 9=1 by kernel_rfl] at h1
    obtain⟨z1,e1,d1,m1⟩:=DataW.trod_string Tryz.underlying9 h1
    have u1:=N6 d1 q1
    have v1:=K6 m1
    rw [X5] at e1
    obtain⟨y2,n2,h2,b2,q2⟩:=hf0 1 3 1 rfl
    rw [show Tryz.prog.cellsOf 3=1 by kernel_rfl] at h2
    obtain⟨z2,e2,_⟩:=DataW.trod_int Tryz.underlying3 h2
    obtain⟨y3,n3,h3,b3,q3⟩:=hf0 2 3 2 rfl
    rw [show Tryz.prog.cellsOf 3=1 by kernel_rfl] at h3
    obtain⟨z3,e3,_⟩:=DataW.trod_int Tryz.underlying3 h3
    obtain⟨y4,n4,h4,b4,q4⟩:=hf0 3 3 3 rfl
    rw [show Tryz.prog.cellsOf 3=1 by kernel_rfl] at h4
    obtain⟨z4,e4,_⟩:=DataW.trod_int Tryz.underlying3 h4
    simp at e1 e2 e3 e4
    subst e1 e2 e3 e4
    exact⟨⟨z1.data.toList,z2,z3,z4⟩,rfl,⟨u1,v1⟩⟩⟩
instance:Bdd Note:=⟨fun k a=>a.text.length≤k,fun h h'=>Nat.le_trans h' h⟩
instance opB80:OpB Tryz.prog 80 Note:=⟨fun {H enc w sp held fuel cs x} h hbd=>by
  obtain⟨fs0,hu0,hfs0⟩:∃ fs,Tryz.prog.underlying 80=some (.struct fs)∧(fs.toList.map fun f=>(f.type,f.offset))=[(3,0),(3,1),(3,2),(76,3),(3,5),(9,6)]:=⟨_,Tryz.underlying80,by kernel_rfl⟩
  obtain⟨hl0,hf0⟩:=C5 hu0 hfs0 h hbd
  rw [show Tryz.prog.cellsOf 80=7 by kernel_rfl] at hl0
  match cs,hl0 with
  | [c0,c1,c2,c3,c4,c5,c6],_=>
    obtain⟨y1,n1,h1,b1,q1⟩:=hf0 0 3 0 rfl
    rw [show Tryz.prog.cellsOf 3=1 by kernel_rfl] at h1
    obtain⟨z1,e1,_⟩:=DataW.trod_int Tryz.underlying3 h1
    obtain⟨y2,n2,h2,b2,q2⟩:=hf0 1 3 1 rfl
    rw [show Tryz.prog.cellsOf 3=1 by kernel_rfl] at h2
    obtain⟨z2,e2,_⟩:=DataW.trod_int Tryz.underlying3 h2
    obtain⟨y3,n3,h3,b3,q3⟩:=hf0 2 3 2 rfl
    rw [show Tryz.prog.cellsOf 3=1 by kernel_rfl] at h3
    obtain⟨z3,e3,_⟩:=DataW.trod_int Tryz.underlying3 h3
    obtain⟨y4,n4,h4,b4,q4⟩:=hf0 3 76 3 rfl
    rw [show Tryz.prog.cellsOf 76=2 by kernel_rfl] at h4
    obtain⟨fs5,hu5,hfs5⟩:∃ fs,Tryz.prog.underlying 76=some (.struct fs)∧(fs.toList.map fun f=>(f.type,f.offset))=[(3,0),(3,1)]:=⟨_,Tryz.underlying76,by kernel_rfl⟩
    obtain⟨hl5,hf5⟩:=C5 hu5 hfs5 h4 b4
    obtain⟨y6,n6,h6,b6,q6⟩:=hf5 0 3 0 rfl
    rw [show Tryz.prog.cellsOf 3=1 by kernel_rfl] at h6
    replace q6:=Nat.le_trans q6 q4
    obtain⟨z6,e6,_⟩:=DataW.trod_int Tryz.underlying3 h6
    obtain⟨y7,n7,h7,b7,q7⟩:=hf5 1 3 1 rfl
    rw [show Tryz.prog.cellsOf 3=1 by kernel_rfl] at h7
    replace q7:=Nat.le_trans q7 q4
    obtain⟨z7,e7,_⟩:=DataW.trod_int Tryz.underlying3 h7
    obtain⟨y8,n8,h8,b8,q8⟩:=hf0 4 3 5 rfl
    rw [show Tryz.prog.cellsOf 3=1 by kernel_rfl] at h8
    obtain⟨z8,e8,_⟩:=DataW.trod_int Tryz.underlying3 h8
    obtain⟨y9,n9,h9,b9,q9⟩:=hf0 5 9 6 rfl
    rw [show Tryz.prog.cellsOf 9=1 by kernel_rfl] at h9
    obtain⟨z9,e9,d9,m9⟩:=DataW.trod_string Tryz.underlying9 h9
    have u9:=N6 d9 q9
    have v9:=K6 m9
    rw [X5] at e9
    simp at e1 e2 e3 e6 e7 e8 e9
    subst e1 e2 e3 e6 e7 e8 e9
    exact⟨⟨z1,z2,z3,z6,z7,z8,z9.data.toList⟩,rfl,u9⟩⟩
instance:Bdd Ph:=⟨fun k a=>a.name.length≤k,fun h h'=>Nat.le_trans h' h⟩
instance opB144:OpB Tryz.prog 144 Ph:=⟨fun {H enc w sp held fuel cs x} h hbd=>by
  obtain⟨fs0,hu0,hfs0⟩:∃ fs,Tryz.prog.underlying 144=some (.struct fs)∧(fs.toList.map fun f=>(f.type,f.offset))=[(9,0),(3,1)]:=⟨_,Tryz.underlying144,by kernel_rfl⟩
  obtain⟨hl0,hf0⟩:=C5 hu0 hfs0 h hbd
  rw [show Tryz.prog.cellsOf 144=2 by kernel_rfl] at hl0
  match cs,hl0 with
  | [c0,c1],_=>
    obtain⟨y1,n1,h1,b1,q1⟩:=hf0 0 9 0 rfl
    rw [show Tryz.prog.cellsOf 9=1 by kernel_rfl] at h1
    obtain⟨z1,e1,d1,m1⟩:=DataW.trod_string Tryz.underlying9 h1
    have u1:=N6 d1 q1
    have v1:=K6 m1
    rw [X5] at e1
    obtain⟨y2,n2,h2,b2,q2⟩:=hf0 1 3 1 rfl
    rw [show Tryz.prog.cellsOf 3=1 by kernel_rfl] at h2
    obtain⟨z2,e2,_⟩:=DataW.trod_int Tryz.underlying3 h2
    simp at e1 e2
    subst e1 e2
    exact⟨⟨z1.data.toList,z2⟩,rfl,u1⟩⟩
instance:Bdd Unt:=⟨fun k a=>a.graph.length≤k∧Bdd.B k a.segs,fun h h'=>⟨Nat.le_trans h'.1 h,Bdd.mono h h'.2⟩⟩
instance opB108:OpB Tryz.prog 108 Unt:=⟨fun {H enc w sp held fuel cs x} h hbd=>by
  obtain⟨fs0,hu0,hfs0⟩:∃ fs,Tryz.prog.underlying 108=some (.struct fs)∧(fs.toList.map fun f=>(f.type,f.offset))=[(9,0),(32,1)]:=⟨_,Tryz.underlying108,by kernel_rfl⟩
  obtain⟨hl0,hf0⟩:=C5 hu0 hfs0 h hbd
  rw [show Tryz.prog.cellsOf 108=2 by kernel_rfl] at hl0
  match cs,hl0 with
  | [c0,c1],_=>
    obtain⟨y1,n1,h1,b1,q1⟩:=hf0 0 9 0 rfl
    rw [show Tryz.prog.cellsOf 9=1 by kernel_rfl] at h1
    obtain⟨z1,e1,d1,m1⟩:=DataW.trod_string Tryz.underlying9 h1
    have u1:=N6 d1 q1
    have v1:=K6 m1
    rw [X5] at e1
    obtain⟨y2,n2,h2,b2,q2⟩:=hf0 1 32 1 rfl
    rw [show Tryz.prog.cellsOf 32=1 by kernel_rfl] at h2
    haveI:=opB3
    obtain⟨z2,e2,s2,r2,p2⟩:=H7 (α:=Int) Tryz.underlying32 (by kernel_rfl) (of_decide_eq_true (by kernel_rfl)) h2 b2
    replace p2:=Bdd.mono q2 p2
    simp at e1 e2
    subst e1 e2
    exact⟨⟨z1.data.toList,s2⟩,⟨_,rfl,r2⟩,⟨u1,p2⟩⟩⟩
instance:Bdd Cls:=⟨fun _ _=>True,fun _ _=>trivial⟩
instance opB301:OpB Tryz.prog 301 Cls:=⟨fun {H enc w sp held fuel cs x} h hbd=>by
  obtain⟨fs0,hu0,hfs0⟩:∃ fs,Tryz.prog.underlying 301=some (.struct fs)∧(fs.toList.map fun f=>(f.type,f.offset))=[(3,0),(3,1)]:=⟨_,Tryz.underlying301,by kernel_rfl⟩
  obtain⟨hl0,hf0⟩:=C5 hu0 hfs0 h hbd
  rw [show Tryz.prog.cellsOf 301=2 by kernel_rfl] at hl0
  match cs,hl0 with
  | [c0,c1],_=>
    obtain⟨y1,n1,h1,b1,q1⟩:=hf0 0 3 0 rfl
    rw [show Tryz.prog.cellsOf 3=1 by kernel_rfl] at h1
    obtain⟨z1,e1,_⟩:=DataW.trod_int Tryz.underlying3 h1
    obtain⟨y2,n2,h2,b2,q2⟩:=hf0 1 3 1 rfl
    rw [show Tryz.prog.cellsOf 3=1 by kernel_rfl] at h2
    obtain⟨z2,e2,_⟩:=DataW.trod_int Tryz.underlying3 h2
    simp at e1 e2
    subst e1 e2
    exact⟨⟨z1,z2⟩,rfl,trivial⟩⟩
instance:Bdd Rul:=⟨fun k a=>Bdd.B k a.frm∧Bdd.B k a.to∧Bdd.B k a.left∧Bdd.B k a.right,fun h h'=>⟨Bdd.mono h h'.1,Bdd.mono h h'.2.1,Bdd.mono h h'.2.2.1,Bdd.mono h h'.2.2.2⟩⟩
instance opB112:OpB Tryz.prog 112 Rul:=⟨fun {H enc w sp held fuel cs x} h hbd=>by
  obtain⟨fs0,hu0,hfs0⟩:∃ fs,Tryz.prog.underlying 112=some (.struct fs)∧(fs.toList.map fun f=>(f.type,f.offset))=[(32,0),(32,1),(110,2),(110,3),(4,4),(4,5)]:=⟨_,Tryz.underlying112,by kernel_rfl⟩
  obtain⟨hl0,hf0⟩:=C5 hu0 hfs0 h hbd
  rw [show Tryz.prog.cellsOf 112=6 by kernel_rfl] at hl0
  match cs,hl0 with
  | [c0,c1,c2,c3,c4,c5],_=>
    obtain⟨y1,n1,h1,b1,q1⟩:=hf0 0 32 0 rfl
    rw [show Tryz.prog.cellsOf 32=1 by kernel_rfl] at h1
    haveI:=opB3
    obtain⟨z1,e1,s1,r1,p1⟩:=H7 (α:=Int) Tryz.underlying32 (by kernel_rfl) (of_decide_eq_true (by kernel_rfl)) h1 b1
    replace p1:=Bdd.mono q1 p1
    obtain⟨y2,n2,h2,b2,q2⟩:=hf0 1 32 1 rfl
    rw [show Tryz.prog.cellsOf 32=1 by kernel_rfl] at h2
    haveI:=opB3
    obtain⟨z2,e2,s2,r2,p2⟩:=H7 (α:=Int) Tryz.underlying32 (by kernel_rfl) (of_decide_eq_true (by kernel_rfl)) h2 b2
    replace p2:=Bdd.mono q2 p2
    obtain⟨y3,n3,h3,b3,q3⟩:=hf0 2 110 2 rfl
    rw [show Tryz.prog.cellsOf 110=1 by kernel_rfl] at h3
    haveI:=opB301
    obtain⟨z3,e3,s3,r3,p3⟩:=H7 (α:=Cls) Tryz.underlying110 (by kernel_rfl) (of_decide_eq_true (by kernel_rfl)) h3 b3
    replace p3:=Bdd.mono q3 p3
    obtain⟨y4,n4,h4,b4,q4⟩:=hf0 3 110 3 rfl
    rw [show Tryz.prog.cellsOf 110=1 by kernel_rfl] at h4
    haveI:=opB301
    obtain⟨z4,e4,s4,r4,p4⟩:=H7 (α:=Cls) Tryz.underlying110 (by kernel_rfl) (of_decide_eq_true (by kernel_rfl)) h4 b4
    replace p4:=Bdd.mono q4 p4
    obtain⟨y5,n5,h5,b5,q5⟩:=hf0 4 4 4 rfl
    rw [show Tryz.prog.cellsOf 4=1 by kernel_rfl] at h5
    obtain⟨z5,e5,_⟩:=DataW.trod_bool Tryz.underlying4 h5
    obtain⟨y6,n6,h6,b6,q6⟩:=hf0 5 4 5 rfl
    rw [show Tryz.prog.cellsOf 4=1 by kernel_rfl] at h6
    obtain⟨z6,e6,_⟩:=DataW.trod_bool Tryz.underlying4 h6
    simp at e1 e2 e3 e4 e5 e6
    subst e1 e2 e3 e4 e5 e6
    exact⟨⟨s1,s2,s3,s4,z5,z6⟩,⟨_,_,_,_,rfl,r1,r2,r3,r4⟩,⟨p1,p2,p3,p4⟩⟩⟩
instance:Bdd Stp:=⟨fun _ _=>True,fun _ _=>trivial⟩
instance opB146:OpB Tryz.prog 146 Stp:=⟨fun {H enc w sp held fuel cs x} h hbd=>by
  obtain⟨fs0,hu0,hfs0⟩:∃ fs,Tryz.prog.underlying 146=some (.struct fs)∧(fs.toList.map fun f=>(f.type,f.offset))=[(3,0),(3,1),(3,2)]:=⟨_,Tryz.underlying146,by kernel_rfl⟩
  obtain⟨hl0,hf0⟩:=C5 hu0 hfs0 h hbd
  rw [show Tryz.prog.cellsOf 146=3 by kernel_rfl] at hl0
  match cs,hl0 with
  | [c0,c1,c2],_=>
    obtain⟨y1,n1,h1,b1,q1⟩:=hf0 0 3 0 rfl
    rw [show Tryz.prog.cellsOf 3=1 by kernel_rfl] at h1
    obtain⟨z1,e1,_⟩:=DataW.trod_int Tryz.underlying3 h1
    obtain⟨y2,n2,h2,b2,q2⟩:=hf0 1 3 1 rfl
    rw [show Tryz.prog.cellsOf 3=1 by kernel_rfl] at h2
    obtain⟨z2,e2,_⟩:=DataW.trod_int Tryz.underlying3 h2
    obtain⟨y3,n3,h3,b3,q3⟩:=hf0 2 3 2 rfl
    rw [show Tryz.prog.cellsOf 3=1 by kernel_rfl] at h3
    obtain⟨z3,e3,_⟩:=DataW.trod_int Tryz.underlying3 h3
    simp at e1 e2 e3
    subst e1 e2 e3
    exact⟨⟨z1,z2,z3⟩,rfl,trivial⟩⟩
instance:Bdd Sns:=⟨fun k a=>a.gloss.length≤k∧a.dfn.length≤k,fun h h'=>⟨Nat.le_trans h'.1 h,Nat.le_trans h'.2 h⟩⟩
instance opB148:OpB Tryz.prog 148 Sns:=⟨fun {H enc w sp held fuel cs x} h hbd=>by
  obtain⟨fs0,hu0,hfs0⟩:∃ fs,Tryz.prog.underlying 148=some (.struct fs)∧(fs.toList.map fun f=>(f.type,f.offset))=[(9,0),(9,1)]:=⟨_,Tryz.underlying148,by kernel_rfl⟩
  obtain⟨hl0,hf0⟩:=C5 hu0 hfs0 h hbd
  rw [show Tryz.prog.cellsOf 148=2 by kernel_rfl] at hl0
  match cs,hl0 with
  | [c0,c1],_=>
    obtain⟨y1,n1,h1,b1,q1⟩:=hf0 0 9 0 rfl
    rw [show Tryz.prog.cellsOf 9=1 by kernel_rfl] at h1
    obtain⟨z1,e1,d1,m1⟩:=DataW.trod_string Tryz.underlying9 h1
    have u1:=N6 d1 q1
    have v1:=K6 m1
    rw [X5] at e1
    obtain⟨y2,n2,h2,b2,q2⟩:=hf0 1 9 1 rfl
    rw [show Tryz.prog.cellsOf 9=1 by kernel_rfl] at h2
    obtain⟨z2,e2,d2,m2⟩:=DataW.trod_string Tryz.underlying9 h2
    have u2:=N6 d2 q2
    have v2:=K6 m2
    rw [X5] at e2
    simp at e1 e2
    subst e1 e2
    exact⟨⟨z1.data.toList,z2.data.toList⟩,rfl,⟨u1,u2⟩⟩⟩
instance:Bdd Lnk:=⟨fun _ _=>True,fun _ _=>trivial⟩
instance opB212:OpB Tryz.prog 212 Lnk:=⟨fun {H enc w sp held fuel cs x} h hbd=>by
  obtain⟨fs0,hu0,hfs0⟩:∃ fs,Tryz.prog.underlying 212=some (.struct fs)∧(fs.toList.map fun f=>(f.type,f.offset))=[(3,0),(3,1)]:=⟨_,Tryz.underlying212,by kernel_rfl⟩
  obtain⟨hl0,hf0⟩:=C5 hu0 hfs0 h hbd
  rw [show Tryz.prog.cellsOf 212=2 by kernel_rfl] at hl0
  match cs,hl0 with
  | [c0,c1],_=>
    obtain⟨y1,n1,h1,b1,q1⟩:=hf0 0 3 0 rfl
    rw [show Tryz.prog.cellsOf 3=1 by kernel_rfl] at h1
    obtain⟨z1,e1,_⟩:=DataW.trod_int Tryz.underlying3 h1
    obtain⟨y2,n2,h2,b2,q2⟩:=hf0 1 3 1 rfl
    rw [show Tryz.prog.cellsOf 3=1 by kernel_rfl] at h2
    obtain⟨z2,e2,_⟩:=DataW.trod_int Tryz.underlying3 h2
    simp at e1 e2
    subst e1 e2
    exact⟨⟨z1,z2⟩,rfl,trivial⟩⟩
instance:Bdd Rf:=⟨fun _ _=>True,fun _ _=>trivial⟩
instance opB39:OpB Tryz.prog 39 Rf:=⟨fun {H enc w sp held fuel cs x} h hbd=>by
  obtain⟨fs0,hu0,hfs0⟩:∃ fs,Tryz.prog.underlying 39=some (.struct fs)∧(fs.toList.map fun f=>(f.type,f.offset))=[(3,0),(3,1)]:=⟨_,Tryz.underlying39,by kernel_rfl⟩
  obtain⟨hl0,hf0⟩:=C5 hu0 hfs0 h hbd
  rw [show Tryz.prog.cellsOf 39=2 by kernel_rfl] at hl0
  match cs,hl0 with
  | [c0,c1],_=>
    obtain⟨y1,n1,h1,b1,q1⟩:=hf0 0 3 0 rfl
    rw [show Tryz.prog.cellsOf 3=1 by kernel_rfl] at h1
    obtain⟨z1,e1,_⟩:=DataW.trod_int Tryz.underlying3 h1
    obtain⟨y2,n2,h2,b2,q2⟩:=hf0 1 3 1 rfl
    rw [show Tryz.prog.cellsOf 3=1 by kernel_rfl] at h2
    obtain⟨z2,e2,_⟩:=DataW.trod_int Tryz.underlying3 h2
    simp at e1 e2
    subst e1 e2
    exact⟨⟨z1,z2⟩,rfl,trivial⟩⟩
instance:Bdd En:=⟨fun k a=>Bdd.B k a.form∧Bdd.B k a.alts∧Bdd.B k a.senses∧Bdd.B k a.links∧Bdd.B k a.refs,fun h h'=>⟨Bdd.mono h h'.1,Bdd.mono h h'.2.1,Bdd.mono h h'.2.2.1,Bdd.mono h h'.2.2.2.1,Bdd.mono h h'.2.2.2.2⟩⟩
instance opB65:OpB Tryz.prog 65 En:=⟨fun {H enc w sp held fuel cs x} h hbd=>by
  obtain⟨fs0,hu0,hfs0⟩:∃ fs,Tryz.prog.underlying 65=some (.struct fs)∧(fs.toList.map fun f=>(f.type,f.offset))=[(3,0),(32,1),(3,2),(61,3),(3,4),(62,5),(63,6),(46,7)]:=⟨_,Tryz.underlying65,by kernel_rfl⟩
  obtain⟨hl0,hf0⟩:=C5 hu0 hfs0 h hbd
  rw [show Tryz.prog.cellsOf 65=8 by kernel_rfl] at hl0
  match cs,hl0 with
  | [c0,c1,c2,c3,c4,c5,c6,c7],_=>
    obtain⟨y1,n1,h1,b1,q1⟩:=hf0 0 3 0 rfl
    rw [show Tryz.prog.cellsOf 3=1 by kernel_rfl] at h1
    obtain⟨z1,e1,_⟩:=DataW.trod_int Tryz.underlying3 h1
    obtain⟨y2,n2,h2,b2,q2⟩:=hf0 1 32 1 rfl
    rw [show Tryz.prog.cellsOf 32=1 by kernel_rfl] at h2
    haveI:=opB3
    obtain⟨z2,e2,s2,r2,p2⟩:=H7 (α:=Int) Tryz.underlying32 (by kernel_rfl) (of_decide_eq_true (by kernel_rfl)) h2 b2
    replace p2:=Bdd.mono q2 p2
    obtain⟨y3,n3,h3,b3,q3⟩:=hf0 2 3 2 rfl
    rw [show Tryz.prog.cellsOf 3=1 by kernel_rfl] at h3
    obtain⟨z3,e3,_⟩:=DataW.trod_int Tryz.underlying3 h3
    obtain⟨y4,n4,h4,b4,q4⟩:=hf0 3 61 3 rfl
    rw [show Tryz.prog.cellsOf 61=1 by kernel_rfl] at h4
    haveI:=opB32
    obtain⟨z4,e4,s4,r4,p4⟩:=H7 (α:=List Int) Tryz.underlying61 (by kernel_rfl) (of_decide_eq_true (by kernel_rfl)) h4 b4
    replace p4:=Bdd.mono q4 p4
    obtain⟨y5,n5,h5,b5,q5⟩:=hf0 4 3 4 rfl
    rw [show Tryz.prog.cellsOf 3=1 by kernel_rfl] at h5
    obtain⟨z5,e5,_⟩:=DataW.trod_int Tryz.underlying3 h5
    obtain⟨y6,n6,h6,b6,q6⟩:=hf0 5 62 5 rfl
    rw [show Tryz.prog.cellsOf 62=1 by kernel_rfl] at h6
    haveI:=opB148
    obtain⟨z6,e6,s6,r6,p6⟩:=H7 (α:=Sns) Tryz.underlying62 (by kernel_rfl) (of_decide_eq_true (by kernel_rfl)) h6 b6
    replace p6:=Bdd.mono q6 p6
    obtain⟨y7,n7,h7,b7,q7⟩:=hf0 6 63 6 rfl
    rw [show Tryz.prog.cellsOf 63=1 by kernel_rfl] at h7
    haveI:=opB212
    obtain⟨z7,e7,s7,r7,p7⟩:=H7 (α:=Lnk) Tryz.underlying63 (by kernel_rfl) (of_decide_eq_true (by kernel_rfl)) h7 b7
    replace p7:=Bdd.mono q7 p7
    obtain⟨y8,n8,h8,b8,q8⟩:=hf0 7 46 7 rfl
    rw [show Tryz.prog.cellsOf 46=1 by kernel_rfl] at h8
    haveI:=opB39
    obtain⟨z8,e8,s8,r8,p8⟩:=H7 (α:=Rf) Tryz.underlying46 (by kernel_rfl) (of_decide_eq_true (by kernel_rfl)) h8 b8
    replace p8:=Bdd.mono q8 p8
    simp at e1 e2 e3 e4 e5 e6 e7 e8
    subst e1 e2 e3 e4 e5 e6 e7 e8
    exact⟨⟨z1,s2,z3,s4,z5,s6,s7,s8⟩,⟨_,_,_,_,_,rfl,r2,r4,r6,r7,r8⟩,⟨p2,p4,p6,p7,p8⟩⟩⟩
instance:Bdd Pnt:=⟨fun k a=>a.title.length≤k∧a.text.length≤k∧Bdd.B k a.entries∧Bdd.B k a.refs,fun h h'=>⟨Nat.le_trans h'.1 h,Nat.le_trans h'.2.1 h,Bdd.mono h h'.2.2.1,Bdd.mono h h'.2.2.2⟩⟩
instance:Bdd Dc:=⟨fun k a=>a.rname.length≤k∧Bdd.B k a.sp∧Bdd.B k a.tiers∧Bdd.B k a.notes,fun h h'=>⟨Nat.le_trans h'.1 h,Bdd.mono h h'.2.1,Bdd.mono h h'.2.2.1,Bdd.mono h h'.2.2.2⟩⟩
instance opB72:OpB Tryz.prog 72 Dc:=⟨fun {H enc w sp held fuel cs x} h hbd=>by
  obtain⟨fs0,hu0,hfs0⟩:∃ fs,Tryz.prog.underlying 72=some (.struct fs)∧(fs.toList.map fun f=>(f.type,f.offset))=[(68,0),(69,5),(70,6)]:=⟨_,Tryz.underlying72,by kernel_rfl⟩
  obtain⟨hl0,hf0⟩:=C5 hu0 hfs0 h hbd
  rw [show Tryz.prog.cellsOf 72=7 by kernel_rfl] at hl0
  match cs,hl0 with
  | [c0,c1,c2,c3,c4,c5,c6],_=>
    obtain⟨y1,n1,h1,b1,q1⟩:=hf0 0 68 0 rfl
    rw [show Tryz.prog.cellsOf 68=5 by kernel_rfl] at h1
    obtain⟨fs2,hu2,hfs2⟩:∃ fs,Tryz.prog.underlying 68=some (.struct fs)∧(fs.toList.map fun f=>(f.type,f.offset))=[(3,0),(9,1),(3,2),(3,3),(32,4)]:=⟨_,Tryz.underlying68,by kernel_rfl⟩
    obtain⟨hl2,hf2⟩:=C5 hu2 hfs2 h1 b1
    obtain⟨y3,n3,h3,b3,q3⟩:=hf2 0 3 0 rfl
    rw [show Tryz.prog.cellsOf 3=1 by kernel_rfl] at h3
    replace q3:=Nat.le_trans q3 q1
    obtain⟨z3,e3,_⟩:=DataW.trod_int Tryz.underlying3 h3
    obtain⟨y4,n4,h4,b4,q4⟩:=hf2 1 9 1 rfl
    rw [show Tryz.prog.cellsOf 9=1 by kernel_rfl] at h4
    replace q4:=Nat.le_trans q4 q1
    obtain⟨z4,e4,d4,m4⟩:=DataW.trod_string Tryz.underlying9 h4
    have u4:=N6 d4 q4
    have v4:=K6 m4
    rw [X5] at e4
    obtain⟨y5,n5,h5,b5,q5⟩:=hf2 2 3 2 rfl
    rw [show Tryz.prog.cellsOf 3=1 by kernel_rfl] at h5
    replace q5:=Nat.le_trans q5 q1
    obtain⟨z5,e5,_⟩:=DataW.trod_int Tryz.underlying3 h5
    obtain⟨y6,n6,h6,b6,q6⟩:=hf2 3 3 3 rfl
    rw [show Tryz.prog.cellsOf 3=1 by kernel_rfl] at h6
    replace q6:=Nat.le_trans q6 q1
    obtain⟨z6,e6,_⟩:=DataW.trod_int Tryz.underlying3 h6
    obtain⟨y7,n7,h7,b7,q7⟩:=hf2 4 32 4 rfl
    rw [show Tryz.prog.cellsOf 32=1 by kernel_rfl] at h7
    replace q7:=Nat.le_trans q7 q1
    haveI:=opB3
    obtain⟨z7,e7,s7,r7,p7⟩:=H7 (α:=Int) Tryz.underlying32 (by kernel_rfl) (of_decide_eq_true (by kernel_rfl)) h7 b7
    replace p7:=Bdd.mono q7 p7
    obtain⟨y8,n8,h8,b8,q8⟩:=hf0 1 69 5 rfl
    rw [show Tryz.prog.cellsOf 69=1 by kernel_rfl] at h8
    haveI:=opB88
    obtain⟨z8,e8,s8,r8,p8⟩:=H7 (α:=Tier) Tryz.underlying69 (by kernel_rfl) (of_decide_eq_true (by kernel_rfl)) h8 b8
    replace p8:=Bdd.mono q8 p8
    obtain⟨y9,n9,h9,b9,q9⟩:=hf0 2 70 6 rfl
    rw [show Tryz.prog.cellsOf 70=1 by kernel_rfl] at h9
    haveI:=opB80
    obtain⟨z9,e9,s9,r9,p9⟩:=H7 (α:=Note) Tryz.underlying70 (by kernel_rfl) (of_decide_eq_true (by kernel_rfl)) h9 b9
    replace p9:=Bdd.mono q9 p9
    simp at e3 e4 e5 e6 e7 e8 e9
    subst e3 e4 e5 e6 e7 e8 e9
    exact⟨⟨z3,z4.data.toList,z5,z6,s7,s8,s9⟩,⟨_,_,_,rfl,r7,r8,r9⟩,⟨u4,p7,p8,p9⟩⟩⟩
theorem C1u {H:Type} {enc:TypeId × Value→H} {W:World} {base:Nat} {v:Value} {d:DataW H} {ps:List MemPlace} {sp:Nat→Bool} {held:Bool} (hval:Value.okWide Tryz.prog W .any base 22 v) (h:DataW.Trod enc Tryz.prog W 0 sp held 22 v d ps) (hbd:Bd Tryz.prog 22 d) :
    ∃ l:List Dc,Sl W v l∧Bdd.B (Rows.uptoBulk d) l:=by
  obtain⟨a,n,c,rfl⟩:=okWide_slice Tryz.underlying22 hval
  obtain⟨fuel,h⟩:=h
  obtain⟨v',e,l,hl,hb⟩:=H7 (α:=Dc) (x:=(d,ps)) Tryz.underlying22 (by kernel_rfl) (of_decide_eq_true (by kernel_rfl)) h hbd
  simp [Value.cells] at e
  subst e
  exact⟨l,hl,hb⟩
theorem open_rf {H:Type} {enc:TypeId × Value→H} {W:World} {base:Nat} {v:Value} {d:DataW H} {ps:List MemPlace} {sp:Nat→Bool} {held:Bool} (hval:Value.okWide Tryz.prog W .any base 39 v) (h:DataW.Trod enc Tryz.prog W 0 sp held 39 v d ps) (hbd:Bd Tryz.prog 39 d) :
    ∃ r:Rf,v=.agg #[int r.rcd,int r.note]:=by
  obtain⟨fs0,hu0,hfs0⟩:∃ fs,Tryz.prog.underlying 39=some (.struct fs)∧(fs.toList.map fun f=>(f.type,f.offset))=[(3,0),(3,1)]:=⟨_,Tryz.underlying39,by kernel_rfl⟩
  obtain⟨cs,rfl,hcs⟩:=okWide_struct hu0 hval
  obtain⟨fuel,h⟩:=h
  obtain⟨hl0,hf0⟩:=C5 (x:=(d,ps)) hu0 hfs0 h hbd
  rw [show Tryz.prog.cellsOf 39=2 by kernel_rfl] at hcs
  obtain⟨l⟩:=cs
  match l,hcs with
  | [c0,c1],_=>
    obtain⟨y1,n1,h1,b1,q1⟩:=hf0 0 3 0 rfl
    rw [show Tryz.prog.cellsOf 3=1 by kernel_rfl] at h1
    obtain⟨z1,e1,_⟩:=DataW.trod_int Tryz.underlying3 h1
    obtain⟨y2,n2,h2,b2,q2⟩:=hf0 1 3 1 rfl
    rw [show Tryz.prog.cellsOf 3=1 by kernel_rfl] at h2
    obtain⟨z2,e2,_⟩:=DataW.trod_int Tryz.underlying3 h2
    simp [Value.cells] at e1 e2
    subst e1 e2
    exact⟨⟨z1,z2⟩,rfl⟩
structure LgK (k:Nat) (g:Lg):Prop where
  segs:Bdd.B k g.segs
  oname:g.oname.length≤k
  units:Bdd.B k g.units
  letters:Bdd.B k g.letters
  rules:Bdd.B k g.rules
  steps:Bdd.B k g.net.steps
  final:Bdd.B k g.net.final
  lex:Bdd.B k g.lex
theorem C1t {H:Type} {enc:TypeId × Value→H} {W:World} {base:Nat} {v:Value} {d:DataW H} {ps:List MemPlace} {sp:Nat→Bool} {held:Bool} (hval:Value.okWide Tryz.prog W .any base 37 v) (h:DataW.Trod enc Tryz.prog W 0 sp held 37 v d ps) (hbd:Bd Tryz.prog 37 d) :
    ∃(g:Lg) (pv uv tv rv sv fv ev:Value),v=.agg #[pv,str g.oname,uv,tv,rv,int g.net.states,sv,fv,ev]∧LangG Tt W g pv uv tv rv sv fv ev∧LgK (Rows.uptoBulk d) g:=by
  obtain⟨fs0,hu0,hfs0⟩:∃ fs,Tryz.prog.underlying 37=some (.struct fs)∧(fs.toList.map fun f=>(f.type,f.offset))=[(25,0),(29,1),(30,4),(34,5),(35,8)]:=⟨_,Tryz.underlying37,by kernel_rfl⟩
  obtain⟨cs,rfl,hcs⟩:=okWide_struct hu0 hval
  obtain⟨fuel,h⟩:=h
  obtain⟨hl0,hf0⟩:=C5 (x:=(d,ps)) hu0 hfs0 h hbd
  rw [show Tryz.prog.cellsOf 37=9 by kernel_rfl] at hcs
  obtain⟨l⟩:=cs
  match l,hcs with
  | [c0,c1,c2,c3,c4,c5,c6,c7,c8],_=>
    obtain⟨y1,n1,h1,b1,q1⟩:=hf0 0 25 0 rfl
    rw [show Tryz.prog.cellsOf 25=1 by kernel_rfl] at h1
    obtain⟨fs2,hu2,hfs2⟩:∃ fs,Tryz.prog.underlying 25=some (.struct fs)∧(fs.toList.map fun f=>(f.type,f.offset))=[(23,0)]:=⟨_,Tryz.underlying25,by kernel_rfl⟩
    obtain⟨hl2,hf2⟩:=C5 hu2 hfs2 h1 b1
    obtain⟨y3,n3,h3,b3,q3⟩:=hf2 0 23 0 rfl
    rw [show Tryz.prog.cellsOf 23=1 by kernel_rfl] at h3
    replace q3:=Nat.le_trans q3 q1
    haveI:=opB144
    obtain⟨z3,e3,s3,r3,p3⟩:=H7 (α:=Ph) Tryz.underlying23 (by kernel_rfl) (of_decide_eq_true (by kernel_rfl)) h3 b3
    replace p3:=Bdd.mono q3 p3
    obtain⟨y4,n4,h4,b4,q4⟩:=hf0 1 29 1 rfl
    rw [show Tryz.prog.cellsOf 29=3 by kernel_rfl] at h4
    obtain⟨fs5,hu5,hfs5⟩:∃ fs,Tryz.prog.underlying 29=some (.struct fs)∧(fs.toList.map fun f=>(f.type,f.offset))=[(9,0),(26,1),(27,2)]:=⟨_,Tryz.underlying29,by kernel_rfl⟩
    obtain⟨hl5,hf5⟩:=C5 hu5 hfs5 h4 b4
    obtain⟨y6,n6,h6,b6,q6⟩:=hf5 0 9 0 rfl
    rw [show Tryz.prog.cellsOf 9=1 by kernel_rfl] at h6
    replace q6:=Nat.le_trans q6 q4
    obtain⟨z6,e6,d6,m6⟩:=DataW.trod_string Tryz.underlying9 h6
    have u6:=N6 d6 q6
    have v6:=K6 m6
    rw [X5] at e6
    obtain⟨y7,n7,h7,b7,q7⟩:=hf5 1 26 1 rfl
    rw [show Tryz.prog.cellsOf 26=1 by kernel_rfl] at h7
    replace q7:=Nat.le_trans q7 q4
    haveI:=opB108
    obtain⟨z7,e7,s7,r7,p7⟩:=H7 (α:=Unt) Tryz.underlying26 (by kernel_rfl) (of_decide_eq_true (by kernel_rfl)) h7 b7
    replace p7:=Bdd.mono q7 p7
    obtain⟨y8,n8,h8,b8,q8⟩:=hf5 2 27 2 rfl
    rw [show Tryz.prog.cellsOf 27=1 by kernel_rfl] at h8
    replace q8:=Nat.le_trans q8 q4
    haveI:=opB109
    obtain⟨z8,e8,s8,r8,p8⟩:=H7 (α:=List Txt) Tryz.underlying27 (by kernel_rfl) (of_decide_eq_true (by kernel_rfl)) h8 b8
    replace p8:=Bdd.mono q8 p8
    obtain⟨y9,n9,h9,b9,q9⟩:=hf0 2 30 4 rfl
    rw [show Tryz.prog.cellsOf 30=1 by kernel_rfl] at h9
    haveI:=opB112
    obtain⟨z9,e9,s9,r9,p9⟩:=H7 (α:=Rul) Tryz.underlying30 (by kernel_rfl) (of_decide_eq_true (by kernel_rfl)) h9 b9
    replace p9:=Bdd.mono q9 p9
    obtain⟨y10,n10,h10,b10,q10⟩:=hf0 3 34 5 rfl
    rw [show Tryz.prog.cellsOf 34=3 by kernel_rfl] at h10
    obtain⟨fs11,hu11,hfs11⟩:∃ fs,Tryz.prog.underlying 34=some (.struct fs)∧(fs.toList.map fun f=>(f.type,f.offset))=[(3,0),(31,1),(32,2)]:=⟨_,Tryz.underlying34,by kernel_rfl⟩
    obtain⟨hl11,hf11⟩:=C5 hu11 hfs11 h10 b10
    obtain⟨y12,n12,h12,b12,q12⟩:=hf11 0 3 0 rfl
    rw [show Tryz.prog.cellsOf 3=1 by kernel_rfl] at h12
    replace q12:=Nat.le_trans q12 q10
    obtain⟨z12,e12,_⟩:=DataW.trod_int Tryz.underlying3 h12
    obtain⟨y13,n13,h13,b13,q13⟩:=hf11 1 31 1 rfl
    rw [show Tryz.prog.cellsOf 31=1 by kernel_rfl] at h13
    replace q13:=Nat.le_trans q13 q10
    haveI:=opB146
    obtain⟨z13,e13,s13,r13,p13⟩:=H7 (α:=Stp) Tryz.underlying31 (by kernel_rfl) (of_decide_eq_true (by kernel_rfl)) h13 b13
    replace p13:=Bdd.mono q13 p13
    obtain⟨y14,n14,h14,b14,q14⟩:=hf11 2 32 2 rfl
    rw [show Tryz.prog.cellsOf 32=1 by kernel_rfl] at h14
    replace q14:=Nat.le_trans q14 q10
    haveI:=opB3
    obtain⟨z14,e14,s14,r14,p14⟩:=H7 (α:=Int) Tryz.underlying32 (by kernel_rfl) (of_decide_eq_true (by kernel_rfl)) h14 b14
    replace p14:=Bdd.mono q14 p14
    obtain⟨y15,n15,h15,b15,q15⟩:=hf0 4 35 8 rfl
    rw [show Tryz.prog.cellsOf 35=1 by kernel_rfl] at h15
    haveI:=opB65
    obtain⟨z15,e15,s15,r15,p15⟩:=H7 (α:=En) Tryz.underlying35 (by kernel_rfl) (of_decide_eq_true (by kernel_rfl)) h15 b15
    replace p15:=Bdd.mono q15 p15
    simp [Value.cells] at e3 e6 e7 e8 e9 e12 e13 e14 e15
    subst e3 e6 e7 e8 e9 e12 e13 e14 e15
    exact⟨{ segs:=s3,oname:=z6.data.toList,units:=s7,letters:=s8,rules:=s9,net:=⟨z12,s13,s14⟩,lex:=s15 },_,_,_,_,_,_,_,rfl,⟨r3,r7,r8,r9,r13,r14,r15⟩,⟨p3,u6,p7,p8,p9,p13,p14,p15⟩⟩
theorem B8n {k:Nat} {l:List Dc} (h:Bdd.B k l):∀ d∈l,Names d:=fun d hd t ht=>((h.2 d hd).2.2.1.2 t ht).2
theorem lgBd_of {g:Lg} (h:LgK 1048576 g):LgBd g where
  segs p hp:=h.segs.2 p hp
  units u hu:=(h.units.2 u hu).1
  letters l hl t ht:=(h.letters.2 l hl).2 t ht
  lettersL l hl:=(h.letters.2 l hl).1
  oname:=h.oname
  rules r hr:=(h.rules.2 r hr).1.1
  gloss e he x hx:=(((h.lex.2 e he).2.2.1.2 x hx).1)
theorem LgK.mono {k k':Nat} {g:Lg} (h:LgK k g) (hk:k≤k'):LgK k' g:=⟨Bdd.mono hk h.segs,Nat.le_trans h.oname hk,Bdd.mono hk h.units,Bdd.mono hk h.letters,Bdd.mono hk h.rules,Bdd.mono hk h.steps,Bdd.mono hk h.final,Bdd.mono hk h.lex⟩
end Go.Proofs.YtjicdgejhkgpgaaGreatDoor
