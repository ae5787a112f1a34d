/-
  What the rows of the seat share: the two tables; documents, lists, queries that came in, opened. What the rows of search share: indexes and lists of documents that came in, opened.
-/
import Derived.Test.YtnifmbbpfdghmaaGreatDoorCards
import Derived.Test.YtnifmbbpfdghmaaGreatDoorTie
import Derived.Test.YtnifmbbpfdghmaaGreatDoorYj
import Derived.Test.YtnifmbbpfdghmaaGreatDoorY1
import Derived.Test.YtnifmbbpfdghmaaGreatDoorY7
import Derived.Test.YtnifmbbpfdghmaaGreatDoorNh
import Derived.Lib.LaidIn
import Derived.Lib.LaidU8T
import Derived.PinnedBridge
import Derived.Deep.DeepHandedRow
import Derived.Deep.DeepWitnessRowRef
import Derived.ProofKit
import Derived.SizedLaws
import Derived.OpenShut
import Derived.Test.YtnifmbbpfdghmaaGreatDoorYn
set_option linter.all false
namespace Go.Proofs.YtnifmbbpfdghmaaGreatDoor
open Go.Shelf Go.ChangeShapes Go.WideShapes Go.ChangeAt Go.RowKit Go.Lib Go.En
open Go.ChangeMaps (open_string shut_string)
theorem own:ownKnob Tryz.prog.godebug=none:=by kernel_rfl
theorem laidOut:laidOutB Tryz.prog=true:=by kernel_rfl
noncomputable def laidWorld (os:Os):World:=
  let w0:=World.holding Tryz.prog os ⟨#[],#[],[]⟩
  let put (h:Array Obj) (g:Nat) (cs:Array Value):Array Obj:=h.modify g fun
    | .cells _ t frozen=>.cells cs t frozen
    | o=>o
  let h1:=put w0.heap 0 (Lib.firstTab.map fun z=>Value.int .u8 z).toArray
  let h2:=put h1 1 ((List.range 16).flatMap fun i=>[Value.int .u8 (Lib.accLo i),Value.int .u8 (Lib.accHi i)]).toArray
  { w0 with heap:=h2 }
theorem first_eq:Rows.laid_unicode_utf8_first=Lib.firstData:=Pinned.utf8First_eq
theorem accept_eq:(Rows.laid_unicode_utf8_acceptRanges:DataW Unit)=Lib.acceptData:=by kernel_rfl
set_option maxRecDepth 100000 in
theorem laid_tabs {W:World} (hL:laidMetH Tryz.prog Rows.matchThenRow.laid W):Tabs W:=by
  have hL':laidMet Tryz.prog Rows.matchThenRow.laid W:=hL
  have h1:=Lib.laidMet.reads hL' (.head _)
  have h2:=Lib.laidMet.reads hL' (.tail _ (.head _))
  rw [accept_eq] at h1
  rw [first_eq] at h2
  exact utf8Tabs_of_readsT (U8Types.of196 Tryz.laysValid) ⟨by kernel_rfl,by kernel_rfl,by kernel_rfl,by kernel_rfl,by kernel_rfl,by kernel_rfl,by kernel_rfl⟩ h2 h1
theorem opens3:Opens Tryz.prog 3 Int:=⟨fun h _=>by
  obtain⟨z,rfl,_⟩:=DataW.trod_int Tryz.underlying3 h
  exact⟨z,rfl⟩⟩
theorem name_bound {s:ByteArray} (h:s.size≤maxLen):s.data.toList.length≤9223372036854775807:=by
  have h1:s.data.toList.length=s.size:=rfl
  unfold maxLen at h
  omega
structure TierB where
  t:Tier
  h:t.name.length≤9223372036854775807
instance:Rep TierB where
  sz:=4
  pos:=by decide
  at_ _ _ b cs:=cs=tierC b.t
  len h:=by rw [h];rfl
  one h:=by rw [h];rfl
  move h _:=h
theorem ats_tierB {G:Nat→Prop} {w:World}:∀ {xs:List TierB} {css:List (List Value)},AtsG G w xs css→AtsG G w (xs.map (·.t)) css
  | [],[],_=>trivial
  | [],_::_,h=>h.elim
  | _::_,[],h=>h.elim
  | _::_,_::_,h=>⟨h.1,ats_tierB h.2⟩
theorem sl_tierB {G:Nat→Prop} {w:World} {v:Value} {xs:List TierB} (h:SlG G w v xs):SlG G w v (xs.map (·.t)):=by
  obtain⟨a,cap,hv,hc,hm,hp⟩:=h
  refine⟨a,cap,by rw [List.length_map];exact hv,by rw [List.length_map];exact hc,by rw [List.length_map];exact hm,fun h0=>?_⟩
  obtain⟨b,off,ha,hg,css,h1,h2⟩:=hp (by simpa using h0)
  exact⟨b,off,ha,hg,css,ats_tierB h1,h2⟩
set_option maxRecDepth 100000 in
theorem opens70:Opens Tryz.prog 70 TierB:=⟨fun {H enc w sp held fuel cs x} h hbd=>by
  obtain⟨fs,hu,hfs⟩:∃ fs,Tryz.prog.underlying 70=some (.struct fs)∧(fs.toList.map fun f=>(f.type,f.offset))=[(9,0),(3,1),(3,2),(3,3)]:=⟨_,Tryz.underlying70,by kernel_rfl⟩
  obtain⟨hl,hf⟩:=open_struct hu hfs h hbd
  rw [show Tryz.prog.cellsOf 70=4 by kernel_rfl] at hl
  match cs,hl with
  | [a,b,c,d],_=>
    obtain⟨y0,n0,h0,_⟩:=hf 0 9 0 rfl
    obtain⟨y1,n1,h1,_⟩:=hf 1 3 1 rfl
    obtain⟨y2,n2,h2,_⟩:=hf 2 3 2 rfl
    obtain⟨y3,n3,h3,_⟩:=hf 3 3 3 rfl
    rw [show Tryz.prog.cellsOf 3=1 by kernel_rfl] at h1 h2 h3
    rw [show Tryz.prog.cellsOf 9=1 by kernel_rfl] at h0
    obtain⟨s,e0,_,hs⟩:=DataW.trod_string Tryz.underlying9 h0
    obtain⟨z,e1,_⟩:=DataW.trod_int Tryz.underlying3 h1
    obtain⟨y,e2,_⟩:=DataW.trod_int Tryz.underlying3 h2
    obtain⟨k,e3,_⟩:=DataW.trod_int Tryz.underlying3 h3
    simp at e0 e1 e2 e3
    subst e0 e1 e2 e3
    have hb:=name_bound hs
    exact⟨⟨⟨s.data.toList,z,y,k⟩,hb⟩,by rw [str_of];rfl⟩⟩
set_option maxRecDepth 100000 in
theorem opens74:Opens Tryz.prog 74 Note:=⟨fun {H enc w sp held fuel cs x} h hbd=>by
  obtain⟨fs,hu,hfs⟩:∃ fs,Tryz.prog.underlying 74=some (.struct fs)∧(fs.toList.map fun f=>(f.type,f.offset))=[(3,0),(3,1),(3,2),(72,3),(3,5),(9,6)]:=⟨_,Tryz.underlying74,by kernel_rfl⟩
  obtain⟨gs,gu,gfs⟩:∃ fs,Tryz.prog.underlying 72=some (.struct fs)∧(fs.toList.map fun f=>(f.type,f.offset))=[(3,0),(3,1)]:=⟨_,Tryz.underlying72,by kernel_rfl⟩
  obtain⟨hl,hf⟩:=open_struct hu hfs h hbd
  rw [show Tryz.prog.cellsOf 74=7 by kernel_rfl] at hl
  match cs,hl with
  | [a,b,c,d,e,f,g],_=>
    obtain⟨y0,n0,h0,_⟩:=hf 0 3 0 rfl
    obtain⟨y1,n1,h1,_⟩:=hf 1 3 1 rfl
    obtain⟨y2,n2,h2,_⟩:=hf 2 3 2 rfl
    obtain⟨y3,n3,h3,hb3⟩:=hf 3 72 3 rfl
    obtain⟨y5,n5,h5,_⟩:=hf 4 3 5 rfl
    obtain⟨y6,n6,h6,_⟩:=hf 5 9 6 rfl
    rw [show Tryz.prog.cellsOf 3=1 by kernel_rfl] at h0 h1 h2 h5
    rw [show Tryz.prog.cellsOf 9=1 by kernel_rfl] at h6
    rw [show Tryz.prog.cellsOf 72=2 by kernel_rfl] at h3
    obtain⟨_,gf⟩:=open_struct gu gfs h3 hb3
    obtain⟨u0,m0,k0,_⟩:=gf 0 3 0 rfl
    obtain⟨u1,m1,k1,_⟩:=gf 1 3 1 rfl
    rw [show Tryz.prog.cellsOf 3=1 by kernel_rfl] at k0 k1
    obtain⟨z0,e0,_⟩:=DataW.trod_int Tryz.underlying3 h0
    obtain⟨z1,e1,_⟩:=DataW.trod_int Tryz.underlying3 h1
    obtain⟨z2,e2,_⟩:=DataW.trod_int Tryz.underlying3 h2
    obtain⟨z3,e3,_⟩:=DataW.trod_int Tryz.underlying3 k0
    obtain⟨z4,e4,_⟩:=DataW.trod_int Tryz.underlying3 k1
    obtain⟨z5,e5,_⟩:=DataW.trod_int Tryz.underlying3 h5
    obtain⟨s,e6,_⟩:=DataW.trod_string Tryz.underlying9 h6
    simp at e0 e1 e2 e3 e4 e5 e6
    subst e0 e1 e2 e3 e4 e5 e6
    exact⟨⟨z0,z1,z2,z3,z4,z5,s.data.toList⟩,by rw [str_of];rfl⟩⟩
set_option maxRecDepth 100000 in
theorem opens36:Opens Tryz.prog 36 Qy:=by
  obtain⟨fs,hu,hfs⟩:∃ fs,Tryz.prog.underlying 36=some (.struct fs)∧(fs.toList.map fun f=>(f.type,f.offset))=[(3,0),(3,1),(9,2),(34,3)]:=⟨_,Tryz.underlying36,by kernel_rfl⟩
  exact opens_qy hu hfs Tryz.underlying3 Tryz.underlying9 Tryz.underlying34 (by kernel_rfl) (by kernel_rfl) (by kernel_rfl) (by kernel_rfl) (of_decide_eq_true (by kernel_rfl))
set_option maxRecDepth 100000 in
theorem open_q {H:Type} {enc:TypeId × Value→H} {W:World} {base:Nat} {v:Value} {d:DataW H} {ps:List MemPlace} {sp:Nat→Bool} {held:Bool} (hval:Value.okWide Tryz.prog W .any base 36 v) (h:DataW.Trod enc Tryz.prog W 0 sp held 36 v d ps) (hbd:Bd Tryz.prog 36 d) :
    ∃ q:Qy,QAt W v q:=by
  obtain⟨fs,hu,hfs⟩:∃ fs,Tryz.prog.underlying 36=some (.struct fs)∧(fs.toList.map fun f=>(f.type,f.offset))=[(3,0),(3,1),(9,2),(34,3)]:=⟨_,Tryz.underlying36,by kernel_rfl⟩
  obtain⟨cs,rfl,hcs⟩:=okWide_struct hu hval
  obtain⟨fuel,h⟩:=h
  obtain⟨q,hq⟩:=opens36.op h hbd
  obtain⟨kv,e,hk⟩:=qy_cells hq
  refine⟨q,kv,?_,hk⟩
  obtain⟨l⟩:=cs
  have e':l=[int q.op,int q.role,str q.text,kv]:=e
  rw [e']
end Go.Proofs.YtnifmbbpfdghmaaGreatDoor
namespace Go.Proofs.YtnifmbbpfdghmaaGreatDoor
open Go.Shelf Go.ChangeShapes Go.WideShapes Go.ChangeAt Go.RowKit Go.Lib Go.En
open Go.ChangeMaps (open_string shut_string)
theorem u8_wf {z:Int} (h:(Lit.int .u8 z).wf=true):0≤z∧z≤255:=by
  unfold Lit.wf at h
  rw [Bool.and_eq_true,decide_eq_true_eq,decide_eq_true_eq,kmin,kmax] at h
  exact h
structure DcB where
  d:Dc
  h:Names d
instance:Rep DcB where
  sz:=7
  pos:=by decide
  at_ G w x cs:=Rep.at_ G w x.d cs
  len h:=Rep.len h
  one h:=Rep.one h
  move h hm:=Rep.move h hm
theorem ats_dcB {G:Nat→Prop} {w:World}:∀ {xs:List DcB} {css:List (List Value)},AtsG G w xs css→AtsG G w (xs.map (·.d)) css
  | [],[],_=>trivial
  | [],_::_,h=>h.elim
  | _::_,[],h=>h.elim
  | _::_,_::_,h=>⟨h.1,ats_dcB h.2⟩
theorem sl_dcB {G:Nat→Prop} {w:World} {v:Value} {xs:List DcB} (h:SlG G w v xs):SlG G w v (xs.map (·.d)):=by
  obtain⟨a,cap,hv,hc,hm,hp⟩:=h
  refine⟨a,cap,by rw [List.length_map];exact hv,by rw [List.length_map];exact hc,by rw [List.length_map];exact hm,fun h0=>?_⟩
  obtain⟨b,off,ha,hg,css,h1,h2⟩:=hp (by simpa using h0)
  exact⟨b,off,ha,hg,css,ats_dcB h1,h2⟩
set_option maxRecDepth 100000 in
theorem opens28:Opens Tryz.prog 28 DcB:=⟨fun {H enc w sp held fuel cs x} h hbd=>by
  obtain⟨fs,hu,hfs⟩:∃ fs,Tryz.prog.underlying 28=some (.struct fs)∧(fs.toList.map fun f=>(f.type,f.offset))=[(24,0),(25,5),(26,6)]:=⟨_,Tryz.underlying28,by kernel_rfl⟩
  obtain⟨gs,gu,gfs⟩:∃ fs,Tryz.prog.underlying 24=some (.struct fs)∧(fs.toList.map fun f=>(f.type,f.offset))=[(3,0),(9,1),(3,2),(3,3),(22,4)]:=⟨_,Tryz.underlying24,by kernel_rfl⟩
  obtain⟨hl,hf⟩:=open_struct hu hfs h hbd
  rw [show Tryz.prog.cellsOf 28=7 by kernel_rfl] at hl
  match cs,hl with
  | [a,b,c,d',e,f,g],_=>
    obtain⟨y0,n0,h0,hb0⟩:=hf 0 24 0 rfl
    obtain⟨y1,n1,h1,hb1⟩:=hf 1 25 5 rfl
    obtain⟨y2,n2,h2,hb2⟩:=hf 2 26 6 rfl
    rw [show Tryz.prog.cellsOf 24=5 by kernel_rfl] at h0
    rw [show Tryz.prog.cellsOf 25=1 by kernel_rfl] at h1
    rw [show Tryz.prog.cellsOf 26=1 by kernel_rfl] at h2
    obtain⟨_,gf⟩:=open_struct gu gfs h0 hb0
    obtain⟨u0,m0,k0,_⟩:=gf 0 3 0 rfl
    obtain⟨u1,m1,k1,_⟩:=gf 1 9 1 rfl
    obtain⟨u2,m2,k2,_⟩:=gf 2 3 2 rfl
    obtain⟨u3,m3,k3,_⟩:=gf 3 3 3 rfl
    obtain⟨u4,m4,k4,kb4⟩:=gf 4 22 4 rfl
    rw [show Tryz.prog.cellsOf 3=1 by kernel_rfl] at k0 k2 k3
    rw [show Tryz.prog.cellsOf 9=1 by kernel_rfl] at k1
    rw [show Tryz.prog.cellsOf 22=1 by kernel_rfl] at k4
    obtain⟨z0,e0,_⟩:=DataW.trod_int Tryz.underlying3 k0
    obtain⟨s,e1,_⟩:=DataW.trod_string Tryz.underlying9 k1
    obtain⟨z2,e2,_⟩:=DataW.trod_int Tryz.underlying3 k2
    obtain⟨z3,e3,_⟩:=DataW.trod_int Tryz.underlying3 k3
    haveI:=opens3
    haveI:=opens70
    haveI:=opens74
    obtain⟨v4,e4,ids,hids⟩:=open_sl (α:=Int) Tryz.underlying22 (by kernel_rfl) (by decide) (of_decide_eq_true (by kernel_rfl)) k4 kb4
    obtain⟨v5,e5,ts,hts⟩:=open_sl (α:=TierB) Tryz.underlying25 (by kernel_rfl) (by decide) (of_decide_eq_true (by kernel_rfl)) h1 hb1
    obtain⟨v6,e6,ns,hns⟩:=open_sl (α:=Note) Tryz.underlying26 (by kernel_rfl) (by decide) (of_decide_eq_true (by kernel_rfl)) h2 hb2
    simp [Value.cells] at e0 e1 e2 e3 e4 e5 e6
    subst e0 e1 e2 e3 e4 e5 e6
    exact⟨⟨⟨z0,s.data.toList,z2,z3,ids,ts.map (·.t),ns⟩,fun t ht=>by obtain⟨b,_,rfl⟩:=List.mem_map.1 ht;exact b.h⟩,_,_,_,by rw [← str_of],hids,sl_tierB hts,hns⟩⟩
set_option maxRecDepth 100000 in
theorem open_docs {H:Type} {enc:TypeId × Value→H} {W:World} {base:Nat} {v:Value} {d:DataW H} {ps:List MemPlace} {sp:Nat→Bool} {held:Bool} (hval:Value.okWide Tryz.prog W .any base 59 v) (h:DataW.Trod enc Tryz.prog W 0 sp held 59 v d ps) (hbd:Bd Tryz.prog 59 d) :
    ∃ l:List Dc,Sl W v l∧∀ d∈l,Names d:=by
  haveI:=opens28
  obtain⟨v',e,l,hl⟩:=open_slT (α:=DcB) Tryz.underlying59 (by kernel_rfl) (by decide) (of_decide_eq_true (by kernel_rfl)) h hbd
  obtain⟨a,n,c,rfl⟩:=okWide_slice Tryz.underlying59 hval
  simp [Value.cells] at e
  subst e
  exact⟨l.map (·.d),sl_dcB hl,fun d hd=>by obtain⟨b,_,rfl⟩:=List.mem_map.1 hd;exact b.h⟩
end Go.Proofs.YtnifmbbpfdghmaaGreatDoor
