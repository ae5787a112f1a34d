/- Own text. -/
import Derived.Test.YtojadfppncgphaaGreatDoorQV5
import Derived.Test.YtojadfppncgphaaGreatDoorQYl
import Derived.Lib.LaidIn
import Derived.Deep.DeepHandedRow
import Derived.ProofKit
import Derived.OpenShut
import Derived.Test.YtojadfppncgphaaGreatDoorCards
set_option linter.all false
set_option maxHeartbeats 16000000
namespace Go.Proofs.YtojadfppncgphaaGreatDoor
section
open Go.ChangeShapes Go.WideShapes Go.ChangeAt Go.RowKit Go.Lib Go.En Go.Dl Go.Tp
abbrev Hb (w:World):Nat→Prop:=fun b=>b<w.heap.size
theorem B1s {G:Nat→Prop}{w:World}{b sz:Nat}:∀(A B:List (List Dt)) (off:Nat),DR.rowsR G w b sz off A→DR.rowsR G w b sz (off+A.length*sz) B→DR.rowsR G w b sz off (A++B)
 | [],B,off,_,h=>by simpa using h
 | r::rs,B,off,h,k=>by
  rw [DR.rowsR] at h
  rw [List.cons_append,DR.rowsR]
  refine⟨h.1,B1s rs B _ h.2 ?_⟩
  rw [List.length_cons,Nat.add_mul,Nat.one_mul] at k
  rwa [show off+sz+rs.length*sz=off+(rs.length*sz+sz) by omega]
theorem A6r {G:Nat→Prop}{w:World}{b:Nat}:∀ {xs:List Dt} {cs:List Value} {off:Nat},DR.valsR G w true xs cs→At w b off cs→DR.cellsR G w b off xs
 | [],_,off,_,_=>by rw [DR.cellsR];trivial
 | x::r,cs,off,h,k=>by
  rw [DR.valsR] at h
  obtain⟨u,us,rfl,h1,h2,h3⟩:=h
  rw [DR.cellsR]
  refine⟨⟨u,by have:=k 0 u rfl;simpa using this,h1 rfl,h2⟩,A6r h3 fun j v hv=>?_⟩
  have:=k (j+1) v (by simpa using hv)
  rwa [show off+(j+1)=off+1+j by omega] at this
theorem C9m {α:Type}{H:Type}{enc:TypeId × Value→H}{P:Program}{w:World}{sp:Nat→Bool}{held:Bool}{fuel:Nat}{t e:TypeId}{cs:List Value}{x:DataW H × List MemPlace}(C:α→List Dt)(sz:Nat)(M:α→DataW H→Prop)
  (hO:∀(n:Nat) (cs:List Value) (x:DataW H × List MemPlace),fuel=n+1→DataW.trod enc P w 0 sp held n e cs=some x→Bd P e x.1→∃ a:α,DR.valsR (Hb w) w true (C a) cs∧M a x.1) (hC:∀ a,(C a).length=sz) (ht:P.underlying t=some (.slice e)) (hc:P.cellsOf e=sz) (hz:0<sz) (hb:1≤P.bytesOf e) (h:DataW.trod enc P w 0 sp held fuel t cs=some x) (hbd:Bd P t x.1) :
  ∃ v,cs=[v]∧∃ xs:List α,DR (Hb w) w (.s sz (xs.map C)) v∧v.oneCell'=true∧(xs=[]∨∃ elems spare,x.1=.slice elems spare∧xs.length=elems.length∧∀(i:Nat) (a:α),xs[i]?=some a→∃ d,elems[i]?=some d∧M a d):=by
 rcases DataW.trod_slice ht h with⟨rfl,_⟩|⟨a,len,cap,elems,rest,n,hfu,rfl,rfl,_,hl,_,hlen,hel,_⟩
 ·exact⟨_,rfl,[],by rw [DR];exact⟨none,0,rfl,Nat.le_refl _,Nat.zero_le _,fun h=>absurd h (by simp)⟩,rfl,.inl rfl⟩
 refine⟨_,rfl,?_⟩
 simp only [Bd,DataW.weights,ht,List.all_cons,List.all_append,Bool.and_eq_true,decide_eq_true_eq,List.length_map] at hbd
 obtain⟨hw1,hw2,_⟩:=hbd
 have hlm:len≤140737488355328:=by
  have h1:=reachBytes_lt
  have h2:elems.length*1≤(elems.length+rest.length)*P.bytesOf e:=Nat.mul_le_mul (by omega) hb
  omega
 have key:∀ i,i<len→∃ c x y,w.cells? 0 (a.add (i*P.cellsOf e)) (P.cellsOf e)=some c∧DR.valsR (Hb w) w true (C x) c∧elems[i]?=some y∧M x y.1:=fun i hi=>by
  have h1:=hel i hi
  obtain⟨y,hy⟩:∃ y,elems[i]?=some y:=⟨_,List.getElem?_eq_getElem (by omega)⟩
  rw [hy,Option.bind_eq_some_iff] at h1
  obtain⟨c,hc1,hc2⟩:=h1
  obtain⟨x,hx,hm⟩:=hO n _ _ hfu hc2 (A0m hw2 y.1 (List.mem_map.2 ⟨y,List.mem_of_getElem? hy,rfl⟩))
  exact⟨c,x,y,hc1,hx,hy,hm⟩
 by_cases h0:len=0
 ·subst h0
  exact⟨[],by rw [DR];exact⟨some a,cap,rfl,Nat.zero_le _,Nat.zero_le _,fun h=>absurd h (by simp)⟩,rfl,.inl rfl⟩
 have hsp:a=⟨a.block,a.off,none⟩∧a.block<w.heap.size:=by
  obtain⟨c,x,_,hc1,_⟩:=key 0 (by omega)
  unfold World.cells? at hc1
  rw [if_pos (Nat.zero_le _)] at hc1
  have hlc:=mapM_some_length hc1
  rw [List.length_range,hc] at hlc
  obtain⟨v,hv⟩:∃ v,c[0]?=some v:=⟨_,List.getElem?_eq_getElem (by omega)⟩
  have:=mapM_some_get hc1 0 0 (List.getElem?_range (by omega))
  rw [hv] at this
  simp only [Nat.zero_mul,show ∀ a:Addr,a.add 0=a from fun a=>by simp [Addr.add]] at this
  refine⟨Go.En.cell_spot this,?_⟩
  rw [Go.En.cell_spot this] at this
  rcases Nat.lt_or_ge a.block w.heap.size with h|h
  ·exact h
  ·exfalso
   have hn:w.heap[a.block]?=none:=Array.getElem?_eq_none h
   simp [World.cell?,hn] at this
 have all:∀ k,k≤len→∃ xs:List α,xs.length=k∧DR.rowsR (Hb w) w a.block sz a.off (xs.map C)∧∀(i:Nat) (x:α),xs[i]?=some x→∃ y,elems[i]?=some y∧M x y.1:=by
  intro k
  induction k with
  | zero=>exact fun _=>⟨[],rfl,by rw [List.map_nil,DR.rowsR];trivial,fun i x hx=>by simp at hx⟩
  | succ k ih=>
   intro hk
   obtain⟨xs,h1,h2,h5⟩:=ih (by omega)
   obtain⟨c,x,y,hc1,hx,hy,hm⟩:=key k (by omega)
   rw [hsp.1,D6] at hc1
   obtain⟨_,h4⟩:=cells_at hc1
   refine⟨xs++[x],by simp [h1],?_,fun i z hz=>?_⟩
   ·rw [List.map_append]
    refine B1s _ _ _ h2 ?_
    rw [List.length_map,h1,← hc,List.map_singleton,DR.rowsR,DR.rowsR]
    exact⟨⟨by rw [hC,hc],A6r hx h4⟩,trivial⟩
   ·by_cases hi:i<k
    ·rw [List.getElem?_append_left (by omega)] at hz
     exact h5 i z hz
    ·have:=(List.getElem?_eq_some_iff.1 hz).1
     simp at this
     obtain rfl:i=k:=by omega
     rw [List.getElem?_append_right (by omega),h1,Nat.sub_self] at hz
     simp at hz
     subst hz
     exact⟨y,hy,hm⟩
 obtain⟨xs,h1,h3,h5⟩:=all len (Nat.le_refl _)
 refine⟨xs,?_,rfl,.inr ⟨_,_,rfl,by rw [List.length_map,h1,hlen],fun i z hz=>?_⟩⟩
 ·rw [DR]
  exact⟨some a,cap,by rw [List.length_map,h1],by rw [List.length_map];omega,by rw [List.length_map];omega,fun _=>⟨a.block,a.off,by rw [← hsp.1],hsp.2,h3⟩⟩
 obtain⟨y,hy,hm⟩:=h5 i z hz
 exact⟨y.1,by rw [List.getElem?_map,hy];rfl,hm⟩
end
end Go.Proofs.YtojadfppncgphaaGreatDoor
namespace Go.En
open Go.RowKit
theorem B6b {H:Type}{P:Program}{ts:List TypeId}{ds:List (DataW H)}(h:(DataW.weightsEach P ts ds).all (·≤reachBytes)=true){j:Nat}{t:TypeId}{d:DataW H}(ht:ts[j]?=some t)(hd:ds[j]?=some d):Bd P t d:=
 List.all_eq_true.2 fun n hn=>List.all_eq_true.1 h n (DataW.weights_mem_each ht hd n hn)
theorem G3c (s:ByteArray):Value.string s=str s.data.toList:=by cases s;simp [str]
end Go.En
namespace Go.Proofs.YtojadfppncgphaaGreatDoor
section
open Go.ChangeShapes Go.WideShapes Go.ChangeAt Go.RowKit Go.Lib Go.En Go.Dl Go.Tp
theorem D3c {H:Type}(d:DataW H):1≤Rows.uptoBulk d:=by
 cases d with
 | lit l=>cases l <;>(unfold Rows.uptoBulk;omega)
 | _=>unfold Rows.uptoBulk;omega
theorem B0c {H:Type}{d:DataW H}:∀ {ds:List (DataW H)},d∈ds→Rows.uptoBulk d≤Rows.uptoBulkAll ds
 | [],h=>by cases h
 | e :: r, h => by
  unfold Rows.uptoBulkAll
  rcases List.mem_cons.1 h with rfl|h
  ·omega
  ·have:=B0c h
   omega
theorem B8k {H:Type}:∀(ds:List (DataW H)),ds.length≤Rows.uptoBulkAll ds
 | []=>Nat.zero_le _
 | d::r=>by
  unfold Rows.uptoBulkAll
  have:=B8k r
  have:=D3c d
  rw [List.length_cons];omega
theorem D3b {H:Type}{x:DataW H × List MemPlace}{s:ByteArray}{k:Nat}(h:x=(.lit (.string s.data.toList),[]))(hk:Rows.uptoBulk x.1≤k):s.data.toList.length≤k:=by
 subst h
 simp only [Rows.uptoBulk] at hk
 omega
class Bdd (α:Type) where
 B:Nat→α→Prop
 mono:∀ {k k':Nat} {a:α},k≤k'→B k a→B k' a
instance:Bdd Int:=⟨fun _ _=>True,fun _ _=>trivial⟩
structure OpD (P:Program)(t:TypeId){α:Type}(C:α→List Dt)(B:Nat→α→Prop):Prop where
 o:∀ {H:Type} {enc:TypeId × Value→H} {w:World} {sp:Nat→Bool} {held:Bool} {fuel:Nat} {cs:List Value} {x:DataW H × List MemPlace},DataW.trod enc P w 0 sp held fuel t cs=some x→Bd P t x.1→∃ a:α,DR.valsR (Hb w) w true (C a) cs∧B (Rows.uptoBulk x.1) a
theorem B5f {H:Type}{enc:TypeId × Value→H}{P:Program}{w:World}{sp:Nat→Bool}{held:Bool}{fuel:Nat}{t:TypeId}{fs:Array Field}{tos:List (TypeId × Nat)}{cs:List Value}{x:DataW H × List MemPlace}
  (hu:P.underlying t=some (.struct fs)) (hfs:(fs.toList.map fun f=>(f.type,f.offset))=tos) (h:DataW.trod enc P w 0 sp held fuel t cs=some x) (hbd:Bd P t x.1) :
  cs.length=P.cellsOf t∧∀(i:Nat) (ty off:Nat),tos[i]?=some (ty,off)→∃ y n,DataW.trod enc P w 0 sp held n ty ((cs.drop off).take (P.cellsOf ty))=some y∧Bd P ty y.1∧Rows.uptoBulk y.1≤Rows.uptoBulk x.1:=by
 obtain⟨xs,n,_,rfl,hl,hlen,hf⟩:=DataW.trod_struct hu h
 refine⟨hl,fun i ty off hi=>?_⟩
 subst hfs
 rw [List.getElem?_map,Array.getElem?_toList] at hi
 cases hfi:fs[i]? with
 | none=>rw [hfi] at hi;cases hi
 | some f=>
  rw [hfi] at hi
  simp only [Option.map_some,Option.some.injEq,Prod.mk.injEq] at hi
  obtain⟨rfl,rfl⟩:=hi
  have hlt:=(Array.getElem?_eq_some_iff.1 hfi).1
  obtain⟨y,hy⟩:∃ y,xs[i]?=some y:=⟨_,List.getElem?_eq_getElem (by omega)⟩
  refine⟨y,n,by rw [hf i f hfi,hy],?_,?_⟩
  ·simp only [Bd,DataW.weights,hu] at hbd
   exact B6b hbd (j:=i) (by rw [List.getElem?_map,Array.getElem?_toList,hfi];rfl) (by rw [List.getElem?_map,hy];rfl)
  ·have:=B0c (List.mem_map.2 ⟨y,List.mem_of_getElem? hy,rfl⟩:y.1∈xs.map (·.1))
   simp only [Rows.uptoBulk]
   omega
end
section
open Go.ChangeShapes Go.WideShapes Go.ChangeAt Go.RowKit Go.Lib Go.En Go.Dl Go.Tp
theorem C7w {G:Nat→Prop}{w:World}{v:Value}(h:v.oneCell'=true):DR.valsR G w true [.v v] [v]:=by
 rw [DR.valsR]
 exact⟨v,[],rfl,fun _=>h,by rw [DR],by rw [DR.valsR]⟩
theorem opI:OpD Tryz.prog 3 (fun i:Int=>[dI i]) (fun _ _=>True):=⟨fun h _=>by
 obtain⟨z,rfl,_⟩:=DataW.trod_int Tryz.underlying3 h
 exact⟨z,C7w Z,trivial⟩⟩
theorem opS:OpD Tryz.prog 9 (fun s:Tx=>[dS s]) (fun k s=>s.length≤k):=⟨fun h _=>by
 obtain⟨s,rfl,d,_⟩:=DataW.trod_string Tryz.underlying9 h
 refine⟨s.data.toList,?_,D3b d (Nat.le_refl _)⟩
 rw [G3c]
 exact C7w Z⟩
theorem opB:OpD Tryz.prog 4 (fun b:Bool=>[dB b]) (fun _ _=>True):=⟨fun h _=>by
 obtain⟨z,rfl,_⟩:=DataW.trod_bool Tryz.underlying4 h
 exact⟨z,C7w Z,trivial⟩⟩
theorem B1c {G:Nat→Prop}{w:World}:∀ {xs ys:List Dt} {a b:List Value},DR.valsR G w true xs a→DR.valsR G w true ys b→DR.valsR G w true (xs++ys) (a++b)
 | [],ys,a,b,h,k=>by rw [DR.valsR] at h;subst h;exact k
 | x::r,ys,a,b,h,k=>by
  rw [DR.valsR] at h
  obtain⟨u,us,rfl,h1,h2,h3⟩:=h
  rw [List.cons_append,List.cons_append,DR.valsR]
  exact⟨u,us++b,rfl,h1,h2,B1c h3 k⟩
theorem fld {G:Nat→Prop}{w:World}{xs ys:List Dt}{cs:List Value}{o s o':Nat}(h:DR.valsR G w true xs ((cs.drop o).take s))(ho:o'=o+s)(k:DR.valsR G w true ys (cs.drop o')):DR.valsR G w true (xs++ys) (cs.drop o):=by
 subst ho
 have:=B1c h k
 rwa [← List.drop_drop,List.take_append_drop] at this
theorem fld0 {G:Nat→Prop}{w:World}{cs:List Value}{o:Nat}(h:cs.length≤o):DR.valsR G w true [] (cs.drop o):=by
 rw [List.drop_eq_nil_of_le h,DR.valsR]
end
section
open Go.ChangeShapes Go.WideShapes Go.ChangeAt Go.RowKit Go.Lib Go.En Go.Dl Go.Tp
abbrev bLs {α:Type}(B:Nat→α→Prop)(k:Nat)(l:List α):Prop:=l.length≤k∧(∀ a∈l,B k a)∧∀ f:α→Nat,(∀ k a,B k a→f a≤k)→(l.map f).sum≤k
theorem B7f {α:Type}{H:Type}{B:Nat→α→Prop}{f:α→Nat}(hf:∀ k a,B k a→f a≤k):∀(xs:List α) (ds:List (DataW H)),xs.length=ds.length→(∀(i:Nat) (a:α),xs[i]?=some a→∃ d,ds[i]?=some d∧B (Rows.uptoBulk d) a)→(xs.map f).sum≤Rows.uptoBulkAll ds
 | [],_,_,_=>Nat.zero_le _
 | x::r,[],h,_=>by simp at h
 | x::r,d::ds,h,k=>by
  obtain⟨d',h1,h2⟩:=k 0 x rfl
  cases h1
  have h3:=B7f hf r ds (by simpa using h) fun i a hi=>by simpa using k (i+1) a (by simpa using hi)
  have h4:=hf _ _ h2
  unfold Rows.uptoBulkAll
  rw [List.map_cons,List.sum_cons]
  omega
structure OpE (P:Program)(t:TypeId){α:Type}(C:α→List Dt)(B:Nat→α→Prop):Prop extends OpD P t C B where
 m:∀ {k k':Nat} {a:α},k≤k'→B k a→B k' a
theorem oL {α:Type}{P:Program}{t e:TypeId}{C:α→List Dt}{B:Nat→α→Prop}(hO:OpE P e C B)(sz:Nat)(ht:P.underlying t=some (.slice e))(hC:∀ a,(C a).length=sz:=by exact fun _=>rfl)(hc:P.cellsOf e=sz:=by kernel_rfl)(hz:0<sz:=by decide)(hb:1≤P.bytesOf e:=by exact of_decide_eq_true (by kernel_rfl)) :
  OpE P t (fun l:List α=>[.s sz (l.map C)]) (bLs B):=⟨⟨fun h hbd=>by
 obtain⟨v,e1,xs,h1,ho,h2⟩:=C9m C sz (fun a d=>B (Rows.uptoBulk d) a) (fun n c y _ hy hby=>hO.o hy hby) hC ht hc hz hb h hbd
 refine⟨xs,by subst e1;rw [DR.valsR];exact⟨v,[],rfl,fun _=>ho,h1,by rw [DR.valsR]⟩,?_⟩
 rcases h2 with rfl|⟨elems,spare,e2,hl,hm⟩
 ·exact⟨Nat.zero_le _,⟨fun _ h=>(by cases h),fun _ _=>Nat.zero_le _⟩⟩
 ·rw [e2]
  have h3:=B8k elems
  refine⟨by unfold Rows.uptoBulk;omega,fun a ha=>?_,fun f hf=>?_⟩
  ·obtain⟨i,hi⟩:=List.getElem?_of_mem ha
   obtain⟨d,hd,hB⟩:=hm i a hi
   refine hO.m ?_ hB
   have:=B0c (List.mem_of_getElem? hd)
   simp only [Rows.uptoBulk]
   omega
  ·have:=B7f hf xs elems hl hm
   simp only [Rows.uptoBulk]
   omega⟩,fun h b=>⟨Nat.le_trans b.1 h,fun a ha=>hO.m h (b.2.1 a ha),fun f hf=>Nat.le_trans (b.2.2 f hf) h⟩⟩
structure OpT (P:Program)(tos:List (TypeId × Nat))(o e:Nat){α:Type}(C:α→List Dt)(B:Nat→α→Prop):Prop where
 o:∀ {H:Type} {enc:TypeId × Value→H} {w:World} {sp:Nat→Bool} {held:Bool} {cs:List Value} {k:Nat},cs.length=e→(∀(i:Nat) (ty off:Nat),tos[i]?=some (ty,off)→∃(y:DataW H × List MemPlace) (n:Nat),DataW.trod enc P w 0 sp held n ty ((cs.drop off).take (P.cellsOf ty))=some y∧Bd P ty y.1∧Rows.uptoBulk y.1≤k)→∃ a:α,DR.valsR (Hb w) w true (C a) (cs.drop o)∧B k a
 m:∀ {k k':Nat} {a:α},k≤k'→B k a→B k' a
theorem oN {P:Program}{e:Nat}:OpT P [] e e (fun _:Unit=>[]) (fun _ _=>True):=⟨fun h _=>⟨(),fld0 (Nat.le_of_eq h),trivial⟩,fun _ _=>trivial⟩
theorem oC {α β:Type}{P:Program}{ty o e:Nat}{tos:List (TypeId × Nat)}{C1:α→List Dt}{B1:Nat→α→Prop}{C2:β→List Dt}{B2:Nat→β→Prop}(h1:OpE P ty C1 B1)(s:Nat)(h2:OpT P tos (o+s) e C2 B2)(hs:P.cellsOf ty=s:=by kernel_rfl) :
  OpT P ((ty,o)::tos) o e (fun a:α × β=>C1 a.1++C2 a.2) (fun k a=>B1 k a.1∧B2 k a.2):=⟨fun hl hf=>by
 obtain⟨y,n,g1,g2,g3⟩:=hf 0 ty o rfl
 obtain⟨a,r,m⟩:=h1.o g1 g2
 obtain⟨b,r2,m2⟩:=h2.o hl fun i ty off hi=>hf (i+1) ty off hi
 rw [hs] at r
 exact⟨(a,b),fld r rfl r2,h1.m g3 m,m2⟩,fun h b=>⟨h1.m h b.1,h2.m h b.2⟩⟩
theorem oS {α β:Type}{P:Program}{t e:Nat}{fs:Array Field}{tos:List (TypeId × Nat)}{C:α→List Dt}{B:Nat→α→Prop}{C':β→List Dt}{B':Nat→β→Prop}(hT:OpT P tos 0 e C B)(hu:P.underlying t=some (.struct fs))
  (f:α→β) (g:β→α) (hfs:(fs.toList.map fun f=>(f.type,f.offset))=tos:=by kernel_rfl) (he:P.cellsOf t=e:=by kernel_rfl) (hC:∀ a,C' (f a)=C a:=by exact fun _=>rfl) (h1:∀ k a,B k a→B' k (f a):=by exact fun _ _ h=>h) (h2:∀ k b,B' k b→B k (g b):=by exact fun _ _ h=>h) (h3:∀ b,f (g b)=b:=by exact fun _=>rfl):OpE P t C' B':=⟨⟨fun h hbd=>by
 obtain⟨hl,hf⟩:=B5f hu hfs h hbd
 obtain⟨a,r,m⟩:=hT.o (hl.trans he) hf
 exact⟨f a,by rw [hC];exact r,h1 _ _ m⟩⟩,fun hk hb=>by
  have:=h1 _ _ (hT.m hk (h2 _ _ hb))
  rwa [h3] at this⟩
def bI (_:Nat)(_:Int):Prop:=True
def bB (_:Nat)(_:Bool):Prop:=True
def bS (k:Nat)(s:Tx):Prop:=s.length≤k
theorem oI:OpE Tryz.prog 3 iC bI:=⟨⟨fun h k=>opI.o h k⟩,fun _ _=>trivial⟩
theorem oB:OpE Tryz.prog 4 (fun b:Bool=>[dB b]) bB:=⟨⟨fun h k=>opB.o h k⟩,fun _ _=>trivial⟩
theorem oT:OpE Tryz.prog 9 tC bS:=⟨⟨fun h k=>opS.o h k⟩,fun h b=>Nat.le_trans b h⟩
def D3i (k:Nat)(a:Spn):Prop:=bI k a.frm∧bI k a.til∧True
theorem D9l:OpE Tryz.prog 82 spnC D3i:=
 oS (oC oI 1 (oC oI 1 oN)) Tryz.underlying82 (fun a=>⟨a.1,a.2.1⟩) (fun a=>(a.frm,a.til,()))
def bRf (k:Nat)(a:Rf):Prop:=bI k a.rcd∧bI k a.note∧True
theorem oRf:OpE Tryz.prog 77 rfC bRf:=
 oS (oC oI 1 (oC oI 1 oN)) Tryz.underlying77 (fun a=>⟨a.1,a.2.1⟩) (fun a=>(a.rcd,a.note,()))
def bSns (k:Nat)(a:Sns):Prop:=bS k a.gloss∧bS k a.dfn∧True
theorem oSns:OpE Tryz.prog 257 snC bSns:=
 oS (oC oT 1 (oC oT 1 oN)) Tryz.underlying257 (fun a=>⟨a.1,a.2.1⟩) (fun a=>(a.gloss,a.dfn,()))
def bLnk (k:Nat)(a:Lnk):Prop:=bI k a.kind∧bI k a.to∧True
theorem oLnk:OpE Tryz.prog 220 lkC bLnk:=
 oS (oC oI 1 (oC oI 1 oN)) Tryz.underlying220 (fun a=>⟨a.1,a.2.1⟩) (fun a=>(a.kind,a.to,()))
def bCls (k:Nat)(a:Cls):Prop:=bI k a.mask∧bI k a.value∧True
theorem oCls:OpE Tryz.prog 190 clsC bCls:=
 oS (oC oI 1 (oC oI 1 oN)) Tryz.underlying190 (fun a=>⟨a.1,a.2.1⟩) (fun a=>(a.mask,a.value,()))
def bPhn (k:Nat)(a:Phn):Prop:=bS k a.name∧bI k a.feat∧True
theorem oPhn:OpE Tryz.prog 200 phC bPhn:=
 oS (oC oT 1 (oC oI 1 oN)) Tryz.underlying200 (fun a=>⟨a.1,a.2.1⟩) (fun a=>(a.name,a.feat,()))
def bStp (k:Nat)(a:Stp):Prop:=bI k a.frm∧bI k a.cls∧bI k a.til∧True
theorem oStp:OpE Tryz.prog 197 stC bStp:=
 oS (oC oI 1 (oC oI 1 (oC oI 1 oN))) Tryz.underlying197 (fun a=>⟨a.1,a.2.1,a.2.2.1⟩) (fun a=>(a.frm,a.cls,a.til,()))
def bPrt (k:Nat)(a:Prt):Prop:=bI k a.entry∧bI k a.alt∧bI k a.sense∧True
theorem oPrt:OpE Tryz.prog 208 prtC bPrt:=
 oS (oC oI 1 (oC oI 1 (oC oI 1 oN))) Tryz.underlying208 (fun a=>⟨a.1,a.2.1,a.2.2.1⟩) (fun a=>(a.entry,a.alt,a.sense,()))
def D3j (k:Nat)(a:Pers):Prop:=bI k a.id∧bS k a.name∧bB k a.member∧True
theorem G5y:OpE Tryz.prog 53 M5 D3j:=
 oS (oC oI 1 (oC oT 1 (oC oB 1 oN))) Tryz.underlying53 (fun a=>⟨a.1,a.2.1,a.2.2.1⟩) (fun a=>(a.id,a.name,a.member,()))
def D3m (k:Nat)(a:Cons):Prop:=bI k a.person∧bI k a.rcd∧bI k a.day∧bI k a.kind∧True
theorem G6h:OpE Tryz.prog 56 Y7 D3m:=
 oS (oC oI 1 (oC oI 1 (oC oI 1 (oC oI 1 oN)))) Tryz.underlying56 (fun a=>⟨a.1,a.2.1,a.2.2.1,a.2.2.2.1⟩) (fun a=>(a.person,a.rcd,a.day,a.kind,()))
def D3h (k:Nat)(a:Tier):Prop:=bS k a.name∧bI k a.kind∧bI k a.role∧bI k a.parent∧True
theorem G5m:OpE Tryz.prog 138 A0g D3h:=
 oS (oC oT 1 (oC oI 1 (oC oI 1 (oC oI 1 oN)))) Tryz.underlying138 (fun a=>⟨a.1,a.2.1,a.2.2.1,a.2.2.2.1⟩) (fun a=>(a.name,a.kind,a.role,a.parent,()))
def bVwr (k:Nat)(a:Vwr):Prop:=bI k a.person∧bI k a.day∧True
theorem oVwr:OpE Tryz.prog 49 vwrC bVwr:=
 oS (oC oI 1 (oC oI 1 oN)) Tryz.underlying49 (fun a=>⟨a.1,a.2.1⟩) (fun a=>(a.person,a.day,()))
theorem oIs:OpE Tryz.prog 31 (fun l:List Int=>[.s 1 (l.map iC)]) (bLs bI):=
 oL oI 1 Tryz.underlying31
theorem oSs:OpE Tryz.prog 78 (fun l:List Tx=>[.s 1 (l.map tC)]) (bLs bS):=
 oL oT 1 Tryz.underlying78
theorem oIss:OpE Tryz.prog 95 (fun l:List (List Int)=>[.s 1 (l.map (fun l:List Int=>[.s 1 (l.map iC)]))]) (bLs (bLs bI)):=
 oL oIs 1 Tryz.underlying95
theorem oSss:OpE Tryz.prog 26 (fun l:List (List Tx)=>[.s 1 (l.map (fun l:List Tx=>[.s 1 (l.map tC)]))]) (bLs (bLs bS)):=
 oL oSs 1 Tryz.underlying26
theorem G5o:OpE Tryz.prog 96 (fun l:List Sns=>[.s 2 (l.map snC)]) (bLs bSns):=
 oL oSns 2 Tryz.underlying96
theorem G6c:OpE Tryz.prog 97 (fun l:List Lnk=>[.s 2 (l.map lkC)]) (bLs bLnk):=
 oL oLnk 2 Tryz.underlying97
theorem oRfs:OpE Tryz.prog 69 (fun l:List Rf=>[.s 2 (l.map rfC)]) (bLs bRf):=
 oL oRf 2 Tryz.underlying69
theorem D9m:OpE Tryz.prog 156 (fun l:List Cls=>[.s 2 (l.map clsC)]) (bLs bCls):=
 oL oCls 2 Tryz.underlying156
theorem G5x:OpE Tryz.prog 22 (fun l:List Phn=>[.s 2 (l.map phC)]) (bLs bPhn):=
 oL oPhn 2 Tryz.underlying22
theorem G5n:OpE Tryz.prog 30 (fun l:List Stp=>[.s 3 (l.map stC)]) (bLs bStp):=
 oL oStp 3 Tryz.underlying30
theorem G5s:OpE Tryz.prog 123 (fun l:List Prt=>[.s 3 (l.map prtC)]) (bLs bPrt):=
 oL oPrt 3 Tryz.underlying123
theorem G3j:OpE Tryz.prog 40 (fun l:List Pers=>[.s 3 (l.map M5)]) (bLs D3j):=
 oL G5y 3 Tryz.underlying40
theorem G3m:OpE Tryz.prog 42 (fun l:List Cons=>[.s 4 (l.map Y7)]) (bLs D3m):=
 oL G6h 4 Tryz.underlying42
theorem G3i:OpE Tryz.prog 59 (fun l:List Tier=>[.s 4 (l.map A0g)]) (bLs D3h):=
 oL G5m 4 Tryz.underlying59
def D3k (k:Nat)(a:Note):Prop:=bI k a.id∧bI k a.tier∧bI k a.parent∧D3i k ⟨a.frm,a.til⟩∧bI k a.rank∧bS k a.text∧True
theorem G6a:OpE Tryz.prog 142 C4 D3k:=
 oS (oC oI 1 (oC oI 1 (oC oI 1 (oC D9l 2 (oC oI 1 (oC oT 1 oN)))))) Tryz.underlying142 (fun a=>⟨a.1,a.2.1,a.2.2.1,a.2.2.2.1.frm,a.2.2.2.1.til,a.2.2.2.2.1,a.2.2.2.2.2.1⟩) (fun a=>(a.id,a.tier,a.parent,⟨a.frm,a.til⟩,a.rank,a.text,()))
def bRc (k:Nat)(a:Rc):Prop:=bI k a.id∧bS k a.name∧bI k a.len∧bI k a.day∧(bLs bI) k a.sp∧True
theorem oRc:OpE Tryz.prog 58 rcC bRc:=
 oS (oC oI 1 (oC oT 1 (oC oI 1 (oC oI 1 (oC oIs 1 oN))))) Tryz.underlying58 (fun a=>⟨a.1,a.2.1,a.2.2.1,a.2.2.2.1,a.2.2.2.2.1⟩) (fun a=>(a.id,a.name,a.len,a.day,a.sp,()))
theorem G3k:OpE Tryz.prog 60 (fun l:List Note=>[.s 7 (l.map C4)]) (bLs D3k):=
 oL G6a 7 Tryz.underlying60
def bDoc (k:Nat)(a:Doc):Prop:=bRc k a.rc∧(bLs D3h) k a.tiers∧(bLs D3k) k a.notes∧True
theorem oDoc:OpE Tryz.prog 62 docC bDoc:=
 oS (oC oRc 5 (oC G3i 1 (oC G3k 1 oN))) Tryz.underlying62 (fun a=>⟨a.1,a.2.1,a.2.2.1⟩) (fun a=>(a.rc,a.tiers,a.notes,()))
theorem G6f:OpE Tryz.prog 37 (fun l:List Doc=>[.s 7 (l.map docC)]) (bLs bDoc):=
 oL oDoc 7 Tryz.underlying37
def bUnt (k:Nat)(a:Unt):Prop:=bS k a.graph∧(bLs bI) k a.segs∧True
theorem oUnt:OpE Tryz.prog 185 untC bUnt:=
 oS (oC oT 1 (oC oIs 1 oN)) Tryz.underlying185 (fun a=>⟨a.1,a.2.1⟩) (fun a=>(a.graph,a.segs,()))
theorem G5l:OpE Tryz.prog 25 (fun l:List Unt=>[.s 2 (l.map untC)]) (bLs bUnt):=
 oL oUnt 2 Tryz.underlying25
def bRew (k:Nat)(a:Rew):Prop:=(bLs bI) k a.frm∧(bLs bI) k a.til∧(bLs bCls) k a.left∧(bLs bCls) k a.right∧bB k a.beg∧bB k a.fin∧True
theorem oRew:OpE Tryz.prog 158 rewC bRew:=
 oS (oC oIs 1 (oC oIs 1 (oC D9m 1 (oC D9m 1 (oC oB 1 (oC oB 1 oN)))))) Tryz.underlying158 (fun a=>⟨a.1,a.2.1,a.2.2.1,a.2.2.2.1,a.2.2.2.2.1,a.2.2.2.2.2.1⟩) (fun a=>(a.frm,a.til,a.left,a.right,a.beg,a.fin,()))
theorem G5r:OpE Tryz.prog 29 (fun l:List Rew=>[.s 6 (l.map rewC)]) (bLs bRew):=
 oL oRew 6 Tryz.underlying29
def D3l (k:Nat)(a:Entr):Prop:=bI k a.id∧(bLs bI) k a.form∧bI k a.cls∧(bLs (bLs bI)) k a.alts∧bI k a.main∧(bLs bSns) k a.senses∧(bLs bLnk) k a.links∧(bLs bRf) k a.refs∧True
theorem G6e:OpE Tryz.prog 99 entC D3l:=
 oS (oC oI 1 (oC oIs 1 (oC oI 1 (oC oIss 1 (oC oI 1 (oC G5o 1 (oC G6c 1 (oC oRfs 1 oN)))))))) Tryz.underlying99 (fun a=>⟨a.1,a.2.1,a.2.2.1,a.2.2.2.1,a.2.2.2.2.1,a.2.2.2.2.2.1,a.2.2.2.2.2.2.1,a.2.2.2.2.2.2.2.1⟩) (fun a=>(a.id,a.form,a.cls,a.alts,a.main,a.senses,a.links,a.refs,()))
theorem G3l:OpE Tryz.prog 34 (fun l:List Entr=>[.s 8 (l.map entC)]) (bLs D3l):=
 oL G6e 8 Tryz.underlying34
def G2d (k:Nat)(a:Orth):Prop:=bS k a.name∧(bLs bUnt) k a.units∧(bLs (bLs bS)) k a.letters∧True
theorem G5z:OpE Tryz.prog 28 A0h G2d:=
 oS (oC oT 1 (oC G5l 1 (oC oSss 1 oN))) Tryz.underlying28 (fun a=>⟨a.1,a.2.1,a.2.2.1⟩) (fun a=>(a.name,a.units,a.letters,()))
def G2e (k:Nat)(a:Netw):Prop:=bI k a.states∧(bLs bStp) k a.steps∧(bLs bI) k a.final∧True
theorem G6b:OpE Tryz.prog 33 netC G2e:=
 oS (oC oI 1 (oC G5n 1 (oC oIs 1 oN))) Tryz.underlying33 (fun a=>⟨a.1,a.2.1,a.2.2.1⟩) (fun a=>(a.states,a.steps,a.final,()))
theorem G5w:OpE Tryz.prog 24 (fun l:List Phn=>[.s 2 (l.map phC)]) (bLs bPhn):=
 oS (oC G5x 1 oN) Tryz.underlying24 (fun a=>a.1) (fun a=>(a,())) (h1:=fun _ _ h=>h.1) (h2:=fun _ _ h=>⟨h,trivial⟩)
def bLng (k:Nat)(a:Lng):Prop:=(bLs bPhn) k a.segs∧G2d k a.ortho∧(bLs bRew) k a.rules∧G2e k a.net∧(bLs D3l) k a.lex∧True
theorem oLng:OpE Tryz.prog 36 lngC bLng:=
 oS (oC G5w 1 (oC G5z 3 (oC G5r 1 (oC G6b 3 (oC G3l 1 oN))))) Tryz.underlying36 (fun a=>⟨a.1,a.2.1,a.2.2.1,a.2.2.2.1,a.2.2.2.2.1⟩) (fun a=>(a.segs,a.ortho,a.rules,a.net,a.lex,()))
theorem G5v:OpE Tryz.prog 125 (fun l:List Prt=>[.s 3 (l.map prtC)]) (bLs bPrt):=
 oS (oC G5s 1 oN) Tryz.underlying125 (fun a=>a.1) (fun a=>(a,())) (h1:=fun _ _ h=>h.1) (h2:=fun _ _ h=>⟨h,trivial⟩)
def bDcn (k:Nat)(a:Dcn):Prop:=bRf k a.ref∧bB k a.yes∧(bLs bPrt) k a.pick∧True
theorem oDcn:OpE Tryz.prog 127 dcnC bDcn:=
 oS (oC oRf 2 (oC oB 1 (oC G5v 1 oN))) Tryz.underlying127 (fun a=>⟨a.1,a.2.1,a.2.2.1⟩) (fun a=>(a.ref,a.yes,a.pick,()))
theorem G6g:OpE Tryz.prog 38 (fun l:List Dcn=>[.s 4 (l.map dcnC)]) (bLs bDcn):=
 oL oDcn 4 Tryz.underlying38
def bPnt (k:Nat)(a:Pnt):Prop:=bI k a.id∧bS k a.title∧bS k a.text∧(bLs bI) k a.entries∧(bLs bRf) k a.refs∧True
theorem oPnt:OpE Tryz.prog 112 pntC bPnt:=
 oS (oC oI 1 (oC oT 1 (oC oT 1 (oC oIs 1 (oC oRfs 1 oN))))) Tryz.underlying112 (fun a=>⟨a.1,a.2.1,a.2.2.1,a.2.2.2.1,a.2.2.2.2.1⟩) (fun a=>(a.id,a.title,a.text,a.entries,a.refs,()))
theorem G5u:OpE Tryz.prog 39 (fun l:List Pnt=>[.s 5 (l.map pntC)]) (bLs bPnt):=
 oL oPnt 5 Tryz.underlying39
def bGrp (k:Nat)(a:Grp):Prop:=bI k a.id∧bS k a.name∧(bLs bI) k a.people∧(bLs bI) k a.subs∧True
theorem oGrp:OpE Tryz.prog 211 grpC bGrp:=
 oS (oC oI 1 (oC oT 1 (oC oIs 1 (oC oIs 1 oN)))) Tryz.underlying211 (fun a=>⟨a.1,a.2.1,a.2.2.1,a.2.2.2.1⟩) (fun a=>(a.id,a.name,a.people,a.subs,()))
theorem G6d:OpE Tryz.prog 41 (fun l:List Grp=>[.s 4 (l.map grpC)]) (bLs bGrp):=
 oL oGrp 4 Tryz.underlying41
def G2c (k:Nat)(a:Prot):Prop:=bI k a.level∧(bLs bI) k a.groups∧bI k a.til∧True
theorem G5t:OpE Tryz.prog 181 B7p G2c:=
 oS (oC oI 1 (oC oIs 1 (oC oI 1 oN))) Tryz.underlying181 (fun a=>⟨a.1,a.2.1,a.2.2.1⟩) (fun a=>(a.level,a.groups,a.til,()))
def bRul (k:Nat)(a:Rul):Prop:=bI k a.rcd∧D3i k a.span∧G2c k a.prot∧True
theorem oRul:OpE Tryz.prog 183 rulC bRul:=
 oS (oC oI 1 (oC D9l 2 (oC G5t 3 oN))) Tryz.underlying183 (fun a=>⟨a.1,a.2.1,a.2.2.1⟩) (fun a=>(a.rcd,a.span,a.prot,()))
theorem G5p:OpE Tryz.prog 43 (fun l:List Rul=>[.s 6 (l.map rulC)]) (bLs bRul):=
 oL oRul 6 Tryz.underlying43
def G2b (k:Nat)(a:Rgts):Prop:=(bLs D3j) k a.people∧(bLs bGrp) k a.groups∧(bLs D3m) k a.consents∧(bLs bRul) k a.rules∧True
theorem G5q:OpE Tryz.prog 45 V7 G2b:=
 oS (oC G3j 1 (oC G6d 1 (oC G3m 1 (oC G5p 1 oN)))) Tryz.underlying45 (fun a=>⟨a.1,a.2.1,a.2.2.1,a.2.2.2.1⟩) (fun a=>(a.people,a.groups,a.consents,a.rules,()))
def bPrj (k:Nat)(a:Prj):Prop:=bLng k a.lang∧(bLs bDoc) k a.docs∧(bLs bDcn) k a.dcns∧(bLs bPnt) k a.pnts∧G2b k a.rgts∧True
theorem oPrj:OpE Tryz.prog 47 prjC bPrj:=
 oS (oC oLng 9 (oC G6f 1 (oC G6g 1 (oC G5u 1 (oC G5q 4 oN))))) Tryz.underlying47 (fun a=>⟨a.1,a.2.1,a.2.2.1,a.2.2.2.1,a.2.2.2.2.1⟩) (fun a=>(a.lang,a.docs,a.dcns,a.pnts,a.rgts,()))
end
end Go.Proofs.YtojadfppncgphaaGreatDoor