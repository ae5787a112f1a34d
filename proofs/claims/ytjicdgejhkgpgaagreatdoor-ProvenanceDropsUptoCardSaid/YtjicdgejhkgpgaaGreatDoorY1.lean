/-
  Own text of the proof.
-/
import Derived.Test.YtjicdgejhkgpgaaGreatDoorY0
import Derived.Test.YtjicdgejhkgpgaaGreatDoorYw
import Derived.Test.YtjicdgejhkgpgaaGreatDoorYz
import Derived.Test.YtjicdgejhkgpgaaGreatDoorYh
import Derived.Test.YtjicdgejhkgpgaaGreatDoorYm
import Derived.RangeFuncNested
set_option linter.all false
set_option maxHeartbeats 8000000
set_option maxRecDepth 8000
namespace Go.En
open Go.RowKit
section
variable {P : Program} {n : Nat} {Q : Post} {L : List (Nat × Value)} {w : World} {ops : List Oper} {o : Oper} {rest : List Oper}
theorem A7z (z:Array Value) (m:Nat):(Builtin.zeroCells z m).toList.length=m*z.size:=by
  unfold Builtin.zeroCells
  simp
theorem A8a {z:Array Value} {m:Nat} (h:z.toList.all Value.oneCell'=true):∀ u∈(Builtin.zeroCells z m).toList,u.oneCell'=true:=fun u hu=>by
  unfold Builtin.zeroCells at hu
  simp only [Array.toList_map,List.mem_map,Array.toList_range,List.mem_range] at hu
  obtain⟨i,hi,rfl⟩:=hu
  have hs:0<z.size:=by
    rcases Nat.eq_zero_or_pos z.size with h0|h0
    · rw [h0] at hi;omega
    · exact h0
  have hl:=Nat.mod_lt i hs
  rw [getElem!_pos z (i % z.size) hl]
  exact List.all_eq_true.1 h _ (by simp)
theorem C3h {t e:TypeId} {x:Operand} {z:Value} {size bytes:Nat} {b off m cap:Nat} {cur:List Value} [ut:UT P t (.slice e)] [ti:TI P e z size bytes] (hr:Row w b e cur) (hg:gst ops L o=some true) (hd:o.dst=none) (ho:o.op=.call { callee:=.builtin .clear,args:=#[x],argTypes:=#[t] })
    (hx:ev L x=some (.slice (some ⟨b,off,none⟩) m cap)) (hz:z.cells.size=size) (h1:z.cells.toList.all Value.oneCell'=true) (hfit:off+m*size≤cur.length) (h0:0<m)
    (k:∀ w' zs,zs.length=m*size→Row w' b e (cur.take off++zs++cur.drop (off+m*size))→Kb (some b) w w'→EL P n ops Q rest L w'):EL P n ops Q (o::rest) L w:=by
  obtain⟨i0,hi,hz0,hz1,hz2⟩:=info_parts ti.i
  have hzv:(zeroValue e).run P w=.ok z w:=O7 (P:=P) (t:=e) w
  have hu:=J8 (t:=t) (P:=P) w
  obtain⟨zs,hzs⟩:∃ l,(Builtin.zeroCells z.cells m).toList=l:=⟨_,rfl⟩
  have hzl:zs.length=m*size:=by rw [← hzs,A7z,hz]
  have hst:=run_storeCells_at (P:=P) b off e zs 0 cur.toArray w hr (by rw [hzl];simpa using hfit) (fun u hu=>by rw [← hzs] at hu;exact A8a h1 u hu)
  simp only [Nat.add_zero] at hst
  rw [hzl] at hst
  have hkb:Kb (some b) w (w.setRow b (cur.take off++zs++cur.drop (off+m*size)).toArray):=⟨rfl,rfl,rfl,by simp,fun k hk hne=>setRow_other w b k _ (fun e=>hne (by rw [e]))⟩
  refine B2s (w':=w.setRow b (cur.take off++zs++cur.drop (off+m*size)).toArray) (v:=.tuple #[]) hg hd (fun ρ ha=>?_) (k _ zs hzl (setRow_heap w b cur.toArray _ e (0,0) hr) hkb)
  have a1:=ha.ev (by rw [ho];simp [Op.operands,Call.operands]) hx
  obtain⟨m',rfl⟩:∃ m',m=m'+1:=⟨m-1,by omega⟩
  simp only [execOp,ho,resolve,invoke,builtin,Builtin.clear_,Sem.run_bind,Sem.run_pure,Result.andThen_ok,List.map_toArray,List.map_cons,List.map_nil,a1,hu,hzv,hzs]
  simp [hu,hzv,hzs,hst]
theorem B0p {t e:TypeId} {x p:Operand} {B off len cap b:Nat} {kl:IntKind} {za:Int} {zv:Value} {size bytes:Nat} [UT P t (.slice e)] [TI P e zv size bytes] (ho:o.op=.slice t x (some p) none none) (hx:ev L x=some (.slice (some ⟨B,off,none⟩) len cap))
    (hlo:ev L p=some (.int kl za)) (hza:za=(b:Int)) (hb:b≤len) (hc:b<cap):Val P L w o (.slice (some ⟨B,off+b*size,none⟩) (len-b) (cap-b)):=by
  have:=H8 (P:=P) (w:=w) (zv:=zv) (size:=size) (bytes:=bytes) (e:=e) ho hx hlo hza hb
  rw [if_neg (by omega)] at this
  simpa [D2] using this
end
end Go.En
namespace Go.Proofs.YtjicdgejhkgpgaaGreatDoor
section
open Go.RowKit Go.En Go.Pv
theorem B0a:∀(ns:List Note) (i:Nat) (x:Note),i<ns.length→(ns.map B9).flatten.take (i*7)++B9 x++(ns.map B9).flatten.drop (i*7+7)=((ns.set i x).map B9).flatten
  | [],i,x,h=>absurd h (by simp)
  | y::r,0,x,_=>by
    rw [List.map_cons,List.flatten_cons,List.set_cons_zero,List.map_cons,List.flatten_cons,Nat.zero_mul,List.take_zero,List.nil_append];rfl
  | y::r,i+1,x,h=>by
    have ih:=B0a r i x (by simpa using h)
    rw [List.map_cons,List.flatten_cons,List.set_cons_succ,List.map_cons,List.flatten_cons,← ih,show(i+1)*7=i*7+7 by omega,List.append_assoc,List.append_assoc];rfl
theorem A7g:∀(ns:List Note) (i:Nat),(ns.map B9).flatten.take (i*7)=((ns.take i).map B9).flatten
  | [],i=>by simp
  | y::r,0=>by simp
  | y::r,i+1=>by
    rw [List.map_cons,List.flatten_cons,List.take_succ_cons,List.map_cons,List.flatten_cons,← A7g r i,show(i+1)*7=i*7+7 by omega];rfl
theorem A8q {l:List Note} {p:Note→Bool} {k:Nat} {x:Note} (hk:l[k]?=some x) (hpk:p x=true) (hno:∀ j y,j<k→l[j]?=some y→p y=false):(l.take (k+1)).filter (fun x=>!p x)=l.take k:=by
  have hkl:=(List.getElem?_eq_some_iff.1 hk).1
  rw [List.take_add_one,hk,List.filter_append]
  have h1:(l.take k).filter (fun x=>!p x)=l.take k:=List.filter_eq_self.2 fun y hy=>by
    obtain⟨j,hj⟩:=List.getElem?_of_mem hy
    have hjk:j<k:=by have:=(List.getElem?_eq_some_iff.1 hj).1;rw [List.length_take] at this;omega
    rw [List.getElem?_take_of_lt hjk] at hj
    rw [hno j y hjk hj];rfl
  rw [h1];simp [hpk]
attribute [local irreducible] E EL K Val Enters Rt Calls bodyPost Code.wp RQ
theorem B7t (F:FuncId) (caps:List Value) (he:∀ args w,(Go.callFunc F args).run Tryz.prog w=.ok (.enter F args) w) (p:Note→Bool) (l:List Note) (bN:Nat) (w:World) (hN:NtAt w bN l) (hlen:l.length≤1000)
    (hF:∀(x:Note) (wq:World),Kx (fun b=>b=bN) w wq→Calls Tryz.prog F ([Value.agg #[int x.id,int x.tier,int x.parent,int x.frm,int x.til,int x.rank,str x.text] ]++caps).toArray wq (Rt fun u w'=>u=.bool (p x)∧Ext wq w')) :
    Calls Tryz.prog 83 #[.slice (some ⟨bN,0,none⟩) l.length l.length,.func (.func F) #[] caps.toArray] w (Rt fun u w'=>SlG (fun b=>b=bN) w' u (l.filter fun x=>!p x)∧Kx (fun b=>b=bN) w w'):=by
  have ci:=A4q F caps he p l _ w (NtAt.sl hN hlen) (fun x wq hx=>hF x wq (Kx.of_ext hx))
  refine A6 (n:=42) (args:=[.slice (some ⟨bN,0,none⟩) l.length l.length,.func (.func F) #[] caps.toArray]) Tryz.func83 rfl Tryz.ntmps83 (by simp) ?_
  (repeat' (first|(refine A8 Z Z (A5 Z Z en115) ci (fun vC wC hC=>?_);obtain⟨hC,xC⟩:=hC;rcases hC with⟨rfl,hall⟩|⟨k,x,rfl,hkl,hk,hpk,hno⟩)|refine Sy ?_|refine Dy (fun hh=>?_) fun hh=>?_))
  all_goals (try (exfalso;omega))
  · have hfl:(l.filter fun x=>!p x)=l:=List.filter_eq_self.2 fun x hx=>by rw [hall x hx];rfl
    exact A4 Z Z ⟨by rw [hfl];exact G9 (NtAt.ext hN xC) (O5 _ _) Z (Nat.le_refl _) (by omega),Kx.of_ext xC⟩
  have hff:=A8q hk hpk hno
  refine B0 (ι:=Nat × Nat × List Note) (fun s=>[(0,.slice (some ⟨bN,0,none⟩) l.length l.length),(1,.func (.func F) #[] caps.toArray),(5,int s.1),(6,int s.2.1)])
    (fun s ww=>s.2.1≤l.length∧s.1<s.2.1∧s.1=((l.take s.2.1).filter fun x=>!p x).length∧s.2.2.length=l.length∧NtAt ww bN s.2.2∧Kx (fun b=>b=bN) w ww∧s.2.2.take s.1=((l.take s.2.1).filter fun x=>!p x)∧∀ j z,s.2.1≤j→l[j]?=some z→s.2.2[j]?=some z) (fun s=>l.length-s.2.1) (k,k+1,l)
    ⟨rfl,rfl,rfl,rfl,trivial⟩ ⟨hkl,Nat.lt_succ_self k,by
      show k=((l.take (k+1)).filter fun x=>!p x).length
      rw [hff,List.length_take];omega,rfl,NtAt.ext hN xC,Kx.of_ext xC,by
      show l.take k=((l.take (k+1)).filter fun x=>!p x)
      rw [hff],fun j z _ hz=>hz⟩ ?_
  rintro⟨i,j,D⟩ ww ⟨hj,hij,hil,hDl,hM,hKb,hpre,hrest⟩
  dsimp only at hj hij hil hDl hM hKb hpre hrest ⊢
  by_cases hlt:j<l.length
  · obtain⟨x,hx1⟩:∃ x,l[j]?=some x:=⟨_,List.getElem?_eq_getElem hlt⟩
    have hat:At ww bN (0+j*7) [int x.id,int x.tier,int x.parent,int x.frm,int x.til,int x.rank,str x.text]:=D7 (NtAt.sl hM (by omega)) (hrest _ _ (Nat.le_refl _) hx1)
    have cF:=fun wq (hq:Ext ww wq)=>hF x wq (hKb.trans (Kx.of_ext hq))
    have hfs:(l.take (j+1)).filter (fun x=>!p x)=(l.take j).filter (fun x=>!p x)++if (!p x)=true then [x] else []:=by
      rw [List.take_add_one,hx1,List.filter_append];simp [List.filter_cons]
    have hxw:=Ext.refl ww
    cases hpx:p x with
    | true=>
      rw [hpx] at cF
      rw [if_neg (by simp [hpx]),List.append_nil] at hfs
      (repeat' (first|refine eV Z Z (A0 (m:=j) Z Z Z Z (by omega)) ?_|(refine C1 Z Z Z Z Z Z Z Z Z Z (fun bV wV xV hbV rV=>?_);replace hxw:=hxw.trans xV;replace hat:=hat.ext xV;replace hM:=hM.ext xV)|(refine A8 Z Z (L2 (cap:=caps) Z Z Z he) (cF _ hxw) (fun vC wC hC=>?_);obtain⟨rfl,xC⟩:=hC;replace hxw:=hxw.trans xC;replace hM:=NtAt.ext hM xC;replace rV:=rV.ext xC)|refine Ly ?_|refine Dy (fun hh=>?_) fun hh=>?_))
      all_goals (try (exfalso;omega))
      refine B3 (i,j+1,D) ⟨rfl,rfl,rfl,rfl,trivial⟩ ⟨by dsimp only;omega,by dsimp only;omega,by dsimp only;rw [hfs];exact hil,hDl,hM,hKb.trans (Kx.of_ext hxw),by dsimp only;rw [hfs];exact hpre,fun j' z hj' hz=>hrest j' z (by dsimp only at hj';omega) hz⟩ (by dsimp only;omega)
    | false=>
      rw [hpx] at cF
      rw [if_pos (by simp [hpx])] at hfs
      have hkD:i<D.length:=by omega
      (repeat' (first|refine eV Z Z (A0 (m:=j) Z Z Z Z (by omega)) ?_|refine eV Z Z (A0 (m:=i) Z Z Z Z (by omega)) ?_|(refine C1 Z Z Z Z Z Z Z Z Z Z (fun bV wV xV hbV rV=>?_);replace hxw:=hxw.trans xV;replace hat:=hat.ext xV;replace hM:=hM.ext xV)|(refine A8 Z Z (L2 (cap:=caps) Z Z Z he) (cF _ hxw) (fun vC wC hC=>?_);obtain⟨rfl,xC⟩:=hC;replace hxw:=hxw.trans xC;replace hM:=NtAt.ext hM xC;replace rV:=rV.ext xC)|refine Ly ?_|refine Dy (fun hh=>?_) fun hh=>?_))
      all_goals (try (exfalso;omega))
      refine J0 Z Z Z Z Z Z Z hM (by rw [A7i];show 0+i*7+7≤_;omega) (fun wS rS kS _=>?_)
      have hM2:NtAt wS bN (D.set i x):=by
        unfold NtAt
        rw [← B0a D i x hkD]
        rw [show 0+i*7=i*7 by omega] at rS
        exact rS
      have k2:=(hKb.trans (Kx.of_ext hxw)).trans (Kx.of_kb (T:=fun b=>b=bN) kS rfl)
      (repeat' (first|refine Sy ?_))
      refine B3 (i+1,j+1,D.set i x) ⟨rfl,rfl,rfl,rfl,trivial⟩ ⟨by dsimp only;omega,by dsimp only;omega,?_,by dsimp only;rw [List.length_set];exact hDl,hM2,k2,?_,fun j' z hj' hz=>?_⟩ (by dsimp only;omega)
      · dsimp only
        rw [hfs,List.length_append,← hil];rfl
      · dsimp only
        rw [hfs,← hpre,List.take_add_one,List.getElem?_set_self hkD,List.take_set_of_le (Nat.le_refl _)];rfl
      · dsimp only at hj' ⊢
        rw [List.getElem?_set_ne (by omega)]
        exact hrest j' z (by omega) hz
  · obtain rfl:j=l.length:=by omega
    rw [List.take_length] at hil hpre
    have hfl:=hil
    (repeat' (first|refine eV Z Z (B0p (b:=i) Z Z Z Z (by omega) (by omega)) ?_|refine eV Z Z (Z9 (b:=i) Z Z Z Z (by omega)) ?_|refine C3h (m:=l.length-i) hM rfl rfl rfl rfl rfl rfl (by rw [A7i];show 0+i*7+(l.length-i)*7≤_;omega) (by omega) (fun wC zs hzl rC kC=>?_)|refine Sy ?_|refine Dy (fun hh=>?_) fun hh=>?_))
    all_goals (try (exfalso;omega))
    refine A4 Z Z ⟨?_,hKb.trans (Kx.of_kb (T:=fun b=>b=bN) kC rfl)⟩
    rw [show 0+i*7=i*7 by omega,A7g,hpre,List.append_assoc] at rC
    refine⟨_,_,by rw [hil],by omega,by omega,fun _=>⟨bN,0,rfl,rfl,_,O5 _ _,At.sub (xs:=[]) (zs:=zs++List.drop (i*7+(l.length-i)*7) (D.map B9).flatten) ?_⟩⟩
    rw [List.nil_append]
    exact rC.at
end
section
open Go.RowKit Go.En Go.Pv
attribute [local irreducible] E EL K Val Enters Rt Calls bodyPost Code.wp RQ
theorem B2j (l:List Sns) (v:Value) (w:World) (hv:Sl w v l) (hln:l.length≤1000000):Calls Tryz.prog 219 #[v] w (Rt fun u w'=>SlG (fun b=>w.heap.size≤b) w' u l∧Ext w w'):=by
  have hv0:=hv
  obtain⟨a,cap,rfl,hc,hm,hp⟩:=hv.sl
  refine A6 (n:=8) (args:=[.slice a l.length cap]) Tryz.func219 rfl Tryz.ntmps219 (by simp) ?_
  cases a with
  | none=>
    have hl:l=[]:=by
      cases l with
      | nil=>rfl
      | cons x r=>obtain⟨b,off,h⟩:=hp (by simp);cases h
    subst hl
    (repeat' (first|refine eV Z Z (A5w Z Z Z) ?_|refine Sy ?_))
    exact A4 Z Z ⟨SlG.nil,Ext.refl _⟩
  | some p=>
    (repeat' (first|refine eV Z Z (A5w Z Z Z) ?_|(refine eL Z Z Z Z Z Z Z Z (fun bS wS xS hbS rS=>?_))|(refine S7 (G':=fun b=>w.heap.size≤b) hv0 xS rS (by omega) (fun b hb=>hb) Z Z Z Z Z Z Z (by omega) (fun vJ wJ sJ xJ=>?_))|refine Sy ?_))
    exact A4 Z Z ⟨sJ,xJ⟩
end
section
open Go.RowKit Go.En Go.Pv
def A7p (lex : List En) : Nat → Int → List En
  | 0,_=>[]
  | k+1,id=>match getE lex id with
    | none=>[]
    | some e=>e::if e.main=0 then [] else A7p lex k e.main
theorem V4 (lex : List En) : ∀ (k : Nat) (id : Int), A5i lex k id = match (A7p lex k id).find? (fun e => decide (0 < e.senses.length)) with | some e => e.senses | none => []
  | 0,_=>rfl
  | k + 1, id => by
    rw [A7p,A5i]
    cases hg:getE lex id with
    | none=>rfl
    | some e=>
      dsimp only
      rw [List.find?_cons]
      cases hs:e.senses with
      | cons s r=>
        rw [if_pos (by simp)]
        have:decide (0<(s::r).length)=true:=by simp
        rw [this]
        exact hs.symm
      | nil=>
        rw [if_neg (by simp)]
        have:decide (0<([]:List Sns).length)=false:=by simp
        rw [this]
        by_cases h0:e.main=0
        · rw [if_pos h0,if_pos h0];rfl
        · rw [if_neg h0,if_neg h0]
          exact V4 lex k e.main
end
section
open Go.RowKit Go.En Go.Pv
def L4 (lex : List En) : Nat → Int → List Int
  | 0,_=>[]
  | k+1,id=>match getE lex id with
    | none=>[]
    | some e=>id::if e.main=0 then [] else L4 lex k e.main
theorem A4z {lex:List En} {k:Nat} {id:Int} {e:En} (h:getE lex id=some e):L4 lex (k+1) id=id::if e.main=0 then [] else L4 lex k e.main:=by
  rw [L4,h]
theorem A5a {lex:List En} {k:Nat} {id:Int} (h:getE lex id=none):L4 lex (k+1) id=[]:=by
  rw [L4,h]
theorem A1y (lex:List En):∀(k:Nat) (id:Int),(L4 lex k id).map (entD lex)=A7p lex k id
  | 0,_=>rfl
  | k + 1, id => by
    rw [A7p]
    cases h:getE lex id with
    | none=>rw [A5a h];rfl
    | some e=>
      rw [A4z h,List.map_cons]
      have:entD lex id=e:=by unfold entD;rw [h];rfl
      rw [this]
      dsimp only
      by_cases h0:e.main=0
      · rw [if_pos h0,if_pos h0];rfl
      · rw [if_neg h0,if_neg h0,A1y lex k e.main]
theorem B3s {lex:List En} {id:Int} (h:∀ x∈L4 lex (lex.length+1) id,(entD lex x).senses.length=0):L6 lex id=[]:=by
  unfold L6
  rw [V4,← A1y,List.find?_eq_none.2]
  intro e he
  obtain⟨x,hx,rfl⟩:=List.mem_map.1 he
  rw [h x hx];simp
theorem B1a {lex:List En} {id x:Int} {pre:List Int} (hp:pre++[x] <+: L4 lex (lex.length+1) id) (h:∀ y∈pre,(entD lex y).senses.length=0) (hx:0<(entD lex x).senses.length):L6 lex id=(entD lex x).senses:=by
  obtain⟨r,hr⟩:=hp
  unfold L6
  rw [V4,← A1y,← hr,List.map_append,List.map_append,List.find?_append,List.find?_append]
  have h1:(pre.map (entD lex)).find? (fun e=>decide (0<e.senses.length))=none:=by
    rw [List.find?_eq_none]
    intro e he
    obtain⟨y,hy,rfl⟩:=List.mem_map.1 he
    rw [h y hy];simp
  have h2:([x].map (entD lex)).find? (fun e=>decide (0<e.senses.length))=some (entD lex x):=by
    rw [List.map_cons,List.map_nil,List.find?_cons,decide_eq_true hx]
  rw [h1,h2];rfl
end
end Go.Proofs.YtjicdgejhkgpgaaGreatDoor
namespace Go.En
open Go Go.RowKit
variable {F : Fence} {n : Nat} {P : Program}
def SeqX (F : Fence) (n : Nat) (P : Program) (g : Nat) (lb : Array Value) (encs : Int → Array Value) (zs : List Int) (Bid B : Nat) (w : World) : Prop :=
  ∀(l:Nat) (J Jx:List Int→World→Prop) (W:World),B≤l→l<W.heap.size→Below B w W→(∀ s A C,J s A→A.grownBy C (some Bid)→J s C)→
    (∀ pre x W1,J pre W1→pre++[x] <+: zs→YieldAt F (n-1) P l (encs x) W1 fun e W'=>
      (e=.returned (.bool true)∧J (pre++[x]) W'∧W1.grownBy W' (some l))∨(e=.returned (.bool false)∧Jx (pre++[x]) W'))→
    J [] W→
    CallsIn F n P g (#[.func (.yield l) #[] #[]]++lb) W fun e W'=>(∃ v,e=.returned v)∧(J zs W'∨∃ pre,pre <+: zs∧Jx pre W')
structure KeepUp (B:Nat) (W W':World):Prop where
  size:W.heap.size≤W'.heap.size
  same:∀(k:Nat),B≤k→k<W.heap.size→W'.heap[k]?=W.heap[k]?
theorem KeepUp.obj {B k:Nat} {o:Obj} {W W':World} (h:KeepUp B W W') (hk:B≤k) (ho:W.heap[k]?=some o):W'.heap[k]?=some o:=(h.same k hk (Array.getElem?_eq_some_iff.1 ho).1).trans ho
theorem KeepUp.of_below {B:Nat} {W W':World} (h:Below W.heap.size W W'):KeepUp B W W':=⟨h.size,fun k _ hk=>h.block k hk⟩
theorem KeepUp.trans {B:Nat} {X Y Zq:World} (h:KeepUp B X Y) (k:KeepUp B Y Zq):KeepUp B X Zq:=⟨Nat.le_trans h.size k.size,fun i hB hi=>(k.same i hB (Nat.lt_of_lt_of_le hi h.size)).trans (h.same i hB hi)⟩
def postX (B:Nat) (I Ix:List Int→World→Prop) (xs:List Int) (W:World):Exit→Act→World→Prop
  | .normal,_,W'=>Below W.heap.size W W'∧I xs W'
  | .ret,_,W'=>KeepUp B W W'∧Ix xs W'
  | .exit _,_,_=>False
  | .goto _,_,_=>False
  | .panic _,_,_=>False
  | .outgrown,_,_=>False
theorem G2 (W:World) (l:Nat) (o:Obj):W.grownBy (W.putObj l o) (some l):=grownBy_putObj' W l o
theorem A5d {W W':World} {r:Nat} (h:Below W.heap.size W W'):W.grownBy W' (some r):=⟨h.os,h.tape,h.output,h.size,fun k hk _=>h.block k hk⟩
theorem P1 {A B C:World} {r:Nat} (h:A.grownBy B (some r)) (k:B.grownBy C (some r)):A.grownBy C (some r):=
  ⟨k.os.trans h.os,k.tape.trans h.tape,k.output.trans h.output,Nat.le_trans h.size k.size,fun i hi hne=>(k.block i (Nat.lt_of_lt_of_le hi h.size) hne).trans (h.block i hi hne)⟩
theorem A3m {g:Operand} {ps:Array Tmp} {assign body:Code} {Q:Exit→Act→World→Prop} {a:Act} {w:World}
    (hro:F.round=none) (h1:1≤n) {gf:Nat} {lb:Array Value} (hg:a.eval g=.func (.func gf) #[] lb) (hFg:F.fn gf) (eg:∀ args w,(callFunc gf args).run P w=.ok (.enter gf args) w)
    {encs:Int→Array Value} {zs:List Int} {Bid:Nat} (hBid:Bid<w.heap.size) (hseq:SeqX F (n-1) P gf lb encs zs Bid w.heap.size w) (hps:∀ x,(encs x).size=ps.size)
    (I Ix:List Int→World→Prop) (hI:∀ s A C r,I s A→A.grownBy C (some r)→(r=Bid∨r=w.heap.size+1)→I s C) (hIx:∀ s A C,Ix s A→A.grownBy C (some (w.heap.size+1))→Ix s C) (h0:I [] w)
    (Ax:Int→Act→World→Prop) (hAx:∀ x a' A C,Ax x a' A→A.grownBy C (some (w.heap.size+1))→Ax x a' C)
    (hassign:∀(l:Nat) (pre:List Int) (x:Int) (W:World) (K:Act→World→Prop),w.heap.size+2≤W.heap.size→I pre W→pre++[x] <+: zs→(∀ a' W',Below W.heap.size W W'→I pre W'→Ax x a' W'→K a' W')→
      assign.wpIn (F.inRound l) (n-1-1) P (Exit.then K (fun _ _ _=>False)) { tmps:=(ps.zip (encs x)).foldl (fun t (p,v)=>t.setIfInBounds p v) a.tmps,defers:=[] } W)
    (hbody:∀(l:Nat) (pre:List Int) (x:Int) (a':Act) (W:World),w.heap.size+2≤W.heap.size→I pre W→Ax x a' W→pre++[x] <+: zs→body.wpIn (F.inRound l) (n-1-1) P (postX w.heap.size I Ix (pre++[x]) W) a' W)
    (hdone:∀(W:World),I zs W→W.heap[w.heap.size]?=some (.deferred (some []))→Q .normal { a with defers:={ target:=.collected w.heap.size,args:=#[] }::a.defers } W)
    (hstop:∀(pre:List Int) (W:World),pre <+: zs→Ix pre W→W.heap[w.heap.size]?=some (.deferred (some []))→Code.ret.wpIn F n P Q { a with defers:={ target:=.collected w.heap.size,args:=#[] }::a.defers } W) :
    (Code.rangeFunc g ps assign body).wpIn F n P Q a w:=by
  refine wpIn_rangeFunc ?_
  intro fn hfn
  rw [hro]
  obtain⟨rec,hrec⟩:∃ rec:LoopState→Option Code→Loop,rec=fun st pe=>{ state:=st,pending:=pe,fn,tmps:=a.tmps,params:=ps,assign,body,defers:=w.heap.size }:=⟨_,rfl⟩
  obtain⟨W1,hW1⟩:∃ W1,(w.alloc (.deferred (some []))).alloc (.loop (rec .ready none))=W1:=⟨_,rfl⟩
  have hL1:W1.heap[w.heap.size+1]?=some (.loop (rec .ready none)):=by
    rw [← hW1];have:=World.alloc_heap_new (w.alloc (.deferred (some []))) (.loop (rec .ready none));rwa [World.size_alloc] at this
  have hK1:W1.heap[w.heap.size]?=some (.deferred (some [])):=by
    rw [← hW1];exact(Below.heap_alloc _ _ _ (by simp)).trans (World.alloc_heap_new w _)
  have hI1:I [] W1:=by
    rw [← hW1]
    exact hI _ _ _ Bid (hI _ _ _ Bid h0 (World.grownBy_alloc w _ _) (.inl rfl)) (World.grownBy_alloc _ _ _) (.inl rfl)
  have hb1:Below w.heap.size w W1:=by
    rw [← hW1];exact((Below.refl _ w).alloc (Nat.le_refl _) _).alloc (by simp) _
  refine⟨w.heap.size+1,[{ target:=.collected w.heap.size,args:=#[] }],W1,{ target:=.fn (.func gf) lb,args:=#[.func (.yield (w.heap.size+1)) #[] #[]] },W1,gf,
    #[.func (.yield (w.heap.size+1)) #[] #[]]++lb,W1,?_,?_,?_,?_,fun _=>h1,?_⟩
  · rw [← hW1,hrec];exact run_enterLoop_outer _ _ _ _ _
  · simp only [resolve,hg]
    simp [go_sem]
  · intro f' hf';simp [Target.leads] at hf';subst hf';exact hFg
  · simp [invoke,go_sem,eg]
  · refine(hseq (w.heap.size+1)
      (fun pre W=>I pre W∧W.heap[w.heap.size+1]?=some (.loop (rec .ready none))∧W.heap[w.heap.size]?=some (.deferred (some [])))
      (fun pre W=>Ix pre W∧W.heap[w.heap.size+1]?=some (.loop (rec .done (some .ret)))∧W.heap[w.heap.size]?=some (.deferred (some [])))
      W1 (by omega) (Array.getElem?_eq_some_iff.1 hL1).1 hb1
      (fun s A C hs hg'=>⟨hI s A C Bid hs.1 hg' (.inl rfl),(hg'.block _ (Array.getElem?_eq_some_iff.1 hs.2.1).1 (fun e=>by cases e;omega)).trans hs.2.1,(hg'.block _ (Array.getElem?_eq_some_iff.1 hs.2.2).1 (fun e=>by cases e;omega)).trans hs.2.2⟩)
      ?_ ⟨hI1,hL1,hK1⟩).mono ?_
    · rintro pre x W ⟨hi,hl,hk⟩ hpre
      have hlt:w.heap.size+1<W.heap.size:=(Array.getElem?_eq_some_iff.1 hl).1
      have hy:=run_yield (P:=P) (args:=encs x) hl (by rw [hrec];exact hps x)
      rw [hrec] at hy
      refine⟨fn,_,assign,body,hy,roundIn_of_wpIn hfn (hassign _ pre x W _ (by omega) hi hpre ?_)⟩
      clear hy
      intro a' Wa hbl hia hax
      have hku:=KeepUp.of_below (B:=w.heap.size) hbl
      replace hl:=hku.obj (by omega) hl
      replace hk:=hku.obj (Nat.le_refl _) hk
      replace hlt:w.heap.size+1<Wa.heap.size:=(Array.getElem?_eq_some_iff.1 hl).1
      refine⟨_,run_beginRound hl (by rw [hrec]),?_⟩
      have hl2:(Wa.putObj (w.heap.size+1) (.loop { rec .ready none with state:=.busy })).heap[w.heap.size+1]?=some (.loop { rec .ready none with state:=.busy }):=World.putObj_heap_same hlt
      have hk2:(Wa.putObj (w.heap.size+1) (.loop { rec .ready none with state:=.busy })).heap[w.heap.size]?=some (.deferred (some [])):=(World.putObj_heap_other (by omega)).trans hk
      refine wpIn_mono (hbody _ pre x a' _ (by simp;omega) (hI _ _ _ _ hia (G2 _ _ _) (.inr rfl)) (hAx _ _ _ _ hax (G2 _ _ _)) hpre) ?_
      have fin:∀(jump:Option Code) (W3:World),KeepUp w.heap.size (Wa.putObj (w.heap.size+1) (.loop { rec .ready none with state:=.busy })) W3→
          (Instr.endRound (w.heap.size+1) jump).run P W3=.ok (.bool jump.isNone) (W3.putObj (w.heap.size+1) (.loop (rec (if jump.isNone then .ready else .done) jump)))∧
          (W3.putObj (w.heap.size+1) (.loop (rec (if jump.isNone then .ready else .done) jump))).heap[w.heap.size+1]?=some (.loop (rec (if jump.isNone then .ready else .done) jump))∧
          (W3.putObj (w.heap.size+1) (.loop (rec (if jump.isNone then .ready else .done) jump))).heap[w.heap.size]?=some (.deferred (some [])):=fun jump W3 hk3=>by
        have hl3:=hk3.obj (by omega) hl2
        have:=run_endRound (P:=P) jump hl3
        rw [hrec] at this ⊢
        exact⟨this,World.putObj_heap_same (Array.getElem?_eq_some_iff.1 hl3).1,(World.putObj_heap_other (by omega)).trans (hk3.obj (Nat.le_refl _) hk2)⟩
      rintro e a3 W3 hp
      cases e with
      | normal=>
        obtain⟨hb3,hi3⟩:=hp
        obtain⟨hr,hl4,hk4⟩:=fin none W3 (KeepUp.of_below hb3)
        exact⟨_,_,hr,.inl ⟨rfl,⟨hI _ _ _ _ hi3 (G2 _ _ _) (.inr rfl),hl4,hk4⟩,P1 (P1 (P1 (A5d hbl) (G2 Wa _ _)) (A5d hb3)) (G2 W3 _ _)⟩⟩
      | ret=>
        obtain⟨hk3,hi3⟩:=hp
        obtain⟨hr,hl4,hk4⟩:=fin (some .ret) W3 hk3
        exact⟨_,_,hr,.inr ⟨rfl,hIx _ _ _ hi3 (G2 _ _ _),hl4,hk4⟩⟩
      | exit id=>exact hp.elim
      | goto t=>exact hp.elim
      | panic ch=>exact hp.elim
      | outgrown=>exact hp.elim
    · rintro e W2 ⟨⟨v,rfl⟩,(⟨hi,hl,hk⟩|⟨pre,hSp,hi,hl,hk⟩)⟩
      · exact⟨none,_,by have:=run_endLoop (P:=P) hl (by rw [hrec];simp);rw [hrec] at this;exact this,hdone _ (hI _ _ _ _ hi (G2 _ _ _) (.inr rfl)) ((World.putObj_heap_other (by omega)).trans hk)⟩
      · exact⟨some .ret,_,by have:=run_endLoop (P:=P) hl (by rw [hrec];simp);rw [hrec] at this;exact this,hstop pre _ hSp (hIx _ _ _ hi (G2 _ _ _)) ((World.putObj_heap_other (by omega)).trans hk)⟩
end Go.En
