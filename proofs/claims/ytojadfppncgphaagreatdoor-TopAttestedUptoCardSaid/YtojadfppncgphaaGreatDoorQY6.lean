/- Own text. -/
import Derived.Test.YtojadfppncgphaaGreatDoorQY5
import Derived.Test.YtojadfppncgphaaGreatDoorQY3
set_option linter.all false
set_option maxHeartbeats 16000000
set_option maxRecDepth 8000
namespace Go.En
open Go Go.RowKit
section
variable {P : Program}{n : Nat}{Q : Post}{L : List (Nat × Value)}{w : World}
theorem C7i {l m : Nat}(hQ : ¬ LetsOut Q){ops : Array Oper}(hd : ∀ (i : Nat) (o : Oper), ops[i]? = some o → ∀ c, o.op ≠ .defer c) : ∀ (fuel : Nat) (listed : Array Bool) (a : Act) (w : World), wpAny P .any ops Q fuel listed a w → wpAnyIn (Fence.wide.inRound l) m P .any ops Q fuel listed a w := by
 intro fuel
 induction fuel with
 | zero=>intro listed a w h;unfold wpAny at h;unfold wpAnyIn;exact h
 | succ f ih=>
  intro listed a w h
  unfold wpAny at h
  unfold wpAnyIn
  refine⟨h.1,fun i hi=>?_⟩
  have h2:=h.2 i hi
  unfold wpOp at h2
  unfold wpOpIn
  cases ho:ops[i]? with
  | none=>rw [ho] at h2;exact ih _ _ _ h2
  | some o=>
   rw [ho] at h2
   dsimp only at h2 ⊢
   by_cases hw:Region.wanted o (yielded ops a.tmps)=true
   ·rw [if_pos hw] at h2 ⊢
    rcases h2 with h2|⟨_,h2⟩
    ·exact A8t (hd i o ho) (fun a' w'=>ih _ a' w') h2
    ·exact absurd h2 hQ
   ·rw [if_neg hw] at h2 ⊢
    exact⟨fun _ _=>trivial,ih _ _ _ h2⟩
theorem D4b {ops:List Oper}(mm:Nat)(hc:chk ops mm=true)(hdm:domb n L=true)(h:RW P n ops w Q ops mm (vG L))(a:Act)(ha:St n L a):wpAny P .any ops.toArray Q ops.toArray.size (Array.replicate ops.toArray.size false) a { w with drawn:=w.drawn+1 }:=by
 obtain⟨Ts,h1,h2⟩:=D3z ops mm _ h
 rw [show ops.toArray.size=ops.length by simp]
 have hp:∀ i,LsD (Array.replicate ops.length false) i↔i<0:=fun i=>by
  unfold LsD;simp [Array.getElem?_replicate];split <;> rfl
 have hG:∀ s t,gk (vG L) s=some t→t.mono w:=fun s t hg=>by
  obtain⟨v,rfl,_⟩:=A2s L s t hg
  intro u w1 w2 _ _ h;exact h
 have hL:∀ a,St n L a→Sats (vG L) a w:=fun a ha s t hs=>by
  obtain⟨v,rfl,hl⟩:=A2s L s t hs
  exact⟨by rw [ha.size];exact A4t hdm hl,by simp [Ent.sat,Array.getD_eq_getD_getElem?,ha.get s v hl]⟩
 have hdom:∀ s t,gk (vG L) s=some t→s<n:=fun s t hg=>by
  obtain⟨v,_,hv⟩:=A2s L s t hg
  exact A4t hdm hv
 refine B3z hc h1 h2 hG hdom _ _ a _ ⟨by simp,V1 w,ha.size,ha.nod,fun i o _ hi=>absurd ((hp i).1 hi) (Nat.not_lt_zero _),fun i hi=>absurd ((hp i).1 hi) (Nat.not_lt_zero _),
  fun j o s _ _ _ hj=>absurd ((hp j).1 hj) (Nat.not_lt_zero _),fun s _ t hg=>hG s t hg _ _ _ (Ext.refl w) (V1 w) (hL a ha s t hg).2⟩ ?_
 have:=R0 (N:=ops.length) (Nat.zero_le _) hp
 omega
theorem G2w {ops:List Oper}{mm:Nat}(hc:chk ops mm=true){G:List (Nat × Ent)}(h:RQ P n ops w Q (ops.take mm) (ops.drop mm) G):RW P n ops w Q ops mm G:=by
 unfold RQ at h
 have hml:mm≤ops.length:=by
  simp only [chk,Bool.and_eq_true] at hc
  exact Nat.le_of_ble_eq_true hc.1.1.1.1
 rw [List.take_append_drop,List.length_take,Nat.min_eq_left hml] at h
 exact h
theorem H1g {l m id:Nat}{ops:List Oper}(mm:Nat)(hQ:¬ LetsOut Q)(hm:P.follows .mixedOrders=true)(hnd:nodefer ops=true)(hc:chk ops mm=true)(hdm:domb n L=true)(h:RQ P n ops w Q (ops.take mm) (ops.drop mm) (vG L)):EI l m P n (.region id ops.toArray true) Q L w:=fun a ha=>
 wpIn_region_any hm (C7i hQ (Z5 hnd) _ _ a _ (D4b _ hc hdm (G2w hc h) a ha))
def ddA (D:List Deferred)(a:Act):Act:={ a with defers:=a.defers++D }
def ddQ (D:List Deferred)(Q:Post):Post:=fun e a w=>Q e (ddA D a) w
theorem B5x (D:List Deferred)(a:Act):(ddA D a).eval=a.eval:=by funext x;cases x <;> rfl
theorem A3d (D:List Deferred)(a:Act)(d:Option Tmp)(v:Value):(ddA D a).put d v=ddA D (a.put d v):=by cases d <;> rfl
theorem D9k (D:List Deferred){o:Oper}{a:Act}{next next':Act→World→Prop}(hnx:∀ a w,next a w→next' (ddA D a) w)(h:o.wp P a w next (ddQ D Q)):o.wp P (ddA D a) w next' Q:=by
 unfold Oper.wp at h ⊢
 rw [B5x]
 revert h
 generalize (execOp a.eval o).run P w=r
 intro h
 unfold Oper.upon at h ⊢
 split at h
 ·rw [A3d];exact hnx _ _ h
 ·rw [A3d];exact hnx _ _ h
 ·next d w'=>exact(by have:=hnx _ _ h;rw [← A3d] at this;exact this)
 ·refine h.mono ?_
  rintro(v|c|_) w'' hh
  ·dsimp only at hh ⊢
   rw [A3d];exact hnx _ _ hh
  ·exact hh
  ·obtain⟨a,w,h⟩:=hh;exact⟨_,_,h⟩
 ·exact h.mono fun v w' hh=>by rw [A3d];exact hnx _ _ hh
 ·exact h
 ·exact h.elim
theorem C5k (D:List Deferred){o:Oper}{a:Act}(h:o.asks P a w):o.asks P (ddA D a) w:=by
 unfold Oper.asks at h ⊢
 rw [B5x];exact h
theorem C3v (D:List Deferred)(h:LetsOut (ddQ D Q)):LetsOut Q:=by obtain⟨a,w,h⟩:=h;exact⟨_,_,h⟩
theorem A7g (D : List Deferred){ops : Array Oper} : ∀ (is : List Nat) (a : Act) (w : World), wpOps P ops (ddQ D Q) is a w → wpOps P ops Q is (ddA D a) w
 | [],_,_,h=>h
 | i :: rest, a, w, h => by
  unfold wpOps at h ⊢
  cases ho:ops[i]? with
  | none=>rw [ho] at h;exact A7g D rest a w h
  | some o=>
   rw [ho] at h
   dsimp only at h ⊢
   rw [show(ddA D a).tmps=a.tmps from rfl]
   by_cases hw:Region.wanted o (yielded ops a.tmps)=true
   ·rw [if_pos hw] at h ⊢
    rcases h with h|⟨h1,h2⟩
    ·exact .inl (D9k D (fun a' w'=>A7g D rest a' w') h)
    ·exact .inr ⟨C5k D h1,C3v D h2⟩
   ·rw [if_neg hw] at h ⊢
    rw [A3d];exact A7g D rest _ _ h
theorem G4o (D : List Deferred){ops : Array Oper} : ∀ (fuel : Nat) (listed : Array Bool) (a : Act) (w : World), wpAny P .any ops (ddQ D Q) fuel listed a w → wpAny P .any ops Q fuel listed (ddA D a) w := by
 intro fuel
 induction fuel with
 | zero=>intro listed a w h;unfold wpAny at h ⊢;exact h
 | succ f ih=>
  intro listed a w h
  unfold wpAny at h ⊢
  refine⟨h.1,fun i hi=>?_⟩
  have h2:=h.2 i hi
  unfold wpOp at h2 ⊢
  cases ho:ops[i]? with
  | none=>rw [ho] at h2;exact ih _ _ _ h2
  | some o=>
   rw [ho] at h2
   dsimp only at h2 ⊢
   rw [show(ddA D a).tmps=a.tmps from rfl]
   by_cases hw:Region.wanted o (yielded ops a.tmps)=true
   ·rw [if_pos hw] at h2 ⊢
    rcases h2 with h2|⟨h1,h2⟩
    ·exact .inl (D9k D (fun a' w'=>ih _ a' w') h2)
    ·exact .inr ⟨C5k D h1,C3v D h2⟩
   ·rw [if_neg hw] at h2 ⊢
    rw [A3d];exact ih _ _ _ h2
def ED (D:List Deferred)(P:Program)(n:Nat)(c:Code)(Q:Post)(L:List (Nat × Value))(w:World):Prop:=∀ a,St n L a→c.wp P Q (ddA D a) w
theorem A5w {D:List Deferred}{id:Nat}{ops:List Oper}(h:EL P n ops (ddQ D Q) ops L w):ED D P n (.region id ops.toArray false) Q L w:=fun a ha=>
 wp_region (A7g D _ a w (by rw [List.range_eq_range',← Array.length_toList,wpOps_eq_wpList ops.toArray.toList 0 (by simp)];simpa using h a ha))
theorem H1h {D:List Deferred}{id:Nat}{ops:List Oper}(mm:Nat)(hm:P.follows .mixedOrders=true)(hc:chk ops mm=true)(hdm:domb n L=true)(h:RQ P n ops w (ddQ D Q) (ops.take mm) (ops.drop mm) (vG L)):ED D P n (.region id ops.toArray true) Q L w:=fun a ha=>
 wp_region_any hm (G4o D _ _ a _ (D4b _ hc hdm (G2w hc h) a ha))
theorem B6f {D:List Deferred}{x y:Code}(h:ED D P n x (Exit.then (y.wp P Q) Q) L w):ED D P n (.seq x y) Q L w:=fun a ha=>wp_seq (h a ha)
theorem D4w {D:List Deferred}(h:K n (ddQ D Q) .ret L w):ED D P n .ret Q L w:=fun a ha=>wp_ret (h a ha)
theorem C7k {D:List Deferred}{c:Operand}{x y:Code}(hc:ev L c=some (.bool true))(h:ED D P n x Q L w):ED D P n (.cond c x y) Q L w:=fun a ha=>wp_cond_true (by rw [B5x];exact ha.ev hc) (h a ha)
theorem A7i {D:List Deferred}{y:Code}(h:ED D P n y Q L w):K n (ddQ D (Exit.then (y.wp P Q) Q)) .normal L w:=h
theorem C8o {m:Nat}{fn:Func}{S:Value→World→Prop}{B:Nat}{u:Value}(hB:w.heap[B]?=some (.deferred (some [])))(hr:∀ a,St n L a→∀ W',w.grownBy W' (some B)→(results fn a.tmps).run P W'=.ok u W')
  (hS:∀ W',w.grownBy W' (some B)→S u W'):K n (ddQ [{ target:=.collected B,args:=#[] }] (bodyPostM Fence.wide m P fn (Rt S))) .ret L w:=fun a ha=>by
 obtain⟨tmps,defers⟩:=a
 obtain rfl:defers=[]:=ha.nod
 refine⟨by simp [ddA],.inl ⟨_,_,rfl,run_takeDeferred hB,?_⟩⟩
 have hg:=C7 w B (.deferred none)
 exact⟨u,hr _ ha _ hg,u,rfl,hS _ hg⟩
end
end Go.En
namespace Go.Proofs.YtojadfppncgphaaGreatDoor
section
open Go.RowKit Go.En Go.Dl Go.Tp
theorem V8 {T:Nat→Prop}{I Ix:List Int→World→Prop}{xs:List Int}{W:World}:¬ LetsOut (D9h T I Ix xs W):=fun⟨_,_,h⟩=>h
theorem D2u {a:Act}(D:Deferred)(h:a.defers=[]):({ a with defers:=D::a.defers }:Act)=ddA [D] a:=by
 obtain⟨t,d⟩:=a
 obtain rfl:d=[]:=h
 rfl
theorem B1d (s:Tx)(h:∀ c∈s,c.toNat<128)(hl:s.length≤8)(w:World):Calls Tryz.prog 321 #[str s] w (Rt fun u w'=>u=.bool true∧Ext w w'):=by
 refine Calls.mono (c321 s h hl w (fun _=>False) [str s] (fun b hb=>hb.elim) (by rw [DR.valsR];exact⟨_,[],rfl,fun e=>(by cases e),by show DR _ w (.v (str s)) _;rw [DR],by rw [DR.valsR]⟩)) ?_
 rintro e w' ⟨v,rfl,hx,hd⟩
 exact⟨v,rfl,(by have h2:DR _ w' (.v (.bool true)) v:=hd;rw [DR] at h2;exact h2),hx⟩
theorem D0c (c:Int)(h0:0≤c)(h:c<128)(w:World):Calls Tryz.prog 323 #[int c] w (Rt fun u w'=>u=.bool false∧Ext w w'):=by
 refine Calls.mono (c323 c h0 h w (fun _=>False) [int c] (fun b hb=>hb.elim) (by rw [DR.valsR];exact⟨_,[],rfl,fun e=>(by cases e),by show DR _ w (.v (int c)) _;rw [DR],by rw [DR.valsR]⟩)) ?_
 rintro e w' ⟨v,rfl,hx,hd⟩
 exact⟨v,rfl,(by have h2:DR _ w' (.v (.bool false)) v:=hd;rw [DR] at h2;exact h2),hx⟩
theorem D4v {D:List Deferred}{P:Program}{n:Nat}{c:Code}{Q:Go.En.Post}{L:List (Nat × Value)}{w:World}{a:Act}(h:ED D P n c Q L w)(ha:St n L a):c.wp P Q (ddA D a) w:=h a ha
theorem C8r {P:Program}{n:Nat}{L:List (Nat × Value)}{a:Act}{fn:Func}{t:Tmp}{v:Value}{w:World}(ha:St n L a)(hr:fn.results=#[.tmp t])(hv:lk L t=some v):(results fn a.tmps).run P w=.ok v w:=by
 have:=ha.get t v hv
 rw [results_tmp hr]
 simp [Array.getD_eq_getD_getElem?,this]
theorem C8q {P:Program}{n:Nat}{L:List (Nat × Value)}{a:Act}{fn:Func}{t u:Tmp}{v x:Value}{w:World}(ha:St n L a)(hr:fn.results=#[.tmp t,.tmp u])(hv:lk L t=some v)(hx:lk L u=some x):(results fn a.tmps).run P w=.ok (.tuple #[v,x]) w:=by
 have h1:=ha.get t v hv
 have h2:=ha.get u x hx
 rw [results_tmp2 hr]
 simp [Array.getD_eq_getD_getElem?,h1,h2]
attribute [local irreducible] E EL K Val Enters Rt Calls bodyPost Code.wp RQ EI YK bodyPostM ED
theorem B0w (l:Tx)(h:∀ c∈l,c.toNat<128)(hl:l.length≤8)(w:World):Calls Tryz.prog 294 #[str l] w (Rt fun u w'=>(∃ v,u=.tuple #[v,.bool true])∧Ext w w'):=by
 refine A1f (m:=5) (n:=19) (args:=[str l]) Tryz.func294 rfl Tryz.ntmps294 (by simp) ?_
 (repeat' ((fail_if_success (refine J2 (x:=(Code.block 0 _)) ?_));first|(refine cqC (B1d l h hl _) G0i fun wC xC=>?_)|refine J4 Z Z Z (fun bR wR xR hbR rR0=>?_)|(refine D7 Z Z (D5 Z Z G0h) (A6d (str l) _) (fun vD wD hD=>?_);obtain⟨Bs,rfl,rB0,hBs,xD⟩:=hD)|refine Sy ?_|fail))
 have rR:Row wR bR 31 [.slice none 0 0]:=rR0
 have rB:Row wD Bs 9 [str l]:=rB0
 clear rR0 rB0
 have hRB:bR<wR.heap.size:=rR.lt
 have s1:=rB.lt
 have s2:=xC.size
 have s3:=xR.size
 have s4:=xD.size
 have rRD:=rR.ext xD
 have hXD:Ext w wD:=(xC.trans xR).trans xD
 refine E_in (m:=5) (fun a ha=>?_)
 refine X1 (by omega) (gf:=339) (lb:=#[.pointer (some ⟨Bs,0,none⟩)]) (ha.ev (x:=.tmp 11) rfl) G0d (T:=fun k=>k=bR∨wD.heap.size≤k)
  (B7k l h (by omega) rB (by omega) _) (fun _=>rfl)
  (fun s A=>Ext w A∧∃ v,Row A bR 31 [v]∧A.ownsRow wD.heap.size 3 1 v s.length (s.map fun x=>int (chI l x)))
  (fun _ _=>False) ?hI (fun _ _ _ h _=>h) ⟨hXD,_,rRD,World.ownsRow_nil _ _ _ _⟩
  (fun x a' W'=>St 19 [(4,.pointer (some ⟨bR,0,none⟩)),(6,int (chI l x))] a') (fun _ _ _ _ h _=>h) ?assign ?body ?done (fun _ _ _ h _=>h.elim)
 case hI=>
  rintro s A C ⟨h1,v,h2,h3⟩ hg
  exact⟨hg.ext h1 (by omega),v,hg.row h2,hg.own h3⟩
 case assign=>
  intro l2 pre x W1 K hsz hi hpre hK
  refine W9 (H1 P6 rfl ?_) (ha.round2 (s1:=12) (s2:=13) rfl rfl (int x) (int (chI l x)))
  (repeat' (first|refine Sy ?_|fail))
  exact K_of fun a' ha'=>hK a' W1 (Ext.refl _) hi (ha'.sub ⟨rfl,rfl,trivial⟩)
 case body=>
  rintro l2 pre x a' W1 hsz ⟨i1,v,i2,i3⟩ ha' hpre
  have hpl:(pre++[x]).length≤(upI 0 l.length).length:=hpre.length_le
  rw [B4q,List.length_append,List.length_singleton] at hpl
  refine W9 (A1m (H1 (C6 V8) rfl ?_)) ha'
  (repeat' (first|(refine Z0 (news:=[int (chI l x)]) Z Z Z Z (N0 i3 xS) Z rS.at rfl rfl rfl (by omega) (by omega) (by omega) (by have:=xS.size;omega) (fun vJ wJ oJ kJ=>?_))|refine Ly ?_|refine eL Z Z Z Z Z Z Z Z (fun bS wS xS hbS rS=>?_)))
  have hkb:∀ bb,v.ownBlock=some bb→wD.heap.size≤bb:=fun bb e=>(i3.lt bb e).1
  have hno:some bR≠v.ownBlock:=fun e=>by have:=hkb bR e.symm;omega
  have rO:=kJ.row (i2.ext xS) hno
  have xJ:Ext w wJ:=kJ.ext (i1.trans xS) (fun bb e=>by have:=hkb bb e;omega)
  have kv1:Kv (fun k=>k=bR∨wD.heap.size≤k) W1 wJ:=(Kv.of_ext xS).trans (B8n kJ fun b hb=>by have h2:=A5i (N0 i3 xS) hb;exact⟨.inr h2.1,h2.2⟩)
  obtain⟨gJ,capJ,tJ,rfl,hJ1,hJ2,hJ3,hJ4,hJ5⟩:=X8 oJ (by omega)
  refine V3 (v:=.slice (some ⟨gJ,0,none⟩) _ capJ) Z Z Z Z Z Z Z rO (Nat.le_refl _) (fun w5 r5 k5 s5=>?_)
  have rO5:Row w5 bR 31 [.slice (some ⟨gJ,0,none⟩) _ capJ]:=r5
  have o5:=oJ.kept k5 (Or.inr (fun e=>by have:gJ=bR:=Option.some.inj e;omega))
  have x5:Ext w w5:=k5.ext xJ (fun bb e=>by cases e;omega)
  have kv5:=kv1.trans (B8n k5 fun b hb=>by cases hb;exact⟨.inl rfl,_,_,_,rO⟩)
  refine eN (K_in (K_of fun a2 _=>⟨kv5,x5,_,rO5,?_⟩))
  rw [List.map_append,List.length_append]
  exact o5
 case done=>
  rintro W1 ⟨i1,v,i2,i3⟩ hD
  rw [D2u _ ha.nod]
  show Code.wp _ _ _ _ _
  refine D4v (B6f (A5w ?_)) (ha.sub (M:=[(4,.pointer (some ⟨bR,0,none⟩))]) ⟨rfl,trivial⟩)
  (repeat' (first|refine Ly ?_|fail))
  refine A7i (D4w (C8o hD (fun a2 ha2 W' _=>C8q ha2 rfl rfl rfl) (fun W' hg=>⟨⟨_,rfl⟩,?_⟩)))
  exact Kb.ext hg i1 (fun bb e=>by cases e;omega)
theorem C2k:∀(n i k:Nat) (x:Int),(upI i n)[k]?=some x→x=((i+k:Nat):Int)∧k<n
 | 0,i,k,x,h=>by cases h
 | n+1,i,0,x,h=>by rw [upI] at h;cases h;exact⟨rfl,by omega⟩
 | n+1,i,k+1,x,h=>by
  rw [upI,List.getElem?_cons_succ] at h
  obtain⟨h1,h2⟩:=C2k n (i+1) k x h
  exact⟨by rw [h1];omega,by omega⟩
theorem D5s {n:Nat}{pre:List Int}{x:Int}(h:pre++[x] <+: upI 0 n):x=(pre.length:Int)∧pre.length<n:=by
 obtain⟨t,h⟩:=h
 have h2:(upI 0 n)[pre.length]?=some x:=by rw [← h];simp
 have h3:=C2k n 0 pre.length x h2
 rw [Nat.zero_add] at h3
 exact h3
theorem G4m {l:Tx}(h:∀ c∈l,c.toNat<128)(i:Int):0≤chI l i∧chI l i<128:=by
 unfold chI
 cases hc:l[i.toNat]? with
 | none=>exact⟨by decide,by decide⟩
 | some c=>have:=h c (List.mem_of_getElem? hc);simp only [Option.getD_some];omega
theorem A6z (l:Tx)(h:∀ c∈l,c.toNat<128)(h1:1≤l.length)(hl:l.length≤8)(w:World):Calls Tryz.prog 295 #[str l] w (Rt fun u w'=>(∃ a c,u=.slice a l.length c)∧Ext w w'):=by
 refine A1f (m:=5) (n:=40) (args:=[str l]) Tryz.func295 rfl Tryz.ntmps295 (by simp) ?_
 refine J2 ?_
 refine H8 ?_
 refine O9 Z Z Z Z (fun bT wT xT hbT rT0=>?_)
 have rT:Row wT bT 9 [str l]:=rT0
 clear rT0
 have q1:=rT.lt
 (repeat' ((fail_if_success (refine J2 (x:=(Code.region 3 _ _)) ?_));first|(refine cqC (B1d l h hl _) G0i fun wC xC=>?_;replace rT:=rT.ext xC)|refine Ly ?_|fail))
 refine J2 ?_
 refine H8 ?_
 refine J4 Z Z Z (fun bR wR xR hbR rR0=>?_)
 have rR:Row wR bR 78 [.slice none 0 0]:=rR0
 clear rR0
 have q2:=rR.lt
 replace rT:=rT.ext xR
 refine eN (B0q (J2 (H8 ?_)))
 refine J4 Z Z Z (fun bF wA xA hbF rA=>?_)
 refine J3 (cs:=[_]) rA xA (by omega) Z Z Z Z Z Z Z Z (Nat.le_refl _) (fun wF rF0 xF kF=>?_)
 have rF:Row wF bF 3 [int 0]:=rF0
 clear rF0
 have q3:=rF.lt
 replace rT:=rT.ext xF
 replace rR:=rR.ext xF
 refine eN (B0q ?_)
 (repeat' ((fail_if_success (refine J2 (x:=(Code.block 0 _)) ?_));first|(refine D7 Z Z (D5 Z Z G0h) (A6d (str l) _) (fun vD wD hD=>?_);obtain⟨Bs,rfl,rB0,hBs,xD⟩:=hD;replace rT:=rT.ext xD;replace rR:=rR.ext xD;replace rF:=rF.ext xD)|refine Ly ?_|fail))
 have rB:Row wD Bs 9 [str l]:=rB0
 clear rB0
 have s1:=rB.lt
 have s2:=xC.size
 have s3:=xR.size
 have s4:=xD.size
 have s5:=xT.size
 have s6:=xF.size
 have s7:bT<bR:=by omega
 have s8:bR<bF:=by omega
 have s9:bF<Bs:=by omega
 have hXD:Ext w wD:=(((xT.trans xC).trans xR).trans xF).trans xD
 refine E_in (m:=5) (fun a ha=>?_)
 refine X1 (by omega) (gf:=339) (lb:=#[.pointer (some ⟨Bs,0,none⟩)]) (ha.ev (x:=.tmp 11) rfl) G0d (T:=fun k=>k=bR∨k=bF∨wD.heap.size≤k)
  (B7k l h (by omega) rB (by omega) _) (fun _=>rfl)
  (fun s A=>Ext w A∧Row A bT 9 [str l]∧Row A bF 3 [int ((s.length-1:Nat):Int)]∧∃ v xs,Row A bR 78 [v]∧A.ownsRow wD.heap.size 9 1 v (s.length-1) xs)
  (fun _ _=>False) ?hI (fun _ _ _ h _=>h) ⟨hXD,rT,rF,_,_,rR,World.ownsRow_nil _ _ _ _⟩
  (fun x a' W'=>St 40 [(1,.pointer (some ⟨bT,0,none⟩)),(3,.pointer (some ⟨bR,0,none⟩)),(4,.pointer (some ⟨bF,0,none⟩)),(5,int x),(6,int (chI l x))] a') (fun _ _ _ _ h _=>h) ?assign ?body ?done (fun _ _ _ h _=>h.elim)
 case hI=>
  rintro s A C ⟨i1,i2,i3,v,xs,i4,i5⟩ hg
  exact⟨hg.ext i1 (by omega),hg.row i2,hg.row i3,v,xs,hg.row i4,hg.own i5⟩
 case assign=>
  intro l2 pre x W1 K hsz hi hpre hK
  refine W9 (A1l (H1 (C8 P6) rfl ?_)) (ha.round2 (s1:=12) (s2:=13) rfl rfl (int x) (int (chI l x)))
  (repeat' (first|refine Sy ?_|fail))
  refine N3 (H1 P6 rfl ?_)
  (repeat' (first|refine Sy ?_|fail))
  exact K_of fun a' ha'=>hK a' W1 (Ext.refl _) hi (ha'.sub ⟨rfl,rfl,rfl,rfl,rfl,trivial⟩)
 case body=>
  rintro l2 pre x a' W1 hsz ⟨i1,i2,i3,v,xs,i4,i5⟩ ha' hpre
  obtain⟨hx,hpl⟩:=D5s hpre
  subst hx
  refine W9 (A1m (A1l (H1 (C8 (C6 V8)) rfl ?_))) ha'
  have hch:=G4m h (pre.length:Int)
  generalize chI l (pre.length:Int)=c at ha' hch
  have hkb:∀ bb,v.ownBlock=some bb→wD.heap.size≤bb:=fun bb e=>(i5.lt bb e).1
  cases hk:pre.length with
  | zero=>
   (repeat' (first|refine Sy ?_|refine Dy (fun hh=>?_) fun hh=>?_))
   all_goals (first|(exfalso;omega)|skip)
   refine N3 (T3 rfl (A2d (K_in (K_of fun a2 _=>⟨Kv.refl _ _,i1,i2,?_,v,xs,i4,?_⟩))))
   ·rw [hk] at i3;rw [List.length_append,hk];exact i3
   ·rw [hk] at i5;rw [List.length_append,hk];exact i5
  | succ k=>
   (repeat' (first|(refine cqC (D0c c hch.1 hch.2 _) G7h fun wM xM=>?_)|refine Sy ?_|refine Dy (fun hh=>?_) fun hh=>?_))
   all_goals (first|(exfalso;omega)|skip)
   have j2:=i2.ext xM
   have j3:=i3.ext xM
   have j4:=i4.ext xM
   refine N3 (A2e rfl (A1l (H1g 6 (C8 (C6 V8)) Q3 rfl (by kernel_rfl) rfl ?_)))
   refine A5u Z Z (fun wq _ xq=>B5 Z Z Z ((j4.ext xq).cellAt rfl)) ?_
   refine A5u Z Z (fun wq _ xq=>B5 Z Z Z ((j2.ext xq).cellAt rfl)) ?_
   refine A5u Z Z (fun wq _ xq=>B5 Z Z Z ((j3.ext xq).cellAt rfl)) ?_
   refine A5u Z Z (fun wq _ xq=>A7t Z Z) ?_
   refine A5u Z Z (fun _ _ _=>N8 (a:=pre.length-1) (b:=k+1) Z Z Z Z Z Z (by omega) (by omega)) ?_
   refine D4c Z Z Z (fun _=>rfl) Z Z Z Z ?_
   refine D4d (fun wq δ xq hR=>?_);obtain⟨bL,eL,hbL,rL⟩:=hR 26 _ rfl;simp only [mat,vG];rw [eL];replace j2:=j2.ext xq;replace j3:=j3.ext xq;replace j4:=j4.ext xq
   refine Z0 (news:=[str ((l.take (k+1)).drop (pre.length-1))]) Z Z Z Z (N0 i5 (xM.trans xq)) Z rL.at rfl rfl rfl (by omega) (by omega) (by omega) (by have:=xq.size;have:=xM.size;omega) (fun vJ wJ oJ kJ=>?_)
   have hkb:∀ bb,v.ownBlock=some bb→wD.heap.size≤bb:=fun bb e=>(i5.lt bb e).1
   have hno:some bR≠v.ownBlock:=fun e=>by have:=hkb bR e.symm;omega
   have hno2:some bT≠v.ownBlock:=fun e=>by have:=hkb bT e.symm;omega
   have hno3:some bF≠v.ownBlock:=fun e=>by have:=hkb bF e.symm;omega
   replace j2:=kJ.row j2 hno2
   replace j3:=kJ.row j3 hno3
   replace j4:=kJ.row j4 hno
   have xJ:Ext w wJ:=kJ.ext ((i1.trans xM).trans xq) (fun bb e=>by have:=hkb bb e;omega)
   have kv1:Kv (fun k=>k=bR∨k=bF∨wD.heap.size≤k) W1 wJ:=(Kv.of_ext (xM.trans xq)).trans (B8n kJ fun b hb=>by have h2:=A5i (N0 i5 (xM.trans xq)) hb;exact⟨.inr (.inr h2.1),h2.2⟩)
   obtain⟨gJ,capJ,tJ,rfl,hJ1,hJ2,hJ3,hJ4,hJ5⟩:=X8 oJ (by omega)
   refine V3 (v:=.slice (some ⟨gJ,0,none⟩) _ capJ) Z Z Z Z Z Z Z j4 (Nat.le_refl _) (fun w5 r5 k5 s5=>?_)
   have rO5:Row w5 bR 78 [.slice (some ⟨gJ,0,none⟩) _ capJ]:=r5
   have o5:=oJ.kept k5 (Or.inr (fun e=>by have:gJ=bR:=Option.some.inj e;omega))
   have x5:Ext w w5:=k5.ext xJ (fun bb e=>by cases e;omega)
   have kv5:=kv1.trans (B8n k5 fun b hb=>by cases hb;exact⟨.inl rfl,_,_,_,j4⟩)
   replace j2:=k5.row j2 (fun e=>by cases e;omega)
   replace j3:=k5.row j3 (fun e=>by cases e;omega)
   refine eN (N3 (H1 (C6 V8) Z ?_))
   (repeat' (first|refine Sy ?_|fail))
   refine V3 (v:=int _) Z Z Z Z Z Z Z j3 (Nat.le_refl _) (fun w6 r6 k6 s6=>?_)
   have kv6:=kv5.trans (B8n k6 fun b hb=>by cases hb;exact⟨.inr (.inl rfl),_,_,_,j3⟩)
   have o6:=o5.kept k6 (Or.inr (fun e=>by have:gJ=bF:=Option.some.inj e;omega))
   have r7:Row w6 bF 3 [int ((k+1:Nat):Int)]:=r6
   have rO6:=k6.row rO5 (fun e=>by cases e;omega)
   have x6:Ext w w6:=k6.ext x5 (fun bb e=>by cases e;omega)
   replace j2:=k6.row j2 (fun e=>by cases e;omega)
   have e1:(pre++[((k+1:Nat):Int)]).length-1=k+1:=by rw [List.length_append,hk];rfl
   have e2:pre.length-1+1=k+1:=by omega
   rw [e2] at rO6 o6
   generalize xs++_=zs at o6
   refine eN (K_in (K_of fun a2 _=>⟨kv6,x6,j2,?_,_,zs,rO6,?_⟩))
   ·rw [e1];exact r7
   ·rw [e1];exact o6
 case done=>
  rintro W1 ⟨i1,i2,i3,v,xs,i4,i5⟩ hD
  have t1:=(Array.getElem?_eq_some_iff.1 hD).1
  rw [B4q] at i3 i5
  rw [D2u _ ha.nod]
  show Code.wp _ _ _ _ _
  refine D4v (B6f (B6f (A5w ?_))) (ha.sub (M:=[(1,.pointer (some ⟨bT,0,none⟩)),(3,.pointer (some ⟨bR,0,none⟩)),(4,.pointer (some ⟨bF,0,none⟩))]) ⟨rfl,rfl,rfl,trivial⟩)
  (repeat' (first|refine Ly ?_|refine Dy (fun hh=>?_) fun hh=>?_))
  all_goals (first|(exfalso;omega)|skip)
  refine A7i (C7k rfl (H1h 5 Q3 (by kernel_rfl) rfl ?_))
  (repeat' (first|(refine yV Z Z (fun _ _ _=>O2 (a:=l.length-1) Z Z Z Z (by omega)) ?_)|refine D4c Z Z Z (fun _=>rfl) Z Z Z Z ?_|(refine D4d (fun wq δ xq hR=>?_);obtain⟨bL,eL,hbL,rL⟩:=hR 37 _ rfl;simp only [mat,vG];rw [eL];replace i4:=i4.ext xq)|(refine Z0 (news:=[str (l.drop (l.length-1))]) Z Z Z Z (N0 i5 xq) Z rL.at rfl rfl rfl (by omega) (by omega) (by omega) (by have:=xq.size;omega) (fun vJ wJ oJ kJ=>?_))|refine yqY ?_|fail))
  have hkb:∀ bb,v.ownBlock=some bb→wD.heap.size≤bb:=fun bb e=>(i5.lt bb e).1
  have hno:some bR≠v.ownBlock:=fun e=>by have:=hkb bR e.symm;omega
  replace i4:=kJ.row i4 hno
  have xJ:Ext w wJ:=kJ.ext (i1.trans xq) (fun bb e=>by have:=hkb bb e;omega)
  obtain⟨gJ,capJ,tJ,rfl,hJ1,hJ2,hJ3,hJ4,hJ5⟩:=X8 oJ (by omega)
  refine V3 (v:=.slice (some ⟨gJ,0,none⟩) _ capJ) Z Z Z Z Z Z Z i4 (Nat.le_refl _) (fun w5 r5 k5 s5=>?_)
  have rO5:Row w5 bR 78 [.slice (some ⟨gJ,0,none⟩) _ capJ]:=r5
  have x5:Ext w w5:=k5.ext xJ (fun bb e=>by cases e;omega)
  have hD5:w5.heap[wD.heap.size]?=some (.deferred (some [])):=by
   have g1:=A9q xq hD
   have g2:=(Array.getElem?_eq_some_iff.1 g1).1
   have g3:wJ.heap[wD.heap.size]?=some (.deferred (some [])):=(World.grownBy.block kJ _ g2 (fun e=>by
    obtain⟨_,cs,t,fz,h2⟩:=A5i (N0 i5 xq) e.symm
    rw [g1] at h2;cases h2)).trans g1
   exact(World.grownBy.block k5 _ (Array.getElem?_eq_some_iff.1 g3).1 (fun e=>by cases e;omega)).trans g3
  refine eN (A7i (B6f (A5w ?_)))
  (repeat' (first|refine Ly ?_|fail))
  refine A7i (D4w (C8o hD5 (fun a2 ha2 W' _=>C8r ha2 rfl rfl) (fun W' hg=>⟨⟨some ⟨gJ,0,none⟩,capJ,?_⟩,?_⟩)))
  ·have e:l.length-1+1=l.length:=by omega
   rw [e]
  ·exact Kb.ext hg x5 (fun bb e=>by cases e;omega)
theorem B4g (l:Tx)(h:∀ c∈l,c.toNat<128)(h1:1≤l.length)(hl:l.length≤8)(w:World):Calls Tryz.prog 261 #[str l] w (Rt fun u w'=>u=int l.length∧Ext w w'):=by
 refine G3 (n:=17) (args:=[str l]) Tryz.func261 rfl Tryz.ntmps261 (by simp) ?_
 (repeat' (first|(refine D7 Z Z (D5 Z Z G7q) (B0w l h hl _) (fun vC wC hC=>?_);obtain⟨⟨vP,rfl⟩,xC⟩:=hC)|(refine D7 Z Z (D5 Z Z G7p) (A6z l h h1 hl _) (fun vD wD hD=>?_);obtain⟨⟨aD,cD,rfl⟩,xD⟩:=hD)|refine Sy ?_|fail))
 exact Q1 Z Z ⟨rfl,xC.trans xD⟩
theorem u261 (l:Tx)(h:∀ c∈l,c.toNat<128)(h1:1≤l.length)(hl:l.length≤8):Fp Tryz.prog 261 [dS l] (dI l.length):=by
 intro w G us hG hv
 rw [DR.valsR] at hv
 obtain⟨u,us1,rfl,_,hu,hv⟩:=hv
 rw [DR.valsR] at hv
 subst hv
 obtain rfl:u=str l:=by have h2:DR G w (.v (str l)) u:=hu;rw [DR] at h2;exact h2
 refine Calls.mono (B4g l h h1 hl w) ?_
 intro e w' h
 unfold Rt at h ⊢
 obtain⟨v,rfl,rfl,hx⟩:=h
 exact⟨_,rfl,hx,by show DR _ w' (.v (int _)) _;rw [DR]⟩
end
section
open Go.RowKit Go.En Go.Dl Go.Tp
attribute [local irreducible] X XL XW XG XK Val LS Fp Fo Calls bodyPost Code.wp
theorem c263 (s:Tx)(h:∀ c∈s,c.toNat<128)(h1:1≤s.length)(hl:s.length≤8):Fp Tryz.prog 263 [dS s,dI s.length] (dS s):=by
 have c1:=u261 s h h1 hl
 refine fXw Tryz.func263 Tryz.ntmps263 fun c hM=>?_
 (repeat' (first|refine cDw G0n c1 ?_|refine Wz ?_|apply Wd <;>intro hh))
 all_goals (first|(exfalso;omega)|(exfalso;simp_all;done)|skip)
 exact rXw hM
theorem c297 (s:Tx)(n:Nat)(c b:UInt8)(hn:s.length=n+1)(hl:n<1000)(hc:s[n]?=some c)(hcb:c≠b):Fp Tryz.prog 297 [dS s,.v (.int .u8 b.toNat)] (dS s):=by
 have hne:(c.toNat:Int)≠(b.toNat:Int):=fun e=>hcb (UInt8.toNat.inj oEw)
 refine fXw Tryz.func297 Tryz.ntmps297 fun c hM=>?_
 (repeat' (first|refine Wz ?_|fail))
 refine X_lp (ι:=Unit) 4194273 [] (fun _=>[(0,.d (dS s))]) (fun _=>[]) (fun _=>True) (fun _=>0) (()) ?_ ?_
 ·trivial
 rintro _ _
 (repeat' (first|refine G_x (A7 fun _=>D8 (m:=n) Z Z Z (by first|rfl|omega) hc) Z Z ?_|refine Wz ?_|apply Wd <;>intro hh))
 all_goals (first|(exfalso;omega)|(exfalso;simp_all;done)|skip)
 exact rXw hM
theorem c264 (s:Tx)(n:Nat)(c:UInt8)(hn:s.length=n+1)(hl:n<1000)(hc:s[n]?=some c)(hcb:c≠32):Fp Tryz.prog 264 [dS s,dS [32]] (dS s):=by
 have c1:=c297 s n c 32 hn hl hc hcb
 have h0:([32]:Tx)[0]?=some 32:=rfl
 refine fXw Tryz.func264 Tryz.ntmps264 fun c hM=>?_
 (repeat' (first|refine G_x (A3 Z Z Z G7o (c1)) Z Z ?_|refine G_x (A7 fun _=>D8 (m:=0) Z Z Z (by first|rfl|omega) h0) Z Z ?_|refine Wz ?_|apply Wd <;>intro hh))
 all_goals (first|(exfalso;omega)|(exfalso;simp_all;done)|skip)
 exact rXw hM
abbrev wB:Tx:=[98,97,98,105]
abbrev rwB:Dt:=.s 1 [[.s 1 [[dS [98,97,98,105]]]]]
theorem H0v:Fp Tryz.prog 261 [dS [98,97,98,105]] (dI 4):=u261 [98,97,98,105] (by decide) (by decide) (by decide)
theorem c221:Fp Tryz.prog 221 [rwB] (.s 1 [[dI 4]]):=by
 have h0:([[.s 1 [[dS [98,97,98,105]]]]]:List (List Dt))[0]?=some [.s 1 [[dS [98,97,98,105]]]]:=rfl
 have h1:([[dS [98,97,98,105]]]:List (List Dt))[0]?=some [dS [98,97,98,105]]:=rfl
 refine fXw Tryz.func221 Tryz.ntmps221 fun c hM=>?_
 (repeat' (first|refine Wz ?_|refine Wb fun hb=>?_))
 refine D0 3 3 3 1 Z Z ?_
 (repeat' (first|refine G_n Z Z (A9c Z Z Z Z Z Z (by decide) (by decide)) Z ?_|refine G_x (A2 (m:=0) Z Z Z Z h0) Z Z ?_|refine G_x (A2 (m:=0) Z Z Z Z h1) Z Z ?_|refine cDw G0n H0v ?_|refine G_x (A8 (m:=0) Z Z Z Z (by first|rfl|omega) lOw) Z Z ?_|refine G_x (M6 (m:=0) (j:=0) Z Z Z Z Z Z Z) Z Z ?_|refine G_s (M1 (m:=0) (j:=0) Z Z Z Z Z Z Z Z (by decide)) Z Z Z ?_|refine Wk ?_|fail))
 refine B9 2 Z Z (by decide) ?_
 exact rXw hM
theorem c220:Fp Tryz.prog 220 [.s 1 [[dI 4]],dI 40] (.s 2 [[dI 0,dI 1]]):=by
 have h0:([[dI 4]]:List (List Dt))[0]?=some [dI 4]:=rfl
 refine fXw Tryz.func220 Tryz.ntmps220 fun c hM=>?_
 (repeat' (first|refine Wz ?_|fail))
 refine D0 5 5 332 2 Z Z ?_
 (repeat' (first|refine G_x (A2 (m:=0) Z Z Z Z h0) Z Z ?_|refine G_n Z Z (A9c Z Z Z Z Z Z (by decide) (by decide)) Z ?_|refine G_x (C6n [(0,1),(1,1)] rfl (by intro q hq;simp at hq;rcases hq with rfl|rfl <;> rfl) Z Z) Z Z ?_|refine Wk ?_|fail))
 refine B9 4 Z Z (by decide) ?_
 exact rXw hM
end
end Go.Proofs.YtojadfppncgphaaGreatDoor
namespace Go.En
open Go Go.RowKit Go.Dl
section
variable {P : Program}{n : Nat}{Q : Post}{L : List (Nat × Value)}{w : World}
theorem C7y {k:Code}(h:E P n k (Exit.then (Un P k Q) Q) L w){a:Act}(ha:St n L a):Un P k Q a w:=fun b ks cs=>by
 obtain⟨e,a₁,w₁,hq,harr⟩:=h a ha b (.inLoop k::ks) cs
 cases e with
 | normal=>
  obtain⟨e₂,a₂,w₂,hq₂,harr₂⟩:=hq b ks cs
  exact⟨e₂,a₂,w₂,hq₂,.of_steps (Steps.trans harr (.one step_inLoop)) harr₂⟩
 | exit id=>exact⟨_,a₁,w₁,hq,.pass (x:=.inLoop k) rfl (fun _ _=>.inl (by simp)) harr⟩
 | goto l=>exact⟨_,a₁,w₁,hq,.pass (x:=.inLoop k) rfl (fun _ _=>.inl (by simp)) harr⟩
 | ret=>exact⟨_,a₁,w₁,hq,.pass (x:=.inLoop k) rfl (fun _ _=>.inl (by simp)) harr⟩
 | panic ch=>exact⟨_,a₁,w₁,hq,.pass (x:=.inLoop k) rfl (fun _ _=>.inl (by simp)) harr⟩
 | outgrown=>exact⟨_,a₁,w₁,hq,.pass (x:=.inLoop k) rfl (fun _ _=>.inl (by simp)) harr⟩
theorem E_un {k:Code}(h:E P n k (Exit.then (Un P k Q) Q) L w):E P n (.loop k) Q L w:=fun a ha b ks cs=>by
 obtain⟨e,a',w',hq,harr⟩:=C7y h ha b ks cs
 exact⟨e,a',w',hq,.of_steps (.one step_loop) harr⟩
theorem K_un {k:Code}(h:E P n k (Exit.then (Un P k Q) Q) L w):K n (Exit.then (Un P k Q) Q) .normal L w:=fun _ ha=>C7y h ha
end
end Go.En
namespace Go.Proofs.YtojadfppncgphaaGreatDoor
section
open Go.RowKit Go.En Go.Dl Go.Tp
theorem B5g {G:Nat→Prop}{w:World}{y:Dt}{u:Value}(h:DR G w (.s 1 [[y]]) u):∃ b off cap x,u=.slice (some ⟨b,off,none⟩) 1 cap∧w.cell? ⟨b,off,none⟩=some x∧DR G w y x:=by
 rw [DR] at h
 obtain⟨p,cap,h1,h2,h3,h4⟩:=h
 obtain⟨b,off,rfl,hG,h5⟩:=h4 (by simp)
 rw [DR.rowsR,DR.cellsR] at h5
 obtain⟨⟨_,⟨x,h6,_,h7⟩,_⟩,_⟩:=h5
 exact⟨b,off,cap,x,h1,h6,h7⟩
theorem D4x {G:Nat→Prop}{w:World}{l:Tx}{u:Value}(h:DR G w (dS l) u):u=str l:=by have h2:DR G w (.v (str l)) u:=h;rw [DR] at h2;exact h2
theorem G5c {G:Nat→Prop}{w:World}{l:Int}{u:Value}(h:DR G w (dI l) u):u=int l:=by have h2:DR G w (.v (int l)) u:=h;rw [DR] at h2;exact h2
theorem H0z {v:Value}{G:Nat→Prop}{w:World}(hG:∀ b,G b→b<w.heap.size)(hv:DR G w rwB v):Calls Tryz.prog 221 #[v] w (Rt fun u w'=>(∃ b off cap,u=.slice (some ⟨b,off,none⟩) 1 cap∧w'.cell? ⟨b,off,none⟩=some (int 4))∧Ext w w'):=by
 refine Calls.mono (c221 w G [v] hG (by rw [DR.valsR];exact⟨_,[],rfl,fun e=>(by cases e),hv,by rw [DR.valsR]⟩)) ?_
 rintro e w' ⟨u,rfl,hx,hd⟩
 obtain⟨b,off,cap,x,rfl,h1,h2⟩:=B5g hd
 obtain rfl:=G5c h2
 exact⟨_,rfl,⟨b,off,cap,rfl,h1⟩,hx⟩
theorem C8i {f:FuncId}{xs:List Value}{s:Tx}{ds:List Dt}(h:Fp Tryz.prog f ds (dS s))(hd:∀ w,DR.valsR (fun _=>False) w false ds xs)(w:World):Calls Tryz.prog f xs.toArray w (Rt fun u w'=>u=str s∧Ext w w'):=by
 refine Calls.mono (h w (fun _=>False) xs (fun b hb=>hb.elim) (hd w)) ?_
 rintro e w' ⟨u,rfl,hx,hd⟩
 exact⟨_,rfl,D4x hd,hx⟩
theorem D6n (w:World):Calls Tryz.prog 263 #[str [98,97,98,105],int 4] w (Rt fun u w'=>u=str [98,97,98,105]∧Ext w w'):=
 C8i (xs:=[str [98,97,98,105],int 4]) (c263 [98,97,98,105] (by decide) (by decide) (by decide)) (fun w=>by
  rw [DR.valsR];refine⟨_,_,rfl,fun e=>(by cases e),by show DR _ w (.v (str _)) _;rw [DR],?_⟩
  rw [DR.valsR];refine⟨_,_,rfl,fun e=>(by cases e),by show DR _ w (.v (int _)) _;rw [DR];rfl,?_⟩
  rw [DR.valsR]) w
theorem C8d (w:World):Calls Tryz.prog 264 #[str [98,97,98,105],str [32]] w (Rt fun u w'=>u=str [98,97,98,105]∧Ext w w'):=
 C8i (xs:=[str [98,97,98,105],str [32]]) (c264 [98,97,98,105] 3 105 rfl (by decide) rfl (by decide)) (fun w=>by
  rw [DR.valsR];refine⟨_,_,rfl,fun e=>(by cases e),by show DR _ w (.v (str _)) _;rw [DR],?_⟩
  rw [DR.valsR];refine⟨_,_,rfl,fun e=>(by cases e),by show DR _ w (.v (str _)) _;rw [DR],?_⟩
  rw [DR.valsR]) w
theorem Bl.ext {w0:World}{b:Nat}{l:List UInt8}{w w':World}(h:Bl w0 b l w)(x:Ext w w'):Bl w0 b l w':=by
 obtain⟨h1,h2,p,v,hp,h3,h4,h5⟩:=h
 exact⟨h1,h2.trans x,p,v,hp,h3.ext x,N0 h4 x,h5⟩
attribute [local irreducible] E EL K Val Enters Rt Calls bodyPost Code.wp RQ
theorem B6e {v:Value}{G:Nat→Prop}{w:World}(hG:∀ b,G b→b<w.heap.size)(hv:DR G w rwB v):Calls Tryz.prog 222 #[v] w (Rt fun u w'=>Ext w w'∧DR (fun b=>G b∨(w.heap.size≤b∧b<w'.heap.size)) w' (.s 1 [[dS [98,97,98,105]]]) u):=by
 obtain⟨b0,f0,c0,x1,rfl,q0,hv1⟩:=B5g hv
 obtain⟨b1,f1,c1,x2,rfl,q1,hv2⟩:=B5g hv1
 obtain rfl:=D4x hv2
 refine G3 (n:=49) (args:=[.slice (some ⟨b0,f0,none⟩) 1 c0]) Tryz.func222 rfl Tryz.ntmps222 (by simp) ?_
 (repeat' (first|(exfalso;omega)|(refine D7 Z Z (D5 Z Z G0w) (H0z hG hv) (fun v3 w3 h3=>?_);obtain⟨⟨b3,f3,c3,rfl,q3⟩,x3⟩:=h3;replace q0:=x3.cell q0;replace q1:=x3.cell q1)|refine E_un ?_|refine K_un ?_|refine eV Z Z (B7 (m:=0) Z Z Z Z (by decide)) ?_|(refine J4 Z Z Z (fun bB wB xB hbB rB=>?_);have xc:=xB;have hB:Bl w3 bB [] wB:=⟨by omega,xB,_,_,.inl rfl,rB,World.ownsRow_nil wB _ _ _,by simp [Value.ownBlock]⟩)|(refine cqC (D6n _) G8d fun wP xP=>?_;replace xc:=xc.trans xP;replace hB:=hB.ext xP)|(refine D7 Z Z (D5 Z Z G1e) (B1a hB (by decide)) (fun vW wW hW=>?_);replace hB:=hW;replace xc:=hW.2.1)|(refine D7 Z Z (D5 Z Z G1d) (B3v hB) (fun vS wS hS=>?_);obtain⟨rfl,xS⟩:=hS;replace xc:=xS)|(refine cqC (C8d _) G8c fun wT xT=>?_;replace xc:=xc.trans xT)|refine eV Z Z (B5 Z Z Z q0) ?_|refine eV Z Z (B5 Z Z Z (xc.cell q1)) ?_|refine eV Z Z (B5 Z Z Z (xc.cell q3)) ?_|refine Sy ?_|refine Dy (fun hh=>?_) fun hh=>?_|refine eL Z Z Z Z Z Z Z Z (fun bS wS xS hbS rS=>?_)))
 all_goals (first|(exfalso;omega)|skip)
 refine Z0 (v:=.slice none 0 0) (B:=w.heap.size) (news:=[str [98,97,98,105] ]) Z Z Z Z (World.ownsRow_nil _ w.heap.size 9 1) Z rS.at rfl rfl rfl (by decide) (by decide) (by decide) (by have h1:=x3.size;have h2:=xc.size;have h3:=xS.size;omega) (fun vA wA oA kA=>?_)
 have xA:Ext w wA:=kA.ext ((x3.trans xc).trans xS) (fun b e=>by cases e)
 (repeat' (first|(exfalso;omega)|refine K_un ?_|refine Sy ?_|refine Dy (fun hh=>?_) fun hh=>?_))
 all_goals (first|(exfalso;omega)|skip)
 obtain⟨gJ,capJ,tJ,rfl,hJ1,hJ2,hJ3,hJ4,hJ5⟩:=X8 oA (by omega)
 refine Q1 Z Z ⟨xA,?_⟩
 rw [DR]
 refine⟨_,capJ,rfl,hJ1,by decide,fun _=>⟨gJ,0,rfl,.inr ⟨hJ3,hJ4.lt⟩,?_⟩⟩
 rw [DR.rowsR,DR.cellsR,DR.cellsR,DR.rowsR]
 refine⟨⟨rfl,⟨str [98,97,98,105],hJ4.cellAt (j:=0) rfl,rfl,?_⟩,trivial⟩,trivial⟩
 show DR _ _ (.v (str _)) _
 rw [DR]
theorem u222:Fp Tryz.prog 222 [rwB] (.s 1 [[dS [98,97,98,105]]]):=by
 intro w G us hG hv
 rw [DR.valsR] at hv
 obtain⟨u,us1,rfl,_,hu,hv⟩:=hv
 rw [DR.valsR] at hv
 subst hv
 refine Calls.mono (B6e hG hu) ?_
 intro e w' h
 unfold Rt at h ⊢
 obtain⟨v,rfl,hx,hd⟩:=h
 exact⟨v,rfl,hx,hd⟩
end
section
open Go.RowKit Go.En Go.Dl Go.Tp
attribute [local irreducible] X XL XW XG XK Val LS Fp Fo Calls bodyPost Code.wp
theorem c148 (c222:Fp Tryz.prog 222 [rwB] (.s 1 [[dS [98,97,98,105]]])):Fp Tryz.prog 148 [rwB,dI 40] (.s 1 [[dS [98,97,98,105]]]):=by
 have h0:([[.s 1 [[dS [98,97,98,105]]]]]:List (List Dt))[0]?=some [.s 1 [[dS [98,97,98,105]]]]:=rfl
 have h1:([[dI 0,dI 1]]:List (List Dt))[0]?=some [dI 0,dI 1]:=rfl
 refine fXw Tryz.func148 Tryz.ntmps148 fun c hM=>?_
 (repeat' (first|refine G_x (A2 (m:=0) Z Z Z Z h0) Z Z ?_|refine G_x (A2 (m:=0) Z Z Z Z h1) Z Z ?_|refine G_x (A2o (m:=0) Z Z Z Z Z Z (by decide)) Z Z ?_|refine G_x (A2o (m:=1) Z Z Z Z Z Z (by decide)) Z Z ?_|refine G_x (C6l (a:=0) (b:=1) Z Z Z Z Z Z Z Z (by decide) (by decide)) Z Z ?_|refine G_nd Z Z (V9 _ Z Z Z Z Z (by decide) (by decide)) Z ?_|(refine K6 54 Z Z (by decide) ?_)|refine cDw G0w c221 ?_|refine cDw G8y c220 ?_|refine cDw G8x c222 ?_|refine Wk ?_|fail))
 refine B9 4 Z Z (by decide) ?_
 exact rXw hM
end
end Go.Proofs.YtojadfppncgphaaGreatDoor