/-
  Own text of the proof.
-/
import Derived.Test.YtjicdgejhkgpgaaGreatDoorY1
import Derived.Test.YtjicdgejhkgpgaaGreatDoorY2
import Derived.Test.YtjicdgejhkgpgaaGreatDoorYj
set_option linter.all false
set_option maxHeartbeats 8000000
set_option maxRecDepth 8000
namespace Go.Proofs.YtjicdgejhkgpgaaGreatDoor
section
open Go.RowKit Go.En Go.Pv
structure Kx (T:Nat→Prop) (w w':World):Prop where
  os:w'.os=w.os
  tape:w'.tape=w.tape
  output:w'.output=w.output
  size:w.heap.size≤w'.heap.size
  block:∀ k,k<w.heap.size→¬ T k→w'.heap[k]?=w.heap[k]?
theorem Kx.of_ext {T:Nat→Prop} {w w':World} (x:Ext w w'):Kx T w w':=⟨Below.os x,Below.tape x,Below.output x,x.size,fun _ hk _=>x.block hk⟩
theorem Kx.of_kb {T:Nat→Prop} {b:Nat} {w w':World} (k:Kb (some b) w w') (hb:T b):Kx T w w':=⟨k.os,k.tape,k.output,k.size,fun q hq hn=>World.grownBy.block k q hq (fun e=>hn (by cases e;exact hb))⟩
theorem Kx.trans {T:Nat→Prop} {a b c:World} (h:Kx T a b) (k:Kx T b c):Kx T a c:=
  ⟨k.os.trans h.os,k.tape.trans h.tape,k.output.trans h.output,Nat.le_trans h.size k.size,fun q hq hn=>(k.block q (Nat.lt_of_lt_of_le hq h.size) hn).trans (h.block q hq hn)⟩
theorem Kx.wk {T T':Nat→Prop} {a b:World} (h:Kx T a b) (hT:∀ q,T q→T' q):Kx T' a b:=⟨h.os,h.tape,h.output,h.size,fun q hq hn=>h.block q hq (fun ht=>hn (hT q ht))⟩
theorem Kx.mv {T:Nat→Prop} {w w':World} (h:Kx T w w') {G:Nat→Prop} (hG:∀ b,G b→¬ T b):∀ b,G b→b<w.heap.size→G b∧w'.heap[b]?=w.heap[b]?:=fun b hb hlt=>⟨hb,h.block b hlt (hG b hb)⟩
theorem Kx.row {T:Nat→Prop} {w w':World} (h:Kx T w w') {b:Nat} {e:TypeId} {cs:List Value} (hr:Row w b e cs) (hb:¬ T b):Row w' b e cs:=(h.block b hr.lt hb).trans hr
theorem Kx.ext {T:Nat→Prop} {w w':World} (h:Kx T w w') (hT:∀ b,b<w.heap.size→¬ T b):Ext w w':=⟨h.os,h.tape,h.output,h.size,fun q hq=>h.block q hq (hT q hq)⟩
theorem Kx.from {T:Nat→Prop} {w0 w w':World} (h:Kx T w w') (x:Ext w0 w) (hT:∀ b,b<w0.heap.size→¬ T b):Ext w0 w':=
  ⟨h.os.trans (Below.os x),h.tape.trans (Below.tape x),h.output.trans (Below.output x),Nat.le_trans x.size h.size,fun q hq=>(h.block q (Nat.lt_of_lt_of_le hq x.size) (hT q hq)).trans (x.block hq)⟩
def OKb (l:List Int):Prop:=∀ x∈l,1≤x∧x≤8
def fitB (g:Lg) (ws base:List Int):Bool:=decide ((C9 As g.segs g.rules base).length≠0)&&decide (C9 As g.segs g.rules base=ws)
def Tried (g:Lg) (ws:List Int) (w:World) (bT:Nat):Prop:=∃ f:List UInt8→Option Value,MapK w bT f∧∀ k v,f k=some v→∃ b,v=.bool b∧∀ base,OKb base→keyF base=k→b=fitB g ws base
theorem Tried.ext {g:Lg} {ws:List Int} {w w':World} {bT:Nat} (h:Tried g ws w bT) (x:Ext w w'):Tried g ws w' bT:=by
  obtain⟨f,h1,h2⟩:=h;exact⟨f,h1.ext x,h2⟩
theorem P5 {l:List Int} (h:OKb l):∀ x∈l,0≤x∧x<256:=fun x hx=>by have:=h x hx;omega
theorem okb_ne {l:List Int} (h:OKb l):∀ x∈l,x≠0:=fun x hx=>by have:=h x hx;omega
attribute [local irreducible] E EL K Val Enters Rt Calls bodyPost Code.wp RQ
theorem fits139_any (g : Lg) (hok : ∀ r ∈ g.rules, RulOK r) (pv uv tv rv sv fv ev wv fnv : Value) (sh : Bool) (fin : Nat) (bS bT : Nat) (ws base : List Int) (bv : Value) (w : World) (hb : OKb base) (hbl : base.length ≤ 1000)
    (rS:Row w bS 178 (srC g pv uv tv rv sv fv ev wv (.map (some bT)) fnv sh fin)) (hT:Tried g ws w bT) (hp:Sl w pv g.segs) (hr:Sl w rv g.rules) (hw:Sl w wv ws) (hbv:Sl w bv base) :
    Calls Tryz.prog 139 #[.pointer (some ⟨bS,0,none⟩),bv] w (Rt fun u w'=>u=.bool (fitB g ws base)∧Kx (fun b=>b=bT) w w'∧Tried g ws w' bT):=by
  obtain⟨f,hM,hf⟩:=hT
  unfold srC at rS
  refine A7 (n:=53) (args:=[.pointer (some ⟨bS,0,none⟩),bv]) Tryz.func139 rfl Tryz.ntmps139 (by simp) ?_
  have hX:=Ext.refl w
  have ck:=fun wz hz=>key182_any base (P5 hb) hbl bv wz hz
  cases hfk:f (keyF base) with
  | some v=>
    obtain⟨b,rfl,hbb⟩:=hf _ _ hfk
    have hfit:=hbb base hb rfl
    rw [← hfit]
    (repeat' (first|(refine cqC (ck _ hbv) en182 fun wC xC=>?_;replace hX:=hX.trans xC;replace rS:=rS.ext xC;replace hM:=hM.ext xC)|(refine eV Z Z (L6 (k:=keyF base) hM rfl rfl rfl) ?_;rw [hfk])|refine Ly ?_))
    exact A5 Z Z ⟨rfl,Kx.of_ext hX,f,hM,hf⟩
  | none=>
    obtain⟨V,hV⟩:∃ V,V=C9 As g.segs g.rules base:=⟨_,rfl⟩
    have hfit:fitB g ws base=(decide (V.length≠0)&&decide (V=ws)):=by unfold fitB;rw [← hV]
    (repeat' ((fail_if_success (refine Ac (x:=(Code.region 5 _ _)) ?_));first|(refine cqC (ck _ hbv) en182 fun wC xC=>?_;replace hX:=hX.trans xC;replace rS:=rS.ext xC;replace hM:=hM.ext xC;replace hp:=hp.ext xC;replace hr:=hr.ext xC;replace hw:=hw.ext xC;replace hbv:=hbv.ext xC)|(refine eV Z Z (L6 (k:=keyF base) hM rfl rfl rfl) ?_;rw [hfk])|refine Ly ?_))
    refine Ac ?_
    refine E.sub (M:=[(0,.pointer (some ⟨bS,0,none⟩)),(1,bv),(5,str (keyF base))]) ⟨rfl,rfl,rfl,trivial⟩ ?_
    have hI:At _ bS (0+0) [pv]:=At.sub (xs:=[]) (ys:=[pv]) (zs:=[str g.oname,uv,tv,rv,int g.net.states,sv,fv,ev,wv,.bool sh,.int .u32 (fin:Int),.map (some bT),fnv]) rS.at
    have cl:=fun wz h1 h2 h3=>last183_any g.segs pv g.rules rv base bv wz h1 h2 h3 hok hbl (okb_ne hb)
    rw [← hV] at cl
    (repeat' ((fail_if_success (refine Ac (x:=(Code.region 6 _ _)) ?_));first|refine Al (f:=183) (fun u w'=>Sl w' u V) (fun _=>#[.agg #[pv],rv,bv]) Z Z (fun _ _ _ _ xe h=>SlG.ext h xe) (fun _ _ _=>A3 Z Z en183) (fun wq _ xq _=>Ag (cl wq (hp.ext xq) (hr.ext xq) (hbv.ext xq)) (fun _ _ hh=>⟨hh.2,hh.1⟩)) ?_|refine K0 Z Z Z Z (fun _=>rfl) ?_|(refine B8 (fun wq δ xq hR=>?_);have hF:=hR 8 _ rfl)|refine Sy ?_|refine yqY ?_|refine yqZ ?_|refine E_dq Aa (by kernel_rfl) Z ?_))
    all_goals (try (exfalso;omega))
    replace hX:=hX.trans xq;replace rS:=rS.ext xq;replace hM:=hM.ext xq;replace hw:=hw.ext xq
    obtain⟨va,vc,e8,_,_,_⟩:=SlG.sl hF
    rw [e8] at hF
    refine E.sub (M:=[(0,.pointer (some ⟨bS,0,none⟩)),(5,str (keyF base)),(8,.slice va V.length vc)]) ⟨rfl,rfl,congrArg some e8,trivial⟩ ?_
    have ce:=fun wz h1 h2=>equal184_any V ws (.slice va V.length vc) wv wz h1 h2
    have upd:∀(b:Bool) (w1 w2:World),b=fitB g ws base→MapK w2 bT (fun j=>if j=keyF base then some (.bool b) else f j)→Tried g ws w2 bT:=fun b w1 w2 he hm=>⟨_,hm,fun k v hk=>by
      by_cases ek:k=keyF base
      · subst ek
        simp at hk;subst hk
        exact⟨b,rfl,fun base' h1 h2=>by rw [keyF_inj (P5 h1) (P5 hb) h2];exact he⟩
      · rw [if_neg ek] at hk
        exact hf k v hk⟩
    by_cases h0:V.length=0
    · have hfF:fitB g ws base=false:=by rw [hfit,h0];rfl
      rw [hfF]
      (repeat' (first|(refine Kf (k:=keyF base) hM rfl rfl rfl rfl rfl rfl (fun wU hU kU=>?_))|refine Ly ?_|refine Dy (fun hh=>?_) fun hh=>?_))
      all_goals (try (exfalso;omega))
      exact A5 Z Z ⟨rfl,(Kx.of_ext hX).trans (Kx.of_kb kU rfl),upd false wU wU hfF.symm hU⟩
    · have hfF:fitB g ws base=decide (V=ws):=by rw [hfit,decide_eq_true h0,Bool.true_and]
      obtain⟨b,hbd⟩:∃ b,decide (V=ws)=b:=⟨_,rfl⟩
      rw [hbd] at ce hfF
      rw [hfF]
      (repeat' (first|(refine cqC (ce _ hF hw) en184 fun wC xC=>?_;replace hX:=hX.trans xC;replace rS:=rS.ext xC;replace hM:=hM.ext xC)|(refine Kf (k:=keyF base) hM rfl rfl rfl rfl rfl rfl (fun wU hU kU=>?_))|refine Ly ?_|refine Dy (fun hh=>?_) fun hh=>?_))
      all_goals (try (exfalso;omega))
      exact A5 Z Z ⟨rfl,(Kx.of_ext hX).trans (Kx.of_kb kU rfl),upd b wU wU hfF.symm hU⟩
end
section
open Go.RowKit Go.En Go.Pv
theorem hit_take {id:Int} {a:List Prt} {i:Nat} {p:Prt} (h:a[i]?=some p):Go.Pv.hitB id (a.take (i+1))=(Go.Pv.hitB id (a.take i)||p.entry==id):=by
  obtain⟨h1,h2⟩:=List.getElem?_eq_some_iff.1 h
  unfold Go.Pv.hitB
  rw [List.take_succ_eq_append_getElem h1,h2,List.any_append];simp
attribute [local irreducible] E EL K Val Enters Rt Calls bodyPost Code.wp RQ
theorem uses71_any (id:Int) (a:List Prt) (bI bU:Nat) (b0:Bool) (av bv:Value) (w:World) (hne:bI≠bU) (ha:SlG (fun b=>b≠bU) w av a) (hI:Row w bI 3 [int id]) (hU:Row w bU 4 [.bool b0]) :
    Calls Tryz.prog 71 #[av,bv,.pointer (some ⟨bI,0,none⟩),.pointer (some ⟨bU,0,none⟩)] w (Rt fun u w'=>u=.bool (!(b0||Go.Pv.hitB id a))∧Kx (fun b=>b=bU) w w'∧Row w' bU 4 [.bool (b0||Go.Pv.hitB id a)]):=by
  have ha0:=ha
  obtain⟨aa,ac,rfl,_,hm,hp⟩:=ha.sl
  refine A7 (n:=22) (args:=[.slice aa a.length ac,bv,.pointer (some ⟨bI,0,none⟩),.pointer (some ⟨bU,0,none⟩)]) Tryz.func71 rfl Tryz.ntmps71 (by simp) ?_
  (repeat' (first|refine Sy ?_))
  refine Ae (ι:=Nat) (fun i=>[(2,.pointer (some ⟨bI,0,none⟩)),(3,.pointer (some ⟨bU,0,none⟩)),(9,.slice aa a.length ac),(10,int a.length),(11,int i)])
    (fun i wr=>i≤a.length∧Kx (fun b=>b=bU) w wr∧Row wr bU 4 [.bool (b0||Go.Pv.hitB id (a.take i))]) (fun i=>a.length-i) 0
    ⟨rfl,rfl,rfl,rfl,rfl,trivial⟩ ⟨Nat.zero_le _,Kx.of_ext (Ext.refl _),by simpa [Go.Pv.hitB] using hU⟩ ?_
  rintro i wr ⟨hi,hk,hUr⟩
  have hIr:=hk.row hI hne
  have har:=ha0.move (hk.mv (fun b hb=>hb))
  by_cases hlt:i<a.length
  · obtain⟨b,off,rfl⟩:=hp (by omega)
    obtain⟨p,hpi⟩:∃ p,a[i]?=some p:=⟨_,List.getElem?_eq_getElem hlt⟩
    have hat:=Iu har hpi
    have hh2:=hit_take (id:=id) hpi
    have hXr:=Ext.refl wr
    by_cases hpe:p.entry=id
    · have e1:(p.entry==id)=true:=by simpa using hpe
      rw [e1,Bool.or_true] at hh2
      (repeat' (first|(refine Am Z Z Z Z Z Z Z Z Z Z (fun bN wN xN hbN rN=>?_);replace hXr:=hXr.trans xN;replace hIr:=hIr.ext xN;replace hUr:=hUr.ext xN)|refine eV Z Z (A0 (m:=i) Z Z Z (by first|rfl|omega) (by omega)) ?_|(refine Jh Z Z Z Z Z Z Z hUr (Nat.le_refl _) (fun wU rU kU _=>?_))|refine Ly ?_|refine Dy (fun hh=>?_) fun hh=>?_))
      all_goals (try (exfalso;omega))
      refine Ad (i+1) ⟨rfl,rfl,rfl,rfl,rfl,trivial⟩ ⟨by omega,hk.trans ((Kx.of_ext hXr).trans (Kx.of_kb kU rfl)),?_⟩ (by omega)
      rw [hh2,Bool.or_true]
      exact rU
    · have e1:(p.entry==id)=false:=by simpa using hpe
      rw [e1,Bool.or_false] at hh2
      (repeat' (first|(refine Am Z Z Z Z Z Z Z Z Z Z (fun bN wN xN hbN rN=>?_);replace hXr:=hXr.trans xN;replace hIr:=hIr.ext xN;replace hUr:=hUr.ext xN)|refine eV Z Z (A0 (m:=i) Z Z Z (by first|rfl|omega) (by omega)) ?_|refine Ly ?_|refine Dy (fun hh=>?_) fun hh=>?_))
      all_goals (try (exfalso;omega))
      refine Ad (i+1) ⟨rfl,rfl,rfl,rfl,rfl,trivial⟩ ⟨by omega,hk.trans (Kx.of_ext hXr),?_⟩ (by omega)
      rw [hh2]
      exact hUr
  · obtain rfl:i=a.length:=by omega
    rw [List.take_length] at hUr
    (repeat' (first|refine Ly ?_|refine Dy (fun hh=>?_) fun hh=>?_))
    all_goals (try (exfalso;omega))
    exact A5 Z Z ⟨rfl,hk,hUr⟩
end
section
open Go.RowKit Go.En Go.Pv
structure Srch (g:Lg) (ws:List Int) (id:Int) (pv uv tv rv sv fv ev wv:Value) (fin:Nat) (bS bT bI bU:Nat) (w:World):Prop where
  row:Row w bS 178 (srC g pv uv tv rv sv fv ev wv (.map (some bT)) (.func (.func 71) #[] #[.pointer (some ⟨bI,0,none⟩),.pointer (some ⟨bU,0,none⟩)]) (shrB g.rules) fin)
  tried:Tried g ws w bT
  segs:SlG (fun b=>b≠bT∧b≠bU) w pv g.segs
  rules:SlG (fun b=>b≠bT∧b≠bU) w rv g.rules
  steps:SlG (fun b=>b≠bT∧b≠bU) w sv g.net.steps
  lex:SlG (fun b=>b≠bT∧b≠bU) w ev g.lex
  word:SlG (fun b=>b≠bT∧b≠bU) w wv ws
  idc:Row w bI 3 [int id]
  is:Row w bU 4 [.bool false]
  n1:bS≠bT∧bS≠bU
  n2:bI≠bT∧bI≠bU
  n3:bT≠bU
def TU (bT bU:Nat):Nat→Prop:=fun b=>b=bT∨b=bU
variable {g : Lg} {ws : List Int} {id : Int} {pv uv tv rv sv fv ev wv : Value} {fin bS bT bI bU : Nat} {w w' : World}
theorem Srch.tlt (h:Srch g ws id pv uv tv rv sv fv ev wv fin bS bT bI bU w):bT<w.heap.size:=by
  obtain⟨f,h1,_⟩:=h.tried
  exact h1.lt
theorem Srch.ext (h:Srch g ws id pv uv tv rv sv fv ev wv fin bS bT bI bU w) (x:Ext w w'):Srch g ws id pv uv tv rv sv fv ev wv fin bS bT bI bU w':=
  ⟨h.row.ext x,h.tried.ext x,h.segs.ext x,h.rules.ext x,h.steps.ext x,h.lex.ext x,h.word.ext x,h.idc.ext x,h.is.ext x,h.n1,h.n2,h.n3⟩
theorem gxT {bT bU b:Nat} (h:b≠bT∧b≠bU):¬ TU bT bU b:=fun h'=>by rcases h' with h'|h';exact h.1 h';exact h.2 h'
theorem Srch.kx (h:Srch g ws id pv uv tv rv sv fv ev wv fin bS bT bI bU w) (k:Kx (TU bT bU) w w') (ht:Tried g ws w' bT) (hu:Row w' bU 4 [.bool false]):Srch g ws id pv uv tv rv sv fv ev wv fin bS bT bI bU w':=
  ⟨k.row h.row (gxT h.n1),ht,h.segs.move (k.mv fun _ hb=>gxT hb),h.rules.move (k.mv fun _ hb=>gxT hb),h.steps.move (k.mv fun _ hb=>gxT hb),h.lex.move (k.mv fun _ hb=>gxT hb),h.word.move (k.mv fun _ hb=>gxT hb),k.row h.idc (gxT h.n2),hu,h.n1,h.n2,h.n3⟩
def SRes (g:Lg) (ws:List Int) (bT bU:Nat) (w:World) (r:Bool):Value→World→Prop:=fun u w'=>u=.bool (!r)∧Kx (TU bT bU) w w'∧Tried g ws w' bT∧Row w' bU 4 [.bool r]
def belX (L:Lx) (ws:List Int) (id:Int) (k:Nat) (a:List Prt) (S:Int→Bool) (base:List Int) (e:En):Bool:=
  decide ((B6 L.lex e.id).length≠0)&&(Ai e).zipIdx.any fun fi=>decide (base.length+fi.1.length≤L.most)&&(Go.Pv.hereB L ws id (a++[⟨e.id,(fi.2:Int),0⟩]) S (base++fi.1)||belB L ws id k (a++[⟨e.id,(fi.2:Int),0⟩]) S (base++fi.1))
theorem bel_succ (L:Lx) (ws:List Int) (id:Int) (k:Nat) (a:List Prt) (S:Int→Bool) (base:List Int):belB L ws id (k+1) a S base=L.lex.any fun e=>C4 L.net.states.toNat (aftB L.net.steps S e.cls) (fun _=>true)&&belX L ws id k a (aftB L.net.steps S e.cls) base e:=by
  rw [belB]
  congr 1
  funext e
  unfold belX
  rw [Bool.and_assoc]
def WalkC (g : Lg) (ws : List Int) (id : Int) (pv uv tv rv sv fv ev wv : Value) (fin : Nat) (bS bT bI bU : Nat) (k : Nat) : Prop :=
  ∀(a:List Prt) (S:Int→Bool) (m:Nat) (base:List Int) (av bv:Value) (w:World),a.length+k=4→MaskIs m S→OKb base→base.length≤24→Srch g ws id pv uv tv rv sv fv ev wv fin bS bT bI bU w→SlG (fun b=>b≠bT∧b≠bU) w av a→SlG (fun b=>b≠bT∧b≠bU) w bv base→
    Calls Tryz.prog 108 #[.pointer (some ⟨bS,0,none⟩),av,.int .u32 (m:Int),bv] w (Rt (SRes g ws bT bU w (Go.Pv.hereB (lxOf g ws) ws id a S base||belB (lxOf g ws) ws id k a S base)))
def StepC (g : Lg) (ws : List Int) (id : Int) (pv uv tv rv sv fv ev wv : Value) (fin : Nat) (bS bT bI bU : Nat) (k : Nat) : Prop :=
  ∀(e:En) (a:List Prt) (S:Int→Bool) (m:Nat) (base:List Int) (X:List Value) (av bv:Value) (w:World),e∈g.lex→a.length+(k+1)=4→MaskIs m S→OKb base→base.length≤24→Srch g ws id pv uv tv rv sv fv ev wv fin bS bT bI bU w→Rep.at_ (fun b=>b≠bT∧b≠bU) w e X→SlG (fun b=>b≠bT∧b≠bU) w av a→SlG (fun b=>b≠bT∧b≠bU) w bv base→
    Calls Tryz.prog 141 #[.pointer (some ⟨bS,0,none⟩),.agg X.toArray,av,.int .u32 (m:Int),bv] w (Rt (SRes g ws bT bU w (belX (lxOf g ws) ws id k a S base e)))
theorem aft_both {N:Net} (hok:NetOK N) {S:Int→Bool} {c:Int} {m:Nat} (h:MaskIs m (aftB N.steps S c)):(m≠0)↔C4 N.states.toNat (aftB N.steps S c) (fun _=>true)=true:=by
  rw [mask_ne h,Ct]
  constructor
  · rintro⟨q,hq⟩
    obtain⟨x,hx,_,_,ht⟩:=Hr.1 hq
    have:=hok.steps x hx
    exact⟨q,by omega,by omega,hq,rfl⟩
  · rintro⟨q,h0,_,hq,_⟩
    exact⟨q.toNat,by rw [Int.toNat_of_nonneg h0];exact hq⟩
theorem fin_both {N:Net} (hok:NetOK N) {S:Int→Bool} {m fin:Nat} (h:MaskIs m S) (hf:MaskIs fin (finB N)):(m &&& fin≠0)↔C4 N.states.toNat S (finB N)=true:=by
  rw [mask_ne (mask_and h hf),Ct]
  constructor
  · rintro⟨q,hq⟩
    rw [Bool.and_eq_true] at hq
    have hm:(q:Int)∈N.final:=by have:=hq.2;unfold finB at this;simpa using this
    have:=hok.final q hm
    exact⟨q,by omega,by omega,hq.1,hq.2⟩
  · rintro⟨q,h0,_,h1,h2⟩
    exact⟨q.toNat,by rw [Int.toNat_of_nonneg h0,h1,h2];rfl⟩
end
section
open Go.RowKit Go.En Go.Pv
theorem here_eq {g:Lg} (hok:LangOK g) {ws:List Int} {id:Int} {a:List Prt} {S:Int→Bool} {m fin:Nat} {base:List Int} (hm:MaskIs m S) (hfin:MaskIs fin (finB g.net)) :
    Go.Pv.hereB (lxOf g ws) ws id a S base=(decide (0<a.length)&&(decide (m &&& fin≠0)&&(decide (ws.length≤base.length)&&fitB g ws base))&&Go.Pv.hitB id a):=by
  unfold Go.Pv.hereB
  have e1:(!a.isEmpty)=decide (0<a.length):=by cases a <;> simp
  have e2:C4 (lxOf g ws).net.states.toNat S (finB (lxOf g ws).net)=decide (m &&& fin≠0):=by
    show C4 g.net.states.toNat S (finB g.net)=_
    cases hb:C4 g.net.states.toNat S (finB g.net) with
    | true=>exact(decide_eq_true ((fin_both hok.net hm hfin).2 hb)).symm
    | false=>exact(decide_eq_false (fun h=>by rw [(fin_both hok.net hm hfin).1 h] at hb;cases hb)).symm
  rw [e1,e2]
  rfl
attribute [local irreducible] E EL K Val Enters Rt Calls bodyPost Code.wp RQ
theorem L2 {g : Lg} (hok : LangOK g) (hro : ∀ r ∈ g.rules, RulOK r) {ws : List Int} (hws : ws.length ≤ 24) {id : Int} {pv uv tv rv sv fv ev wv : Value} {fin : Nat} (hfin : MaskIs fin (finB g.net)) {bS bT bI bU : Nat} (k : Nat)
    (hstep:∀ k',k=k'+1→StepC g ws id pv uv tv rv sv fv ev wv fin bS bT bI bU k'):WalkC g ws id pv uv tv rv sv fv ev wv fin bS bT bI bU k:=by
  intro a S m base av bv w hak hm hob hbl hs ha hbv
  have ha0:=ha
  have hb0:=hbv
  have hw0:=hs.word
  have hl0:=hs.lex
  obtain⟨aa,ac,rfl,_,ham,_⟩:=ha.sl
  obtain⟨ba,bc,rfl,_,hbm,_⟩:=hbv.sl
  obtain⟨wa,wc,rfl,_,_,_⟩:=hw0.sl
  obtain⟨la,lc,rfl,_,hlm,hlp⟩:=hl0.sl
  have hml:=hm.lt
  have hfl:=hfin.lt
  have hrow:=hs.row
  unfold srC at hrow
  obtain⟨H,hH⟩:∃ H,Go.Pv.hereB (lxOf g ws) ws id a S base=H:=⟨_,rfl⟩
  have hHe:=here_eq (id:=id) (a:=a) (base:=base) (ws:=ws) hok hm hfin
  rw [hH] at hHe ⊢
  refine A7 (n:=79) (args:=[.pointer (some ⟨bS,0,none⟩),.slice aa a.length ac,.int .u32 (m:Int),.slice ba base.length bc]) Tryz.func108 rfl Tryz.ntmps108 (by simp) ?_
  (repeat' ((fail_if_success (refine Ac (x:=(Code.region 1 _ _)) ?_));first|refine Sy ?_))
  refine Fl (ι:=Bool) (fun c=>[(0,.pointer (some ⟨bS,0,none⟩)),(1,.slice aa a.length ac),(2,.int .u32 (m:Int)),(3,.slice ba base.length bc),(48,.bool c)])
    (fun c wr=>c=H∧Kx (TU bT bU) w wr∧Tried g ws wr bT∧Row wr bU 4 [.bool c]) ?_ ?_
  · have cf := fits139_any g hro pv uv tv rv sv fv _ _ _ (shrB g.rules) fin bS bT ws base _ w hob (by omega) hs.row hs.tried (hs.segs.any) (hs.rules.any) (hs.word.any) (hb0.any)
    obtain⟨F,hF⟩:∃ F,fitB g ws base=F:=⟨_,rfl⟩
    rw [hF] at cf hHe
    have hKw:Kx (TU bT bU) w w:=Kx.of_ext (Ext.refl _)
    have hTw:=hs.tried
    have hUw:=hs.is
    cases F
    · (repeat' (first|refine eV Z Z (M8 (a:=m) (b:=fin) Z Z Z hml hfl) ?_|(refine A9 Z Z (A3 Z Z en139) cf (fun vC wC hC=>?_);obtain⟨rfl,kC,tC⟩:=hC;have hK2:=hKw.trans (kC.wk (fun q hq=>Or.inl hq));have hU2:=kC.row hUw (fun e=>hs.n3 e.symm))|refine Ly ?_|refine Dy (fun hh=>?_) fun hh=>?_))
      all_goals first
        | exact Bx false ⟨rfl,rfl,rfl,rfl,rfl,trivial⟩ ⟨by rw [hHe];(simp;done),hK2,tC,hU2⟩
        | exact Bx false ⟨rfl,rfl,rfl,rfl,rfl,trivial⟩ ⟨by rw [hHe];(simp;done),hKw,hTw,hUw⟩
    · have cu:=fun wz h1 h2 h3=>uses71_any id a bI bU false (.slice aa a.length ac) (.slice ba base.length bc) wz hs.n2.2 h1 h2 h3
      rw [Bool.false_or] at cu
      obtain⟨h71,h71e⟩:∃ h,Go.Pv.hitB id a=h:=⟨_,rfl⟩
      rw [h71e] at cu hHe
      (repeat' (first|refine eV Z Z (M8 (a:=m) (b:=fin) Z Z Z hml hfl) ?_|(refine A9 Z Z (A3 Z Z en139) cf (fun vC wC hC=>?_);obtain⟨rfl,kC,tC⟩:=hC;have hK2:=hKw.trans (kC.wk (fun q hq=>Or.inl hq));have hU2:=kC.row hUw (fun e=>hs.n3 e.symm);have hI2:=kC.row hs.idc (fun e=>hs.n2.1 e);have hA2:=(ha0.move (kC.mv (fun q hq e=>hq.1 e))).wk (fun q hq=>hq.2);have hrow2:=kC.row hrow (fun e=>hs.n1.1 e))|(refine A9 Z Z (I5 (cap:=[.pointer (some ⟨bI,0,none⟩),.pointer (some ⟨bU,0,none⟩)]) Z Z Z en71) (cu _ hA2 hI2 hU2) (fun vC wD hC=>?_);obtain⟨rfl,kD,rD⟩:=hC)|refine Ly ?_|refine Dy (fun hh=>?_) fun hh=>?_))
      all_goals first
        | (exact Bx h71 ⟨rfl,rfl,rfl,rfl,by simp [lk],trivial⟩ ⟨by
            rw [hHe,decide_eq_true (show 0<a.length by omega),decide_eq_true (show ws.length≤base.length by omega),decide_eq_true (show m &&& fin≠0 by omega)]
            simp,hK2.trans (kD.wk (fun q hq=>Or.inr hq)),(by obtain⟨f,m1,m2⟩:=tC;exact⟨f,m1.same (kD.block _ m1.lt (fun e=>hs.n3 e)),m2⟩),rD⟩)
        | exact Bx false ⟨rfl,rfl,rfl,rfl,rfl,trivial⟩ ⟨by rw [hHe,decide_eq_false (show ¬ 0<a.length by omega)];rfl,hKw,hTw,hUw⟩
        | exact Bx false ⟨rfl,rfl,rfl,rfl,rfl,trivial⟩ ⟨by rw [hHe,decide_eq_false (show ¬ ws.length≤base.length by omega)];simp,hKw,hTw,hUw⟩
        | exact Bx false ⟨rfl,rfl,rfl,rfl,rfl,trivial⟩ ⟨by rw [hHe,decide_eq_false (show ¬ (m &&& fin≠0) by omega)];simp,hKw,hTw,hUw⟩
  · rintro c wr ⟨rfl,hk,ht,hu⟩
    cases c with
    | true=>
      rw [Bool.true_or]
      (repeat' (first|refine Sy ?_))
      exact A5 Z Z ⟨rfl,hk,ht,hu⟩
    | false=>
      rw [Bool.false_or]
      have hs2:=hs.kx hk ht hu
      have ha2:=ha0.move (hk.mv fun _ hb=>gxT hb)
      have hb2:=hb0.move (hk.mv fun _ hb=>gxT hb)
      cases k with
      | zero=>
        (repeat' (first|refine Sy ?_|refine Dy (fun hh=>?_) fun hh=>?_))
        all_goals (try (exfalso;omega))
        exact A5 Z Z ⟨rfl,hk,ht,hu⟩
      | succ k=>
        have hrow2:=hs2.row
        unfold srC at hrow2
        rw [bel_succ]
        obtain⟨P,hP⟩:∃ P:En→Bool,∀ e,P e=(C4 g.net.states.toNat (aftB g.net.steps S e.cls) (fun _=>true)&&belX (lxOf g ws) ws id k a (aftB g.net.steps S e.cls) base e):=⟨_,fun _=>rfl⟩
        have hPe:((lxOf g ws).lex.any fun e=>C4 (lxOf g ws).net.states.toNat (aftB (lxOf g ws).net.steps S e.cls) (fun _=>true)&&belX (lxOf g ws) ws id k a (aftB (lxOf g ws).net.steps S e.cls) base e)=g.lex.any P:=by
          show(g.lex.any _)=_
          congr 1
          funext e
          exact(hP e).symm
        rw [hPe]
        (repeat' (first|refine Ly ?_|refine Dy (fun hh=>?_) fun hh=>?_))
        all_goals (try (exfalso;omega))
        refine Ae (ι:=Nat) (fun i=>[(0,.pointer (some ⟨bS,0,none⟩)),(1,.slice aa a.length ac),(2,.int .u32 (m:Int)),(3,.slice ba base.length bc),(56,.slice la g.lex.length lc),(57,int g.lex.length),(58,int i)])
          (fun i wl=>i≤g.lex.length∧Kx (TU bT bU) w wl∧Tried g ws wl bT∧Row wl bU 4 [.bool false]∧∀(j:Nat) (e:En),j<i→g.lex[j]?=some e→P e=false) (fun i=>g.lex.length-i) 0
          ⟨rfl,rfl,rfl,rfl,rfl,rfl,rfl,trivial⟩ ⟨Nat.zero_le _,hk,ht,hu,fun j x hj=>absurd hj (by omega)⟩ ?_
        rintro i wl ⟨hi,hkl,htl,hul,hall⟩
        have hs3:=hs.kx hkl htl hul
        have ha3:=ha0.move (hkl.mv fun _ hb=>gxT hb)
        have hb3:=hb0.move (hkl.mv fun _ hb=>gxT hb)
        by_cases hlt:i<g.lex.length
        · obtain ⟨b, off, rfl⟩ := hlp (by omega)
          obtain⟨e,hei⟩:∃ e,g.lex[i]?=some e:=⟨_,List.getElem?_eq_getElem hlt⟩
          have hmem:=List.mem_of_getElem? hei
          obtain⟨d0,f0,d1,f1,d2,f2,d3,f3,d4,f4,hat,hrep,_⟩:=B3 hs3.lex hei
          have hcl:1≤e.cls:=(hok.lex e hmem).2.1
          have hXr:=Ext.refl wl
          have caf:=fun wz (hx:Ext wl wz)=>after140_any g hok.net _ _ _ _ _ _ _ _ _ _ _ fin bS m S hm e.cls hcl wz (hs3.row.ext hx) (hs3.steps.ext hx).any
          obtain⟨r,hr⟩:∃ r,belX (lxOf g ws) ws id k a (aftB g.net.steps S e.cls) base e=r:=⟨_,rfl⟩
          have cst:=fun(m':Nat) (wz:World) (hx:Ext wl wz) (hm':MaskIs m' (aftB g.net.steps S e.cls))=>hstep k rfl e a (aftB g.net.steps S e.cls) m' base _ _ _ wz hmem (by omega) hm' hob hbl (hs3.ext hx) (Rep.move hrep hx.mv) (ha3.ext hx) (hb3.ext hx)
          rw [hr] at cst
          cases r
          · (repeat' (first|(refine Am Z Z Z Z Z Z Z Z Z Z (fun bN wN xN hbN rN=>?_);replace hXr:=hXr.trans xN;replace hs3:=hs3.ext xN;replace ha3:=ha3.ext xN;replace hb3:=hb3.ext xN)|refine eV Z Z (A0 (m:=i) Z Z Z (by first|rfl|omega) (by omega)) ?_|(refine A9 Z Z (A3 Z Z en140) (caf _ hXr) (fun vC wC hC=>?_);obtain⟨⟨m',rfl,hm'⟩,xC⟩:=hC;replace hXr:=hXr.trans xC;replace hs3:=hs3.ext xC;replace ha3:=ha3.ext xC;replace hb3:=hb3.ext xC;replace rN:=rN.ext xC)|(refine A9 Z Z (A3 Z Z en141) (cst _ _ hXr hm') (fun vC wD hC=>?_);obtain⟨rfl,kD,tD,uD⟩:=hC)|refine Ly ?_|refine Dy (fun hh=>?_) fun hh=>?_))
            all_goals (try (exfalso;omega))
            · refine Ad (i+1) ⟨rfl,rfl,rfl,rfl,rfl,rfl,rfl,trivial⟩ ⟨by omega,(hkl.trans (Kx.of_ext hXr)).trans kD,tD,uD,fun j z hj hz=>?_⟩ (by omega)
              by_cases ee:j=i
              · subst ee;rw [hei] at hz;cases hz;rw [hP,hr,Bool.and_false]
              · exact hall j z (by omega) hz
            · refine Ad (i+1) ⟨rfl,rfl,rfl,rfl,rfl,rfl,rfl,trivial⟩ ⟨by omega,hkl.trans (Kx.of_ext hXr),htl.ext hXr,hul.ext hXr,fun j z hj hz=>?_⟩ (by omega)
              by_cases ee:j=i
              · subst ee;rw [hei] at hz;cases hz;rw [hP,hr,Bool.and_false]
              · exact hall j z (by omega) hz
          · (repeat' (first|(refine Am Z Z Z Z Z Z Z Z Z Z (fun bN wN xN hbN rN=>?_);replace hXr:=hXr.trans xN;replace hs3:=hs3.ext xN;replace ha3:=ha3.ext xN;replace hb3:=hb3.ext xN)|refine eV Z Z (A0 (m:=i) Z Z Z (by first|rfl|omega) (by omega)) ?_|(refine A9 Z Z (A3 Z Z en140) (caf _ hXr) (fun vC wC hC=>?_);obtain⟨⟨m',rfl,hm'⟩,xC⟩:=hC;replace hXr:=hXr.trans xC;replace hs3:=hs3.ext xC;replace ha3:=ha3.ext xC;replace hb3:=hb3.ext xC;replace rN:=rN.ext xC)|(refine A9 Z Z (A3 Z Z en141) (cst _ _ hXr hm') (fun vC wD hC=>?_);obtain⟨rfl,kD,tD,uD⟩:=hC)|refine Ly ?_|refine Dy (fun hh=>?_) fun hh=>?_))
            all_goals (try (exfalso;omega))
            · have:g.lex.any P=true:=by
                rw [List.any_eq_true]
                exact⟨e,hmem,by rw [hP,hr,(aft_both hok.net hm').1 (by omega)];rfl⟩
              rw [this]
              exact A5 Z Z ⟨rfl,(hkl.trans (Kx.of_ext hXr)).trans kD,tD,uD⟩
            · refine Ad (i+1) ⟨rfl,rfl,rfl,rfl,rfl,rfl,rfl,trivial⟩ ⟨by omega,hkl.trans (Kx.of_ext hXr),htl.ext hXr,hul.ext hXr,fun j z hj hz=>?_⟩ (by omega)
              by_cases ee:j=i
              · subst ee;rw [hei] at hz;cases hz
                have hnb:C4 g.net.states.toNat (aftB g.net.steps S e.cls) (fun _=>true)=false:=by
                  cases hb:C4 g.net.states.toNat (aftB g.net.steps S e.cls) (fun _=>true) with
                  | false=>rfl
                  | true=>exact absurd ((aft_both hok.net hm').2 hb) (by omega)
                rw [hP,hnb,Bool.false_and]
              · exact hall j z (by omega) hz
        · have:g.lex.any P=false:=by
            rw [List.any_eq_false]
            intro e he
            obtain⟨j,hj⟩:=List.getElem?_of_mem he
            rw [hall j e (by have:=(List.getElem?_eq_some_iff.1 hj).1;omega) hj];simp
          rw [this]
          (repeat' (first|refine Sy ?_|refine Dy (fun hh=>?_) fun hh=>?_))
          all_goals (try (exfalso;omega))
          exact A5 Z Z ⟨rfl,hkl,htl,hul⟩
end
end Go.Proofs.YtjicdgejhkgpgaaGreatDoor