/-
  Own text of the proof.
-/
import Derived.Test.YtjicdgejhkgpgaaGreatDoorYp
import Derived.Test.YtjicdgejhkgpgaaGreatDoorYi
import Derived.Test.YtjicdgejhkgpgaaGreatDoorYj
set_option linter.all false
set_option maxHeartbeats 4000000
set_option maxRecDepth 8000
namespace Go.Proofs.YtjicdgejhkgpgaaGreatDoor
section
open Go.RowKit Go.En Go.Pv
def invF (k:Int):Int:=if k=0∨k=1 then k else if k=2 then 3 else if k=3 then 2 else if k=4 then 5 else if k=5 then 4 else -1
def rst (lex:List En) (kind:Int) (s:(Int→Bool) × List Int) (x:Lnk):(Int→Bool) × List Int:=
  if x.kind=kind∧0≤idxE lex x.to∧s.1 (idxE lex x.to)=false then (fun p=>if p=idxE lex x.to then true else s.1 p,s.2++[x.to]) else s
def A0m (lex:List En) (id:Int):List Lnk:=match getE lex id with|some e=>e.links|none=>[]
def rnx (lex:List En) (kind:Int) (s:(Int→Bool) × List Int) (id:Int):(Int→Bool) × List Int:=(A0m lex id).foldl (rst lex kind) s
def rrd (lex:List En) (kind:Int) (s:(Int→Bool) × List Int):(Int→Bool) × List Int:=s.2.foldl (rnx lex kind) (fun p=>s.1 p,[])
def rit (lex:List En) (kind id:Int):Nat→(Int→Bool) × List Int
  | 0=>(fun _=>false,[id])
  | r+1=>rrd lex kind (rit lex kind id r)
def outF (S:Int→Bool) (lex:List En) (i:Nat):List Int:=(lex.take i).zipIdx.flatMap fun ek=>if S (ek.2:Int) then [ek.1.id] else []
def V3 (lex:List En) (id kind:Int):List Int:=outF (rit lex kind id (lex.length+1)).1 lex lex.length
theorem rst_len (lex:List En) (kind:Int) (s:(Int→Bool) × List Int) (x:Lnk):(rst lex kind s x).2.length≤s.2.length+1:=by
  unfold rst;split
  · simp
  · omega
theorem A6l (lex:List En) (kind:Int):∀(l:List Lnk) (s:(Int→Bool) × List Int),(l.foldl (rst lex kind) s).2.length≤s.2.length+l.length
  | [],s=>by simp
  | x::r,s=>by
    rw [List.foldl_cons,List.length_cons]
    have:=A6l lex kind r (rst lex kind s x)
    have:=rst_len lex kind s x
    omega
theorem rnx_len {lex:List En} (h12:∀ e∈lex,e.links.length≤12) (kind:Int) (s:(Int→Bool) × List Int) (id:Int):(rnx lex kind s id).2.length≤s.2.length+12:=by
  have:=A6l lex kind (A0m lex id) s
  have h:(A0m lex id).length≤12:=by
    unfold A0m
    cases hg:getE lex id with
    | none=>simp
    | some e=>exact h12 e (List.mem_of_find?_eq_some hg)
  unfold rnx;omega
theorem A6k {lex:List En} (h12:∀ e∈lex,e.links.length≤12) (kind:Int):∀(l:List Int) (s:(Int→Bool) × List Int),(l.foldl (rnx lex kind) s).2.length≤s.2.length+12*l.length
  | [],s=>by simp
  | x::r,s=>by
    rw [List.foldl_cons,List.length_cons]
    have:=A6k h12 kind r (rnx lex kind s x)
    have:=rnx_len h12 kind s x
    omega
theorem B1i {lex:List En} (h12:∀ e∈lex,e.links.length≤12) (kind id:Int):∀ r,(rit lex kind id r).2.length≤12 ^ r
  | 0=>by simp [rit]
  | r+1=>by
    have h1:=B1i h12 kind id r
    have h2:=A6k h12 kind (rit lex kind id r).2 (fun p=>(rit lex kind id r).1 p,[])
    have e:(rit lex kind id (r+1))=(rit lex kind id r).2.foldl (rnx lex kind) (fun p=>(rit lex kind id r).1 p,[]):=rfl
    rw [e,Nat.pow_succ]
    simp only [List.length_nil] at h2
    omega
theorem A7f {α β:Type} {f:β→α→β} {l:List α} {i:Nat} {x:α} {s:β} (h:l[i]?=some x):(l.take (i+1)).foldl f s=f ((l.take i).foldl f s) x:=by
  obtain⟨h1,h2⟩:=List.getElem?_eq_some_iff.1 h
  rw [List.take_succ_eq_append_getElem h1,h2,List.foldl_append];rfl
theorem A9n {S:Int→Bool} {lex:List En} {i:Nat} {e:En} (h:lex[i]?=some e):outF S lex (i+1)=outF S lex i++if S (i:Int) then [e.id] else []:=by
  obtain⟨h1,h2⟩:=List.getElem?_eq_some_iff.1 h
  unfold outF
  rw [List.take_succ_eq_append_getElem h1,h2,List.zipIdx_append,List.flatMap_append]
  simp [List.length_take,Nat.min_eq_left (Nat.le_of_lt h1)]
theorem C4s {S : Int → Bool} {lex : List En} {i : Nat} : (outF S lex i).length ≤ i := by
  induction i with
  | zero=>simp [outF]
  | succ i ih=>
    by_cases hl:i<lex.length
    · obtain⟨e,he⟩:∃ e,lex[i]?=some e:=⟨_,List.getElem?_eq_getElem hl⟩
      rw [A9n he,List.length_append]
      split <;> simp <;> omega
    · have:outF S lex (i+1)=outF S lex i:=by
        unfold outF
        rw [List.take_of_length_le (by omega),List.take_of_length_le (by omega)]
      rw [this];omega
theorem B7q {w:World} {B B':Nat} {e:TypeId} {sz:Nat} {v:Value} {n:Nat} {xs:List Value} (h:w.ownsRow B e sz v n xs) (hb:∀ b,v.ownBlock=some b→B'≤b):w.ownsRow B' e sz v n xs:=by
  refine⟨h.1,?_⟩
  rcases h.2 with h2|⟨g,cap,cur,hv,hB,h3⟩
  · exact .inl h2
  · exact .inr ⟨g,cap,cur,hv,hb g (by rw [hv];rfl),h3⟩
attribute [local irreducible] E EL K Val Enters Rt Calls bodyPost Code.wp RQ
theorem A6y (k:Int) (w:World):Calls Tryz.prog 155 #[int k] w (Rt fun u w'=>u=int (invF k)∧Ext w w'):=by
  refine A6 (n:=16) (args:=[int k]) Tryz.func155 rfl Tryz.ntmps155 (by simp) ?_
  (repeat' (first|refine Sy ?_|refine Dy (fun hh=>?_) fun hh=>?_))
  all_goals first
    | exact A4 Z Z ⟨by unfold invF;congr 1;repeat' (split <;> first|omega|skip),Ext.refl _⟩
    | (exfalso;omega)
theorem P8 (lex : List En) (id : Int) (ev : Value) (w : World) (hv : Sl w ev lex) : Calls Tryz.prog 156 #[ev, int id] w (Rt fun u w' => u = int (idxE lex id) ∧ Ext w w') := by
  have hv0:=hv
  obtain⟨a,cap,rfl,hc,hm,hp⟩:=hv.sl
  refine A6 (n:=20) (args:=[.slice a lex.length cap,int id]) Tryz.func156 rfl Tryz.ntmps156 (by simp) ?_
  (repeat' (first|refine Sy ?_))
  refine B0 (ι:=Nat) (fun i=>[(0,.slice a lex.length cap),(1,int id),(5,int i)])
    (fun i wr=>i≤lex.length∧Ext w wr∧∀(j:Nat) (x:En),j<i→lex[j]?=some x→x.id≠id) (fun i=>lex.length-i) 0
    ⟨rfl,rfl,rfl,trivial⟩ ⟨Nat.zero_le _,Ext.refl _,fun j x hj=>absurd hj (by omega)⟩ ?_
  rintro i wr ⟨hi,hx,hall⟩
  by_cases hlt:i<lex.length
  · obtain⟨b,off,rfl⟩:=hp (by omega)
    obtain⟨x,hx1⟩:∃ x,lex[i]?=some x:=⟨_,List.getElem?_eq_getElem (by omega)⟩
    obtain⟨d0,f0,d1,f1,d2,f2,d3,f3,d4,f4,hat2,_⟩:=D3 (hv0.ext hx) hx1
    (repeat' (first|refine eV Z Z (A0 (m:=i) Z Z Z Z (by omega)) ?_|refine Ly ?_|refine Dy (fun hh=>?_) fun hh=>?_))
    all_goals (try (exfalso;omega))
    · have:idxE lex id=(i:Int):=by
        unfold idxE
        obtain⟨hl,he⟩:=List.getElem?_eq_some_iff.1 hx1
        have:lex.findIdx? (fun e=>e.id==id)=some i:=by
          rw [List.findIdx?_eq_some_iff_getElem]
          refine⟨hl,by rw [he];simpa using hh,fun j hj=>?_⟩
          have:=hall j _ hj (List.getElem?_eq_getElem (by omega))
          simpa using this
        rw [this]
      exact A4 Z Z ⟨by rw [this],hx⟩
    · have hne:¬ x.id=id:=hh
      refine B3 (i+1) ⟨rfl,rfl,rfl,trivial⟩ ⟨by omega,hx,fun j y hj hy=>?_⟩ (by omega)
      by_cases e:j=i
      · subst e;rw [hx1] at hy;cases hy;exact hne
      · exact hall j y (by omega) hy
  · have:idxE lex id = -1:=P5 (by
      unfold getE
      rw [List.find?_eq_none]
      intro x hx
      obtain⟨j,hj⟩:=List.getElem?_of_mem hx
      have:=hall j x (by have:=(List.getElem?_eq_some_iff.1 hj).1;omega) hj
      simpa using this)
    (repeat' (first|refine Sy ?_|refine Dy (fun hh=>?_) fun hh=>?_))
    all_goals (try (exfalso;omega))
    exact A4 Z Z ⟨by rw [this],hx⟩
theorem A1a (l:List Int) (x:Int) (v:Value) (w:World) (hv:Sl w v l):Calls Tryz.prog 158 #[v,int x] w (Rt fun u w'=>u=.bool (decide (x∈l))∧Ext w w'):=by
  have hv0:=hv
  obtain⟨a,cap,rfl,hc,hm,hp⟩:=hv.sl
  refine A6 (n:=18) (args:=[.slice a l.length cap,int x]) Tryz.func158 rfl Tryz.ntmps158 (by simp) ?_
  (repeat' (first|refine Sy ?_))
  refine B0 (ι:=Nat) (fun i=>[(0,.slice a l.length cap),(1,int x),(5,int i)])
    (fun i wr=>i≤l.length∧Ext w wr∧∀(j:Nat) (y:Int),j<i→l[j]?=some y→y≠x) (fun i=>l.length-i) 0
    ⟨rfl,rfl,rfl,trivial⟩ ⟨Nat.zero_le _,Ext.refl _,fun j x hj=>absurd hj (by omega)⟩ ?_
  rintro i wr ⟨hi,hx,hall⟩
  by_cases hlt:i<l.length
  · obtain⟨b,off,rfl⟩:=hp (by omega)
    obtain⟨y,hy1⟩:∃ y,l[i]?=some y:=⟨_,List.getElem?_eq_getElem (by omega)⟩
    have hat2:=(Go.Pv.int_elem (hv0.ext hx) hy1).one
    (repeat' (first|refine eV Z Z (A0 (m:=i) Z Z Z (by first|rfl|omega) (by omega)) ?_|refine Ly ?_|refine Dy (fun hh=>?_) fun hh=>?_))
    all_goals (try (exfalso;omega))
    · have:decide (x∈l)=true:=decide_eq_true (by rw [← hh];exact List.mem_of_getElem? hy1)
      exact A4 Z Z ⟨by rw [this],hx⟩
    · have hne:¬ y=x:=hh
      refine B3 (i+1) ⟨rfl,rfl,rfl,trivial⟩ ⟨by omega,hx,fun j z hj hz=>?_⟩ (by omega)
      by_cases e:j=i
      · subst e;rw [hy1] at hz;cases hz;exact hne
      · exact hall j z (by omega) hz
  · have:decide (x∈l)=false:=decide_eq_false (fun hm=>by
      obtain⟨j,hj⟩:=List.getElem?_of_mem hm
      exact hall j x (by have:=(List.getElem?_eq_some_iff.1 hj).1;omega) hj rfl)
    (repeat' (first|refine Sy ?_|refine Dy (fun hh=>?_) fun hh=>?_))
    all_goals (try (exfalso;omega))
    exact A4 Z Z ⟨by rw [this],hx⟩
theorem ints212:Ints Tryz.prog 212 3 2:=⟨by kernel_rfl,by kernel_rfl,by kernel_rfl,by kernel_rfl,Tryz.underlying3⟩
theorem C5c {x y:Lnk}:[y.kind,y.to]=[x.kind,x.to]↔y=x:=by cases x;cases y;simp
theorem B8a (e:En) (x:Lnk) (X:List Value) (w:World) (h:Rep.at_ Tt w e X):Calls Tryz.prog 157 #[.agg X.toArray,.agg #[int x.kind,int x.to] ] w (Rt fun u w'=>u=.bool (decide (x∈e.links))∧Ext w w'):=by
  obtain⟨a0,c0,a1,c1,a2,c2,a3,c3,a4,c4,rfl,h0,h1,h2,h3,h4⟩:=K4 h
  have hv:=h3
  obtain⟨_,_,ee,_,hm,hpp⟩:=h3.sl
  cases ee
  refine A6 (n:=20) (args:=[.agg #[int e.id,.slice a0 e.form.length c0,int e.cls,.slice a1 e.alts.length c1,int e.main,.slice a2 e.senses.length c2,.slice a3 e.links.length c3,.slice a4 e.refs.length c4],.agg #[int x.kind,int x.to] ]) Tryz.func157 rfl Tryz.ntmps157 (by simp) ?_
  have hX:=Ext.refl w
  refine B4 ?_
  refine A9 ?_
  refine C2 Z Z Z Z (fun bE wE xE hbE rE=>?_)
  refine C2 Z Z Z Z (fun bX wX xX hbX rX=>?_)
  replace rE:=rE.ext xX
  replace hX:=(hX.trans xE).trans xX
  replace hv:=hv.ext hX
  (repeat' (first|refine Sy ?_))
  refine B0 (ι:=Nat) (fun i=>[(2,.pointer (some ⟨bE,0,none⟩)),(3,.pointer (some ⟨bX,0,none⟩)),(5,int i)])
    (fun i wr=>i≤e.links.length∧Ext wX wr∧∀(j:Nat) (y:Lnk),j<i→e.links[j]?=some y→y≠x) (fun i=>e.links.length-i) 0
    ⟨rfl,rfl,rfl,trivial⟩ ⟨Nat.zero_le _,Ext.refl _,fun j x hj=>absurd hj (by omega)⟩ ?_
  rintro i wr ⟨hi,hx,hall⟩
  replace hX:=hX.trans hx;replace rE:=rE.ext hx;replace rX:=rX.ext hx;replace hv:=hv.ext hx
  by_cases hlt:i<e.links.length
  · obtain⟨b,off,rfl⟩:=hpp (by omega)
    obtain⟨y,hy1⟩:∃ y,e.links[i]?=some y:=⟨_,List.getElem?_eq_getElem (by omega)⟩
    have hat2:=W6 hv hy1
    (repeat' (first|refine yV Z Z (fun _ _ _=>A0 (m:=i) Z Z Z (by first|rfl|omega) (by omega)) ?_|refine yD Z Z (fun _ _ _=>S9 [y.kind,y.to] [x.kind,x.to] ints212 rfl rfl rfl rfl rfl rfl rfl) (fun hh=>?_) (fun hh=>?_)|refine Ly ?_|refine Dy (fun hh=>?_) fun hh=>?_|refine yqY ?_|refine yqZ ?_|refine E_dq B5 (by kernel_rfl) Z ?_|refine yN Z (fun wq xq=>?_)))
    all_goals (try (exfalso;omega))
    · have:decide (x∈e.links)=true:=decide_eq_true (by rw [← C5c.1 hh];exact List.mem_of_getElem? hy1)
      exact A4 Z Z ⟨by rw [this],hX.trans xq⟩
    · have hne:¬ y=x:=fun e'=>hh (C5c.2 e')
      refine B3 (i+1) ⟨rfl,rfl,rfl,trivial⟩ ⟨by omega,hx.trans xq,fun j z hj hz=>?_⟩ (by omega)
      by_cases e':j=i
      · subst e';rw [hy1] at hz;cases hz;exact hne
      · exact hall j z (by omega) hz
  · have:decide (x∈e.links)=false:=decide_eq_false (fun hm=>by
      obtain⟨j,hj⟩:=List.getElem?_of_mem hm
      exact hall j x (by have:=(List.getElem?_eq_some_iff.1 hj).1;omega) hj rfl)
    (repeat' (first|refine Ly ?_|refine Dy (fun hh=>?_) fun hh=>?_))
    all_goals (try (exfalso;omega))
    exact A4 Z Z ⟨by rw [this],hX⟩
end
section
open Go.RowKit Go.En Go.Pv
theorem B4j {lex:List En} {id:Int} (h:getE lex id=none):A0m lex id=[]:=by unfold A0m;rw [h]
theorem B4i {lex:List En} {id:Int} {e:En} (h:getE lex id=some e):A0m lex id=e.links:=by unfold A0m;rw [h]
theorem idx_nat {lex:List En} {id:Int} (h:0≤idxE lex id):∃ q:Nat,idxE lex id=(q:Int)∧q<lex.length:=by
  cases hg:getE lex id with
  | none=>rw [P5 hg] at h;omega
  | some e=>
    obtain⟨i,h1,h2⟩:=A0o hg
    exact⟨i,h1,(List.getElem?_eq_some_iff.1 h2).1⟩
attribute [local irreducible] E EL K Val Enters Rt Calls bodyPost Code.wp RQ
structure RcG (w:World) (bM B:Nat) (n:Nat) (nv:Value) (next:List Int) (mv:Value) (s:(Int→Bool) × List Int) (wk:World):Prop where
  ext:Ext w wk
  met:Row wk bM 4 (blv n s.1)
  own:wk.ownsRow w.heap.size 3 1 mv s.2.length (s.2.map int)
  high:∀ b,mv.ownBlock=some b→B≤b
  next:SlG (fun b=>b≠bM∧b<B) wk nv next
  size:B≤wk.heap.size
theorem RcG.ext' {w:World} {bM B n:Nat} {nv mv:Value} {next:List Int} {s:(Int→Bool) × List Int} {wk wn:World} (h:RcG w bM B n nv next mv s wk) (x:Ext wk wn):RcG w bM B n nv next mv s wn:=
  ⟨h.ext.trans x,h.met.ext x,C7 h.own x,h.high,h.next.ext x,Nat.le_trans h.size x.size⟩
theorem A2s (lex:List En) (h12:∀ e∈lex,e.links.length≤12) (hn:lex.length≤5) (id kind:Int) (ev:Value) (w:World) (hv:Sl w ev lex):Calls Tryz.prog 159 #[ev,int id,int kind] w (Rt fun u w'=>Sl w' u (V3 lex id kind)∧Ext w w'):=by
  have hv0:=hv
  obtain⟨a,cap,rfl,hc,hm,hp⟩:=hv.sl
  obtain⟨n,hnl⟩:∃ n,n=lex.length:=⟨_,rfl⟩
  refine A6 (n:=110) (args:=[.slice a lex.length cap,int id,int kind]) Tryz.func159 rfl Tryz.ntmps159 (by simp) ?_
  (repeat' (first|refine EL_make1 (m:=lex.length) Z Z Z Z Z Z Z Z (by omega) (by omega) (fun bM wM hbM rM0 xM=>?_)|refine Sy ?_|refine eL Z Z Z Z Z Z Z Z (fun bS wS xS hbS rS=>?_)))
  rw [C2y] at rM0
  have hMS:bM<wM.heap.size:=rM0.lt
  have hwM:w.heap.size≤bM:=by omega
  have h0:SlG (fun b=>b≠bM) wS (.slice (some ⟨bS,0,none⟩) 1 1) [id]:=L1 (e:=3) (B:=bS) (n:=1) (css:=[[int id] ]) (K9 rS rfl (Nat.le_refl _) (by omega)) ⟨rfl,trivial⟩ (fun b hb=>by omega) rfl (by simp)
  refine B0 (ι:=Nat × Value) (fun z=>[(0,.slice a lex.length cap),(2,int kind),(7,.slice (some ⟨bM,0,none⟩) lex.length lex.length),(8,z.2),(9,int z.1)])
    (fun z wr=>z.1≤lex.length+1∧Ext w wr∧Row wr bM 4 (blv lex.length (rit lex kind id z.1).1)∧SlG (fun b=>b≠bM) wr z.2 (rit lex kind id z.1).2) (fun z=>lex.length+1-z.1) (0,.slice (some ⟨bS,0,none⟩) 1 1)
    ⟨rfl,rfl,rfl,rfl,rfl,trivial⟩ ⟨Nat.zero_le _,xM.trans xS,rM0.ext xS,h0⟩ ?_
  rintro⟨r,nv⟩ wr ⟨hr,hX,hM,hN⟩
  dsimp only at hr hX hM hN ⊢
  have hMr:=hM.lt
  by_cases hrl:r≤lex.length
  · obtain⟨NX,hNX⟩:∃ NX,NX=(rit lex kind id r).2:=⟨_,rfl⟩
    obtain⟨S0,hS0⟩:∃ S0,S0=(rit lex kind id r).1:=⟨_,rfl⟩
    have hNl:NX.length≤248832:=by
      have h1:=B1i h12 kind id r
      have h2:12 ^ r≤12 ^ 5:=Nat.pow_le_pow_right (by omega) (by omega)
      rw [hNX];omega
    have hrit:rit lex kind id (r+1)=NX.foldl (rnx lex kind) (fun p=>S0 p,[]):=by rw [hNX,hS0];rfl
    rw [← hNX] at hN
    rw [← hS0] at hM
    obtain⟨na,nc,rfl,_,hnm,hnp⟩:=hN.sl
    (repeat' (first|refine Sy ?_|refine Dy (fun hh=>?_) fun hh=>?_))
    all_goals (try (exfalso;omega))
    have hN':SlG (fun b=>b≠bM∧b<wr.heap.size) wr (.slice na NX.length nc) NX:=hN.move fun b hb hlt=>⟨⟨hb,hlt⟩,rfl⟩
    refine B0 (ι:=Nat × Value) (fun z=>[(0,.slice a lex.length cap),(2,int kind),(7,.slice (some ⟨bM,0,none⟩) lex.length lex.length),(8,.slice na NX.length nc),(9,int r),(10,z.2),(11,int z.1)])
      (fun z wk=>z.1≤NX.length∧RcG w bM wr.heap.size lex.length (.slice na NX.length nc) NX z.2 ((NX.take z.1).foldl (rnx lex kind) (fun p=>S0 p,[])) wk) (fun z=>NX.length-z.1) (0,.slice none 0 0)
      ⟨rfl,rfl,rfl,rfl,rfl,rfl,rfl,trivial⟩ ⟨Nat.zero_le _,⟨hX,by rw [List.take_zero];exact hM,⟨rfl,.inl ⟨rfl,rfl⟩⟩,fun b hb=>(by cases hb),hN',Nat.le_refl _⟩⟩ ?_
    rintro⟨i,mv⟩ wk ⟨hi,hG⟩
    dsimp only at hi hG ⊢
    by_cases hil:i<NX.length
    · obtain⟨nb,no,rfl⟩:=hnp (by omega)
      obtain⟨y,hyi⟩:∃ y,NX[i]?=some y:=⟨_,List.getElem?_eq_getElem hil⟩
      obtain⟨s,hs⟩:∃ s,s=(NX.take i).foldl (rnx lex kind) (fun p=>S0 p,[]):=⟨_,rfl⟩
      have hs1:(NX.take (i+1)).foldl (rnx lex kind) (fun p=>S0 p,[])=rnx lex kind s y:=by rw [A7f hyi,hs]
      have hsl:s.2.length≤12*i:=by
        have:=A6k h12 kind (NX.take i) (fun p=>S0 p,[])
        rw [← hs,List.length_take] at this
        simp only [List.length_nil] at this
        omega
      rw [← hs] at hG
      have hcy:=(Go.Pv.int_elem hG.next hyi).one
      have hvk:=hv0.ext hG.ext
      cases hg:getE lex y with
      | none=>
        have hst:rnx lex kind s y=s:=by unfold rnx;rw [B4j hg];rfl
        have cf:=P8 lex y _ wk hvk
        rw [P5 hg] at cf
        (repeat' (first|refine eV Z Z (A0 (m:=i) Z Z Z (by first|rfl|omega) (by omega)) ?_|(refine cqC cf A7k fun wC xC=>?_)|refine Ly ?_|refine Dy (fun hh=>?_) fun hh=>?_))
        all_goals (try (exfalso;omega))
        refine B0 (ι:=Unit) (fun _=>[(0,.slice a lex.length cap),(2,int kind),(7,.slice (some ⟨bM,0,none⟩) lex.length lex.length),(8,.slice (some ⟨nb,no,none⟩) NX.length nc),(9,int r),(10,mv),(11,int i),(12,int (-1)),(13,int 0)]) (fun _ wn=>Ext wC wn) (fun _=>0) ()
          ⟨rfl,rfl,rfl,rfl,rfl,rfl,rfl,rfl,rfl,trivial⟩ (Ext.refl _) ?_
        rintro _ wn hxn
        (repeat' (first|refine Sy ?_|refine Dy (fun hh=>?_) fun hh=>?_))
        all_goals (try (exfalso;omega))
        exact B3 (i+1,mv) ⟨rfl,rfl,rfl,rfl,rfl,rfl,rfl,trivial⟩ ⟨by dsimp only;omega,by dsimp only;rw [hs1,hst];exact hG.ext' (xC.trans hxn)⟩ (by dsimp only;omega)
      | some e=>
        obtain⟨q,hq,hqe⟩:=A0o hg
        have hql:=(List.getElem?_eq_some_iff.1 hqe).1
        have hst:rnx lex kind s y=e.links.foldl (rst lex kind) s:=by unfold rnx;rw [B4i hg]
        have hel:=h12 e (List.mem_of_getElem? hqe)
        have cf:=P8 lex y _ wk hvk
        rw [hq] at cf
        obtain⟨eb,eo,rfl⟩:=hp (by omega)
        (repeat' (first|refine eV Z Z (A0 (m:=i) Z Z Z (by first|rfl|omega) (by omega)) ?_|(refine cqC cf A7k fun wC xC=>?_)|refine Ly ?_|refine Dy (fun hh=>?_) fun hh=>?_))
        all_goals (try (exfalso;omega))
        refine B0 (ι:=Nat × Value) (fun z=>[(0,.slice (some ⟨eb,eo,none⟩) lex.length cap),(2,int kind),(7,.slice (some ⟨bM,0,none⟩) lex.length lex.length),(8,.slice (some ⟨nb,no,none⟩) NX.length nc),(9,int r),(10,z.2),(11,int i),(12,int q),(13,int z.1)])
          (fun z wn=>z.1≤e.links.length∧RcG w bM wr.heap.size lex.length (.slice (some ⟨nb,no,none⟩) NX.length nc) NX z.2 ((e.links.take z.1).foldl (rst lex kind) s) wn) (fun z=>e.links.length-z.1) (0,mv)
          ⟨rfl,rfl,rfl,rfl,rfl,rfl,rfl,rfl,rfl,trivial⟩ ⟨Nat.zero_le _,hG.ext' xC⟩ ?_
        rintro⟨k,m2⟩ wn ⟨hk,hH⟩
        dsimp only at hk hH ⊢
        have hvn:=hv0.ext hH.ext
        obtain⟨d0,f0,d1,f1,d2,f2,d3,f3,d4,f4,hat,_,_,_,_,hlk,_⟩:=D3 hvn hqe
        obtain⟨_,_,ee,_,hlm,hlp⟩:=hlk.sl
        cases ee
        by_cases hkl:k<e.links.length
        · obtain⟨lb,lo,rfl⟩:=hlp (by omega)
          obtain⟨x,hxk⟩:∃ x,e.links[k]?=some x:=⟨_,List.getElem?_eq_getElem hkl⟩
          obtain⟨t,ht⟩:∃ t,t=(e.links.take k).foldl (rst lex kind) s:=⟨_,rfl⟩
          have ht1:(e.links.take (k+1)).foldl (rst lex kind) s=rst lex kind t x:=by rw [A7f hxk,ht]
          have htl:t.2.length≤12*i+12:=by
            have:=A6l lex kind (e.links.take k) s
            rw [← ht,List.length_take] at this
            omega
          rw [← ht] at hH
          have hatx:=W6 hlk hxk
          have hXn:=Ext.refl wn
          have cx:=fun wz hz=>P8 lex x.to (.slice (some ⟨eb,eo,none⟩) lex.length cap) wz hz
          by_cases hkd:x.kind=kind∧0≤idxE lex x.to
          · obtain⟨q2,hq2,hq2l⟩:=idx_nat hkd.2
            rw [hq2] at cx
            have hcm:wn.cell? ⟨bM,0+q2*1,none⟩=some (.bool (t.1 (q2:Int))):=hH.met.cellAt (by rw [show 0+q2*1=q2 by omega];exact A5p hq2l)
            cases hmt:t.1 (q2:Int) with
            | true=>
              have hrs:rst lex kind t x=t:=by unfold rst;rw [if_neg];rintro⟨_,_,h3⟩;rw [hq2,hmt] at h3;cases h3
              rw [hmt] at hcm
              (repeat' (first|(refine C1 Z Z Z Z Z Z Z Z Z Z (fun bE wE xE hbE rE=>?_);replace hXn:=hXn.trans xE;replace hat:=hat.ext xE;replace hatx:=hatx.ext xE;replace hvn:=hvn.ext xE;replace hcm:=Ext.cell xE hcm)|refine eV Z Z (A0 (m:=q) Z Z Z (by first|rfl|omega) (by omega)) ?_|refine eV Z Z (A0 (m:=k) Z Z Z (by first|rfl|omega) (by omega)) ?_|refine eV Z Z (A0 (m:=q2) Z Z Z (by first|rfl|omega) (by omega)) ?_|(refine cqC (cx _ hvn) A7k fun wC xC=>?_;replace hXn:=hXn.trans xC;replace hat:=hat.ext xC;replace hatx:=hatx.ext xC;replace hvn:=hvn.ext xC;replace hcm:=Ext.cell xC hcm;replace rE:=rE.ext xC)|refine Ly ?_|refine Dy (fun hh=>?_) fun hh=>?_))
              all_goals (try (exfalso;omega))
              exact B3 (k+1,m2) ⟨rfl,rfl,rfl,rfl,rfl,rfl,rfl,rfl,rfl,trivial⟩ ⟨by dsimp only;omega,by dsimp only;rw [ht1,hrs];exact hH.ext' hXn⟩ (by dsimp only;omega)
            | false=>
              have hrs:rst lex kind t x=(fun p=>if p=(q2:Int) then true else t.1 p,t.2++[x.to]):=by unfold rst;rw [if_pos ⟨hkd.1,hkd.2,by rw [hq2];exact hmt⟩,hq2]
              rw [hmt] at hcm
              (repeat' ((fail_if_success (refine B4 (x:=(Code.region 17 _ _)) ?_));first|(refine C1 Z Z Z Z Z Z Z Z Z Z (fun bE wE xE hbE rE=>?_);replace hXn:=hXn.trans xE;replace hat:=hat.ext xE;replace hatx:=hatx.ext xE;replace hvn:=hvn.ext xE;replace hcm:=Ext.cell xE hcm)|refine eV Z Z (A0 (m:=q) Z Z Z (by first|rfl|omega) (by omega)) ?_|refine eV Z Z (A0 (m:=k) Z Z Z (by first|rfl|omega) (by omega)) ?_|refine eV Z Z (A0 (m:=q2) Z Z Z (by first|rfl|omega) (by omega)) ?_|(refine cqC (cx _ hvn) A7k fun wC xC=>?_;replace hXn:=hXn.trans xC;replace hat:=hat.ext xC;replace hatx:=hatx.ext xC;replace hvn:=hvn.ext xC;replace hcm:=Ext.cell xC hcm;replace rE:=rE.ext xC)|refine Ly ?_|refine Dy (fun hh=>?_) fun hh=>?_))
              all_goals (try (exfalso;omega))
              have hK:=hH.ext' hXn
              have hHs:=hH.size
              have hCs:=hXn.size
              have hne:m2.ownBlock≠some bM:=fun e'=>by have:=hK.high bM e';omega
              clear hcm hat hatx hvn
              (repeat' ((fail_if_success (refine B4 (x:=(Code.region 18 _ _)) ?_));first|refine eV Z Z (A0 (m:=q2) Z Z Z (by first|rfl|omega) (by omega)) ?_|(refine C3g hK.met hK.ext hwM rfl rfl rfl rfl rfl rfl rfl (by rw [A5o];omega) (fun wN rN xN kN=>?_))|refine Sy ?_))
              all_goals (try (exfalso;omega))
              have rEN:=kN.row rE (fun e'=>by cases e';omega)
              rw [show 0+q2*1=q2 by omega,C6i] at rN
              have hownN:=hK.own.kept kN (.inr hne)
              have hnextN:=hK.next.move (kN.mv (G:=fun b=>b≠bM∧b<wr.heap.size) fun b hb e'=>by cases e';exact hb.1 rfl)
              have hNs:=kN.size
              clear rE
              (repeat' (first|(refine D5 (news:=[int x.to]) (C7 hownN xS) (xN.trans xS) (fun _=>⟨_,_,rfl,rS.at⟩) Z Z Z Z Z Z Z Z Z (by omega) (by omega) (fun vJ wJ oJ xJ kJ hJ=>?_))|refine Ly ?_|refine eL Z Z Z Z Z Z Z Z (fun bS wS xS hbS rS=>?_)))
              all_goals (try (exfalso;omega))
              have hSs:=xS.size
              have hJs:=kJ.size
              refine B3 (k+1,vJ) ⟨rfl,rfl,rfl,rfl,rfl,rfl,rfl,rfl,rfl,trivial⟩ ⟨by dsimp only;omega,?_⟩ (by dsimp only;omega)
              dsimp only
              rw [ht1,hrs]
              refine⟨xJ,kJ.row (rN.ext xS) (fun e'=>hne e'.symm),by simpa using oJ,fun b hb=>?_,(hnextN.ext xS).move (kJ.mv (G:=fun b=>b≠bM∧b<wr.heap.size) fun b hb e'=>by have:=hK.high b e'.symm;omega),by omega⟩
              rcases hJ with h|h
              · exact hK.high b (by rw [← h];exact hb)
              · rw [h] at hb;cases hb;omega
          · have hrs:rst lex kind t x=t:=by unfold rst;rw [if_neg];rintro⟨h1,h2,_⟩;exact hkd ⟨h1,h2⟩
            obtain⟨zi,hzi⟩:∃ z,idxE lex x.to=z:=⟨_,rfl⟩
            rw [hzi] at cx hkd
            (repeat' (first|(refine C1 Z Z Z Z Z Z Z Z Z Z (fun bE wE xE hbE rE=>?_);replace hXn:=hXn.trans xE;replace hat:=hat.ext xE;replace hatx:=hatx.ext xE;replace hvn:=hvn.ext xE)|refine eV Z Z (A0 (m:=q) Z Z Z (by first|rfl|omega) (by omega)) ?_|refine eV Z Z (A0 (m:=k) Z Z Z (by first|rfl|omega) (by omega)) ?_|(refine cqC (cx _ hvn) A7k fun wC xC=>?_;replace hXn:=hXn.trans xC;replace hat:=hat.ext xC;replace hatx:=hatx.ext xC;replace hvn:=hvn.ext xC;replace rE:=rE.ext xC)|refine Ly ?_|refine Dy (fun hh=>?_) fun hh=>?_))
            all_goals (try (exfalso;omega))
            all_goals exact B3 (k+1,m2) ⟨rfl,rfl,rfl,rfl,rfl,rfl,rfl,rfl,rfl,trivial⟩ ⟨by dsimp only;omega,by dsimp only;rw [ht1,hrs];exact hH.ext' hXn⟩ (by dsimp only;omega)
        · obtain rfl:k=e.links.length:=by omega
          rw [List.take_length] at hH
          (repeat' (first|refine eV Z Z (A0 (m:=q) Z Z Z (by first|rfl|omega) (by omega)) ?_|refine Ly ?_|refine Dy (fun hh=>?_) fun hh=>?_))
          all_goals (try (exfalso;omega))
          exact B3 (i+1,m2) ⟨rfl,rfl,rfl,rfl,rfl,rfl,rfl,trivial⟩ ⟨by dsimp only;omega,by dsimp only;rw [hs1,hst];exact hH⟩ (by dsimp only;omega)
    · obtain rfl:i=NX.length:=by omega
      rw [List.take_length,← hrit] at hG
      (repeat' (first|refine Sy ?_|refine Dy (fun hh=>?_) fun hh=>?_))
      all_goals (try (exfalso;omega))
      refine B3 (r+1,mv) ⟨rfl,rfl,rfl,rfl,rfl,trivial⟩ ⟨by dsimp only;omega,hG.ext,hG.met,?_⟩ (by dsimp only;omega)
      have hml:=B1i h12 kind id (r+1)
      have h2:12 ^ (r+1)≤12 ^ 6:=Nat.pow_le_pow_right (by omega) (by omega)
      dsimp only
      exact L1 (css:=(rit lex kind id (r+1)).2.map fun z=>[int z]) (by rw [D8];exact B7q hG.own hG.high) (H1 _ _) (fun b hb=>by omega) rfl (by omega)
  · obtain rfl:r=lex.length+1:=by omega
    obtain⟨S0,hS0⟩:∃ S0,S0=(rit lex kind id (lex.length+1)).1:=⟨_,rfl⟩
    have hR:V3 lex id kind=outF S0 lex lex.length:=by rw [hS0];rfl
    rw [← hS0] at hM
    clear hN
    (repeat' (first|refine Sy ?_|refine Dy (fun hh=>?_) fun hh=>?_))
    all_goals (try (exfalso;omega))
    refine B0 (ι:=Nat × Value) (fun z=>[(0,.slice a lex.length cap),(7,.slice (some ⟨bM,0,none⟩) lex.length lex.length),(16,z.2),(17,int z.1)])
      (fun z wk=>z.1≤lex.length∧Ext wr wk∧wk.ownsRow wr.heap.size 3 1 z.2 (outF S0 lex z.1).length ((outF S0 lex z.1).map int)) (fun z=>lex.length-z.1) (0,.slice none 0 0)
      ⟨rfl,rfl,rfl,rfl,trivial⟩ ⟨Nat.zero_le _,Ext.refl _,⟨rfl,.inl ⟨rfl,rfl⟩⟩⟩ ?_
    rintro⟨i,ov⟩ wk ⟨hi,hxk,hown⟩
    dsimp only at hi hxk hown ⊢
    have hol:=C4s (S:=S0) (lex:=lex) (i:=i)
    by_cases hil:i<lex.length
    · obtain⟨eb,eo,rfl⟩:=hp (by omega)
      obtain⟨e,hei⟩:∃ e,lex[i]?=some e:=⟨_,List.getElem?_eq_getElem hil⟩
      obtain⟨d0,f0,d1,f1,d2,f2,d3,f3,d4,f4,hat,_⟩:=D3 (hv0.ext (hX.trans hxk)) hei
      have hcm:wk.cell? ⟨bM,0+i*1,none⟩=some (.bool (S0 (i:Int))):=(hM.ext hxk).cellAt (by rw [show 0+i*1=i by omega];exact A5p hil)
      have ho1:=A9n (S:=S0) hei
      cases hb:S0 (i:Int) with
      | false=>
        rw [hb] at hcm ho1
        rw [if_neg (by simp),List.append_nil] at ho1
        (repeat' (first|refine eV Z Z (A0 (m:=i) Z Z Z (by first|rfl|omega) (by omega)) ?_|refine Ly ?_|refine Dy (fun hh=>?_) fun hh=>?_))
        all_goals (try (exfalso;omega))
        exact B3 (i+1,ov) ⟨rfl,rfl,rfl,rfl,trivial⟩ ⟨by dsimp only;omega,hxk,by dsimp only;rw [ho1];exact hown⟩ (by dsimp only;omega)
      | true=>
        rw [hb] at hcm ho1
        rw [if_pos rfl] at ho1
        (repeat' (first|refine eV Z Z (A0 (m:=i) Z Z Z (by first|rfl|omega) (by omega)) ?_|(refine D5 (news:=[int e.id]) (C7 hown xS) (hxk.trans xS) (fun _=>⟨_,_,rfl,rS.at⟩) Z Z Z Z Z Z Z Z Z (by omega) (by omega) (fun vJ wJ oJ xJ kJ hJ=>?_))|refine Ly ?_|refine Dy (fun hh=>?_) fun hh=>?_|refine eL Z Z Z Z Z Z Z Z (fun bS wS xS hbS rS=>?_)))
        all_goals (try (exfalso;omega))
        exact B3 (i+1,vJ) ⟨rfl,rfl,rfl,rfl,trivial⟩ ⟨by dsimp only;omega,xJ,by dsimp only;rw [ho1];simpa using oJ⟩ (by dsimp only;omega)
    · obtain rfl:i=lex.length:=by omega
      (repeat' (first|refine Sy ?_|refine Dy (fun hh=>?_) fun hh=>?_))
      all_goals (try (exfalso;omega))
      refine A4 Z Z ⟨?_,hX.trans hxk⟩
      rw [hR]
      exact N4 (css:=(outF S0 lex lex.length).map fun z=>[int z]) (by rw [D8];exact hown) (H1 _ _) rfl (by omega)
end
end Go.Proofs.YtjicdgejhkgpgaaGreatDoor