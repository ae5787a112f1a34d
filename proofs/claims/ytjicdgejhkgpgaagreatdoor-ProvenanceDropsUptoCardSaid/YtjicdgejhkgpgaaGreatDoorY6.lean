/-
  Own text of the proof.
-/
import Derived.Test.YtjicdgejhkgpgaaGreatDoorY4
import Derived.Test.YtjicdgejhkgpgaaGreatDoorY5
import Derived.Test.YtjicdgejhkgpgaaGreatDoorYp
import Derived.Test.YtjicdgejhkgpgaaGreatDoorE
import Derived.Test.YtjicdgejhkgpgaaGreatDoorYb
import Derived.Test.YtjicdgejhkgpgaaGreatDoorY3
import Derived.Test.YtjicdgejhkgpgaaGreatDoorY0
import Derived.Test.YtjicdgejhkgpgaaGreatDoorYm
set_option linter.all false
set_option maxHeartbeats 8000000
set_option maxRecDepth 8000
namespace Go.Proofs.YtjicdgejhkgpgaaGreatDoor
open Go.RowKit Go.En Go.Pv
theorem C3t {x y:Rf} {b:Bool} (h:b=!(decide (x=y))):b=!(decide (x.rcd=y.rcd)&&decide (x.note=y.note)):=by
  rw [h];congr 1
  cases x;cases y;simp [Rf.mk.injEq]
attribute [local irreducible] E EL K Val Enters Rt Calls bodyPost Code.wp RQ
theorem A1r (xs ys:List Rf) (u v:Value) (w:World) (hu:Sl w u xs) (hv:Sl w v ys):Calls Tryz.prog 18 #[u,v] w (Rt fun r w'=>r=.bool (decide (xs=ys))∧Ext w w'):=by
  have hu0:=hu
  have hv0:=hv
  obtain⟨a,ca,rfl,_,hm,hp⟩:=hu.sl
  obtain⟨b,cb,rfl,_,hm2,hp2⟩:=hv.sl
  refine A6 (n:=26) (args:=[.slice a xs.length ca,.slice b ys.length cb]) Tryz.func18 rfl Tryz.ntmps18 (by simp) ?_
  (repeat' (first|refine Sy ?_|refine Dy (fun hh=>?_) fun hh=>?_))
  · have:decide (xs=ys)=false:=decide_eq_false (fun e=>by subst e;omega)
    exact A4 Z Z ⟨by rw [this],Ext.refl _⟩
  have hl:xs.length=ys.length:=by omega
  refine B0 (ι:=Nat) (fun i=>[(0,.slice a xs.length ca),(1,.slice b ys.length cb),(5,int i)]) (fun i wr=>i≤xs.length∧Ext w wr∧∀ j,j<i→xs[j]?=ys[j]?) (fun i=>xs.length-i) 0
    ⟨rfl,rfl,rfl,trivial⟩ ⟨Nat.zero_le _,Ext.refl _,fun _ h=>absurd h (by omega)⟩ ?_
  rintro i wr ⟨hi,hx,hall⟩
  replace hu0:=hu0.ext hx;replace hv0:=hv0.ext hx
  by_cases hlt:i<xs.length
  · obtain⟨b1,o1,rfl⟩:=hp (by omega)
    obtain⟨b2,o2,rfl⟩:=hp2 (by omega)
    obtain⟨x,hxi⟩:∃ x,xs[i]?=some x:=⟨_,List.getElem?_eq_getElem hlt⟩
    obtain⟨y,hyi⟩:∃ y,ys[i]?=some y:=⟨_,List.getElem?_eq_getElem (by omega)⟩
    have h1:=O8 hu0 hxi
    have h2:=O8 hv0 hyi
    by_cases he:x=y
    · have hr:=C3t (x:=x) (y:=y) (b:=false) (by simp [he])
      (repeat' (first|refine yV Z Z (fun _ _ _=>A0 (m:=i) Z Z Z (by first|rfl|omega) (by omega)) ?_|refine yV Z Z (fun _ _ _=>X4 two39 rfl rfl rfl hr) ?_|refine Sy ?_|refine Dy (fun hh=>?_) fun hh=>?_|refine yqY ?_|refine yqZ ?_|refine E_dq B5 (by kernel_rfl) Z ?_|refine yN Z (fun wq xq=>?_)))
      all_goals (try (exfalso;omega))
      exact B3 (i+1) ⟨rfl,rfl,rfl,trivial⟩ ⟨by omega,hx.trans xq,B1c hxi hyi he hall⟩ (by omega)
    · have hr:=C3t (x:=x) (y:=y) (b:=true) (by simp [he])
      have:decide (xs=ys)=false:=decide_eq_false (B1d hxi hyi he)
      rw [this]
      (repeat' (first|refine yV Z Z (fun _ _ _=>A0 (m:=i) Z Z Z (by first|rfl|omega) (by omega)) ?_|refine yV Z Z (fun _ _ _=>X4 two39 rfl rfl rfl hr) ?_|refine Sy ?_|refine Dy (fun hh=>?_) fun hh=>?_|refine yqY ?_|refine yqZ ?_|refine E_dq B5 (by kernel_rfl) Z ?_|refine yN Z (fun wq xq=>?_)))
      all_goals (try (exfalso;omega))
      exact A4 Z Z ⟨rfl,hx.trans xq⟩
  · have:decide (xs=ys)=true:=decide_eq_true (A6h hl (fun j hj=>hall j (by omega)))
    rw [this]
    (repeat' (first|refine Sy ?_|refine Dy (fun hh=>?_) fun hh=>?_))
    all_goals (try (exfalso;omega))
    exact A4 Z Z ⟨rfl,hx⟩
theorem B4k (ds : List Dc) (hn : ∀ d ∈ ds, Names d) (v : Value) (w : World) (hv : Sl w v ds) : Calls Tryz.prog 28 #[v] w (Rt fun u w' => (∃ b, u = .bool b ∧ (b = true → LightDs ds)) ∧ Ext w w') := by
  have hv0:=hv
  obtain⟨a,c,rfl,_,hm,hpp⟩:=hv.sl
  refine A6 (n:=39) (args:=[.slice a ds.length c]) Tryz.func28 rfl Tryz.ntmps28 (by simp) ?_
  (repeat' (first|refine Sy ?_|refine Dy (fun hh=>?_) fun hh=>?_))
  · exact A4 Z Z ⟨⟨_,rfl,fun h=>Bool.noConfusion h⟩,Ext.refl _⟩
  refine B0 (ι:=Nat) (fun i=>[(0,.slice a ds.length c),(3,int i)]) (fun i wr=>i≤ds.length∧Ext w wr∧(∀(j:Nat) (d:Dc),j<i→ds[j]?=some d→LightD d)∧∀(j:Nat) (a b:Dc),j+1<i→ds[j]?=some a→ds[j+1]?=some b→a.rid<b.rid) (fun i=>ds.length-i) 0
    ⟨rfl,rfl,trivial⟩ ⟨Nat.zero_le _,Ext.refl _,fun _ _ h=>absurd h (by omega),fun _ _ _ h=>absurd h (by omega)⟩ ?_
  rintro i wr ⟨hi,hx,hall,hup⟩
  replace hv0:=hv0.ext hx
  by_cases hlt:i<ds.length
  · obtain ⟨b, off, rfl⟩ := hpp (by omega)
    obtain⟨d,hdi⟩:∃ d,ds[i]?=some d:=⟨_,List.getElem?_eq_getElem hlt⟩
    obtain⟨a1,c1,a2,c2,a3,c3,hat,hrep⟩:=Q9 hv0 hdi
    (repeat' (first|refine Sy ?_|refine Dy (fun hh=>?_) fun hh=>?_))
    all_goals (try (exfalso;omega))
    refine E.sub (M:=[(0,.slice (some ⟨b,off,none⟩) ds.length c),(3,int i)]) ⟨rfl,rfl,trivial⟩ ?_
    refine E_two (id:=6) 7 B5 (by kernel_rfl) (by kernel_rfl) ?_
    (repeat' (first|refine yV Z Z (fun _ _ _=>A0 (m:=i) Z Z Z (by first|rfl|omega) (by omega)) ?_|refine C8 (f:=63) (fun u w'=>∃ b,u=.bool b∧(b=true→LightD d)) (fun _=>#[.agg #[int d.rid,str d.rname,int d.len,int d.day,.slice a1 d.sp.length c1,.slice a2 d.tiers.length c2,.slice a3 d.notes.length c3] ]) Z Z (fun _ _ _ _ xe h=>h) (fun _ _ _=>A5 Z Z en63) (fun wq _ xq _=>C0 (B8o d _ wq ((C5z hrep).ext xq) (hn d (List.mem_of_getElem? hdi))) (fun _ _ hh=>hh)) ?_|(refine N7 (fun u _=>∃ b,u=.bool (!b)∧(b=true→LightD d)) Z Z (fun _ _ _ _ _ h=>h) (fun w δ _ hs=>?_) ?_;(obtain⟨b,e,hb⟩:=hs 17 (by decide) _ rfl;exact⟨.bool (!b),B9k Z (by rw [← e];rfl),b,rfl,hb⟩))|(refine N7 (fun u _=>∃ b,u=.bool (!b)∧(b=true→LightD d)) Z Z (fun _ _ _ _ _ h=>h) (fun w δ _ hs=>⟨δ 18,B3e Z Z,hs 18 (by decide) _ rfl⟩) ?_)|refine J4 (fun wq δ xq hR=>?_)|refine Sy ?_|refine yqY ?_|refine yqZ ?_))
    all_goals (try (exfalso;omega))
    obtain⟨b1,h18,_⟩:=hR 18 _ rfl
    obtain⟨b2,h19,hb2⟩:=hR 19 _ rfl
    obtain⟨b3,h17,_⟩:=hR 17 _ rfl
    replace hx:=hx.trans xq;replace hv0:=hv0.ext xq;replace hat:=hat.ext xq
    simp only [mat,vG]
    rw [h17,h18,h19]
    refine K.sub (M:=[(0,.slice (some ⟨b,off,none⟩) ds.length c),(3,int i),(13,.slice (some ⟨b,off,none⟩) ds.length c),(14,int i),(15,.pointer (some ⟨b,off+i*7,none⟩)),(16,_),(17,.bool b3),(18,.bool (!b1)),(19,.bool (!b2))]) ⟨rfl,rfl,rfl,rfl,rfl,rfl,rfl,rfl,rfl,trivial⟩ ?_
    cases b2
    · refine K_pre 7 26 (by kernel_rfl) rfl rfl rfl rfl ?_
      (repeat' (first|refine Sy ?_|refine yqZ ?_|refine yN Z (fun wq xq=>?_)|refine yO Z Z ?_))
      all_goals exact A4 Z Z ⟨⟨_,rfl,fun h=>Bool.noConfusion h⟩,hx.trans xq⟩
    · have hd := hb2 rfl
      refine K_pre 7 26 (by kernel_rfl) rfl rfl rfl rfl ?_
      by_cases h0:i=0
      · subst h0
        (repeat' (first|refine yV Z Z (fun _ _ _=>A0 (m:=0) Z Z Z (by first|rfl|omega) (by omega)) ?_|refine Sy ?_|refine yqY ?_|refine yqZ ?_|refine yqX (fun hh=>?_) fun hh=>?_|refine yN Z (fun wq xq=>?_)|refine yO Z Z ?_))
        all_goals (try (exfalso;omega))
        refine B3 (0+1) ⟨rfl,rfl,trivial⟩ ⟨by omega,hx.trans xq,fun j d' hj hj'=>?_,fun j _ _ hj=>absurd hj (by omega)⟩ (by omega)
        obtain rfl:j=0:=by omega
        rw [hdi] at hj';cases hj';exact hd
      · obtain⟨p,hpi⟩:∃ p,ds[i-1]?=some p:=⟨_,List.getElem?_eq_getElem (by omega)⟩
        obtain⟨_,_,_,_,_,_,hatp,_⟩:=Q9 hv0 hpi
        (repeat' (first|refine yV Z Z (fun _ _ _=>A0 (m:=i) Z Z Z (by first|rfl|omega) (by omega)) ?_|refine yV Z Z (fun _ _ _=>A0 (m:=i-1) Z Z Z (by first|rfl|omega) (by omega)) ?_|refine Sy ?_|refine yqY ?_|refine yqZ ?_|refine yqX (fun hh=>?_) fun hh=>?_|refine yN Z (fun wq xq=>?_)|refine yO Z Z ?_))
        all_goals (try (exfalso;omega))
        · exact A4 Z Z ⟨⟨_,rfl,fun h=>Bool.noConfusion h⟩,hx.trans xq⟩
        · refine B3 (i+1) ⟨rfl,rfl,trivial⟩ ⟨by omega,hx.trans xq,fun j d' hj hj'=>?_,fun j a' b' hj hj1 hj2=>?_⟩ (by omega)
          · by_cases e2:j=i
            · subst e2;rw [hdi] at hj';cases hj';exact hd
            · exact hall j d' (by omega) hj'
          · by_cases e2:j+1=i
            · subst e2
              rw [hdi] at hj2;cases hj2
              rw [show j+1-1=j by omega,hj1] at hpi;cases hpi
              omega
            · exact hup j a' b' (by omega) hj1 hj2
  · (repeat' (first|refine Sy ?_|refine Dy (fun hh=>?_) fun hh=>?_))
    all_goals (try (exfalso;omega))
    refine A4 Z Z ⟨⟨_,rfl,fun _=>⟨by omega,fun d hd=>?_,fun j a b h1 h2=>hup j a b (by have:=(List.getElem?_eq_some_iff.1 h2).1;omega) h1 h2⟩⟩,hx⟩
    obtain⟨j,hj⟩:=List.getElem?_of_mem hd
    exact hall j d (by have:=(List.getElem?_eq_some_iff.1 hj).1;omega) hj
end Go.Proofs.YtjicdgejhkgpgaaGreatDoor
namespace Go.En
open Go Go.RowKit
section
variable {P : Program} {n : Nat} {L : List (Nat × Value)} {w : World} {o : Oper}
theorem A3o {t:TypeId} {d:TypeDesc} {x:Operand} {v:Value} [UT P t d] (hd:Y6 d=true) (ho:o.op=.makeInterface t x) (hx:ev L x=some v):Val P L w o (.iface t v):=fun ρ ha=>by
  have h1:=ha.ev (by rw [ho];simp [Op.operands]) hx
  have h3:=J8 (t:=t) (P:=P) w
  cases d <;> first|(cases hd;done)|simp [execOp,ho,Instr.makeInterface,go_sem,h1,h3]
theorem C0q {f:FuncId} {t:TypeId} {r x:Operand} {name:String} {ts:Array TypeId} {v a:Value} (ho:o.op=.call { callee:=.invoke r name,args:=#[x],argTypes:=ts })
    (hr:ev L r=some (.iface t v)) (hx:ev L x=some a) (hm:∀ w,(method (P.types.size+Made.depth) t v name).run P w=.ok (f,v) w) (he:∀ args w,(callFunc f args).run P w=.ok (.enter f args) w):Enters P L w o f #[v,a]:=fun ρ ha=>by
  have h1:=ha.ev (by rw [ho];simp [Op.operands,Call.operands]) hr
  have h2:=ha.ev (by rw [ho];simp [Op.operands,Call.operands]) hx
  have hp:Sem.run P (Sem.program Sem.pure) w=.ok P w:=rfl
  have hm':∀ w,(method (P.types.size+100) t v name).run P w=.ok (f,v) w:=hm
  simp [execOp,ho,resolve,invoke,callMethod,go_sem,h1,h2,program,Sem.run_bind,hp,hm',he]
end
end Go.En
namespace Go.Proofs.YtjicdgejhkgpgaaGreatDoor
open Go.RowKit Go.En Go.Pv
theorem B6o {g:Lg} (hok:LangOK g) (ws:List Int) (id:Int) (pv uv tv rv sv fv ev wv:Value) (w:World) (hg:LangG Tt w g pv uv tv rv sv fv ev) (hw:Sl w wv ws) :
    Calls Tryz.prog 39 #[.agg #[pv,str g.oname,uv,tv,rv,int g.net.states,sv,fv,ev],wv,int id] w (Rt fun u w'=>u=.bool (A1f g ws id)∧Ext w w'):=
  A8d (C1p hok hok.rul (A8i hok) ws id) pv uv tv rv sv fv ev wv w hg hw
def A4l (ts:List Tier) (r:Int):Int:=match ts.findIdx? (fun t=>t.role==r) with|some i=>(i:Int)|none => -1
theorem C1q {ts:List Tier} {r:Int} {i:Nat} {t:Tier} (ht:ts[i]?=some t) (hr:t.role=r) (hall:∀(j:Nat) (y:Tier),j<i→ts[j]?=some y→y.role≠r):A4l ts r=(i:Int):=by
  unfold A4l
  obtain⟨hl,he⟩:=List.getElem?_eq_some_iff.1 ht
  have:ts.findIdx? (fun t=>t.role==r)=some i:=by
    rw [List.findIdx?_eq_some_iff_getElem]
    refine⟨hl,by rw [he];simpa using hr,fun j hj=>?_⟩
    have:=hall j _ hj (List.getElem?_eq_getElem (by omega))
    simpa using this
  rw [this]
theorem C4f {ts:List Tier} {r:Int} (hall:∀(j:Nat) (y:Tier),j<ts.length→ts[j]?=some y→y.role≠r):A4l ts r = -1:=by
  unfold A4l
  have:ts.findIdx? (fun t=>t.role==r)=none:=by
    rw [List.findIdx?_eq_none_iff]
    intro t ht
    obtain⟨j,hj⟩:=List.getElem?_of_mem ht
    have:=hall j t (List.getElem?_eq_some_iff.1 hj).1 hj
    simpa using this
  rw [this]
def X2 (ds : List Dc) (g : Lg) (r : Rf) : Option (List Int) := match docF ds r.rcd with
  | none=>none
  | some d=>match getF d.notes r.note with
    | none=>none
    | some n=>if n.tier=A4l d.tiers 2∧(Q6 g.units n.text).2=0 then some (Q6 g.units n.text).1 else none
def attP (ds:List Dc) (g:Lg) (id:Int) (r:Rf):Bool:=(getE g.lex id).isSome&&(match X2 ds g r with|none=>false|some ws=>A1f g ws id)
attribute [local irreducible] E EL K Val Enters Rt Calls bodyPost Code.wp RQ
theorem B7h (ts:List Tier) (r:Int) (hr:r≠0) (v:Value) (w:World) (hv:Sl w v ts):Calls Tryz.prog 90 #[v,int r] w (Rt fun u w'=>u=int (A4l ts r)∧Ext w w'):=by
  have hv0:=hv
  obtain⟨a,c,rfl,_,hm,hpp⟩:=hv.sl
  refine A6 (n:=24) (args:=[.slice a ts.length c,int r]) Tryz.func90 rfl Tryz.ntmps90 (by simp) ?_
  (repeat' (first|refine Sy ?_))
  refine B0 (ι:=Nat) (fun i=>[(1,int r),(7,.slice a ts.length c),(8,int ts.length),(9,int i)]) (fun i wr=>i≤ts.length∧Ext w wr∧∀(j:Nat) (y:Tier),j<i→ts[j]?=some y→y.role≠r) (fun i=>ts.length-i) 0
    ⟨rfl,rfl,rfl,rfl,trivial⟩ ⟨Nat.zero_le _,Ext.refl _,fun _ _ h=>absurd h (by omega)⟩ ?_
  rintro i wr ⟨hi,hx,hall⟩
  replace hv0:=hv0.ext hx
  by_cases hlt:i<ts.length
  · obtain⟨b,off,rfl⟩:=hpp (by omega)
    obtain⟨t,hti⟩:∃ t,ts[i]?=some t:=⟨_,List.getElem?_eq_getElem hlt⟩
    have hat:=K0 hv0 hti
    by_cases h2:t.role=r
    · rw [C1q hti h2 hall]
      (repeat' (first|refine eV Z Z (A0 (m:=i) Z Z Z (by first|rfl|omega) (by omega)) ?_|(refine K5 Z Z Z Z Z Z Z Z Z Z Z Z Z Z Z (fun bX wX xX hbX rX=>?_);replace hx:=hx.trans xX)|refine Ly ?_|refine Dy (fun hh=>?_) fun hh=>?_))
      all_goals (try (exfalso;omega))
      exact A4 Z Z ⟨rfl,hx⟩
    · (repeat' (first|refine eV Z Z (A0 (m:=i) Z Z Z (by first|rfl|omega) (by omega)) ?_|(refine K5 Z Z Z Z Z Z Z Z Z Z Z Z Z Z Z (fun bX wX xX hbX rX=>?_);replace hx:=hx.trans xX)|refine Ly ?_|refine Dy (fun hh=>?_) fun hh=>?_))
      all_goals (try (exfalso;omega))
      refine B3 (i+1) ⟨rfl,rfl,rfl,rfl,trivial⟩ ⟨by omega,hx,fun j y hj hy=>?_⟩ (by omega)
      by_cases e:j=i
      · subst e;rw [hti] at hy;cases hy;exact h2
      · exact hall j y (by omega) hy
  · rw [C4f (fun j y hj hy=>hall j y (by omega) hy)]
    (repeat' (first|refine Sy ?_|refine Dy (fun hh=>?_) fun hh=>?_))
    all_goals (try (exfalso;omega))
    exact A4 Z Z ⟨rfl,hx⟩
def CallR (ds:List Dc) (g:Lg) (r:Rf) (pv uv tv rv sv fv ev:Value) (u:Value) (w:World):Prop:=
  (∃ ws wv,u=.iface 155 (.agg #[pv,str g.oname,uv,tv,rv,int g.net.states,sv,fv,ev,wv])∧Sl w wv ws∧X2 ds g r=some ws)∨(u=.iface 152 (.agg #[])∧X2 ds g r=none)
def A5f (ds:List Dc):Prop:=∀ d∈ds,∀ n∈d.notes,n.text.length≤1000000
theorem A3b {ds:List Dc} {rec:Int} {d:Dc} (h:docF ds rec=some d):d∈ds:=List.mem_of_find?_eq_some h
theorem C2q {ds:List Dc} (hTx:A5f ds) (rec id:Int):(Q7 (docD ds rec).notes id).text.length≤1000000:=by
  unfold docD Q7
  cases h:docF ds rec with
  | none=>simp [B6a,getF,A1d]
  | some d=>
    simp only [Option.getD_some]
    cases h2:getF d.notes id with
    | none=>simp [A1d]
    | some n=>exact hTx d (A3b h) n (C2j h2)
theorem C6f {ds:List Dc} {g:Lg} {r:Rf} (h:(docF ds r.rcd).isSome=false):X2 ds g r=none:=by
  unfold X2
  cases h2:docF ds r.rcd with
  | none=>rfl
  | some _=>rw [h2] at h;cases h
theorem C2x {ds:List Dc} {g:Lg} {r:Rf} (h:(getF (docD ds r.rcd).notes r.note).isSome=false):X2 ds g r=none:=by
  unfold X2
  cases h2:docF ds r.rcd with
  | none=>rfl
  | some d=>
    have:docD ds r.rcd=d:=by unfold docD;rw [h2];rfl
    rw [this] at h
    dsimp only
    cases h3:getF d.notes r.note with
    | none=>rfl
    | some _=>rw [h3] at h;cases h
theorem C6g {ds:List Dc} {g:Lg} {r:Rf} (h1:(docF ds r.rcd).isSome=true) (h2:(getF (docD ds r.rcd).notes r.note).isSome=true):X2 ds g r=if (Q7 (docD ds r.rcd).notes r.note).tier=A4l (docD ds r.rcd).tiers 2∧(Q6 g.units (Q7 (docD ds r.rcd).notes r.note).text).2=0 then some (Q6 g.units (Q7 (docD ds r.rcd).notes r.note).text).1 else none:=by
  unfold X2
  obtain⟨d,hd⟩:=Option.isSome_iff_exists.1 h1
  have e:docD ds r.rcd=d:=by unfold docD;rw [hd];rfl
  rw [e] at h2 ⊢
  obtain⟨m,hm⟩:=Option.isSome_iff_exists.1 h2
  have e2:Q7 d.notes r.note=m:=by unfold Q7;rw [hm];rfl
  rw [e2,hd]
  dsimp only
  rw [hm]
theorem B8x {ds:List Dc} (hTx:A5f ds) (g:Lg) (hok:LangOK g) (r:Rf) (dv pv uv tv rv sv fv ev:Value) (w:World) (hv:Sl w dv ds) (hg:LangG Tt w g pv uv tv rv sv fv ev) :
    Calls Tryz.prog 49 #[dv,.agg #[pv,str g.oname,uv,tv,rv,int g.net.states,sv,fv,ev],.agg #[int r.rcd,int r.note] ] w (Rt fun u w'=>CallR ds g r pv uv tv rv sv fv ev u w'∧Ext w w'):=by
  obtain⟨D,hD⟩:∃ D,D=docD ds r.rcd:=⟨_,rfl⟩
  obtain⟨X,hrepX,cd⟩:=B0g ds r.rcd dv w hv
  have hcn:=C2x (ds:=ds) (g:=g) (r:=r)
  have hca:=C6g (ds:=ds) (g:=g) (r:=r)
  have hcd:=C6f (ds:=ds) (g:=g) (r:=r)
  have htx:=C2q hTx r.rcd r.note
  rw [← hD] at hrepX hcn hca htx
  obtain⟨a1,c1,a2,c2,a3,c3,rfl,s1,s2,s3⟩:=A3c hrepX
  have hdat:DcAt w _ D:=C5z hrepX
  have cn:=fun wz (hz:Ext w wz)=>A2l D _ r.note wz (hdat.ext hz)
  rw [getR_eq] at cn
  obtain⟨N,hN⟩:∃ N,N=Q7 D.notes r.note:=⟨_,rfl⟩
  rw [← hN] at cn hca htx
  obtain⟨b1,hb1⟩:∃ b,(docF ds r.rcd).isSome=b:=⟨_,rfl⟩
  obtain⟨b2,hb2⟩:∃ b,(getF D.notes r.note).isSome=b:=⟨_,rfl⟩
  obtain⟨rI,hrI⟩:∃ z,A4l D.tiers 2=z:=⟨_,rfl⟩
  have cr:=fun wz (hz:Ext w wz)=>B7h D.tiers 2 (by decide) (.slice a2 D.tiers.length c2) wz (s2.ext hz)
  rw [hb1] at cd hcd hca
  rw [hb2] at cn hcn hca
  rw [hrI] at cr hca
  obtain⟨ze,hze⟩:∃ z,(Q6 g.units N.text).2=z:=⟨_,rfl⟩
  have c38:=fun wz (hz:Ext w wz)=>B7l g.units hok.units N.text htx g.oname uv tv wz (hg.units.ext hz)
  rw [hze] at c38 hca
  refine A6 (n:=60) (args:=[dv,.agg #[pv,str g.oname,uv,tv,rv,int g.net.states,sv,fv,ev],.agg #[int r.rcd,int r.note] ]) Tryz.func49 rfl Tryz.ntmps49 (by simp) ?_
  refine B4 ?_
  refine A9 ?_
  refine C2 Z Z Z Z (fun bG wG xG hbG rG=>?_)
  refine C2 Z Z Z Z (fun bR wR xR hbR rR=>?_)
  replace rG:=rG.ext xR
  have hX:=xG.trans xR
  have aO:At wR bG (0+1) [str g.oname,uv,tv]:=At.sub (xs:=[pv]) (ys:=[str g.oname,uv,tv]) (zs:=[rv,int g.net.states,sv,fv,ev]) rG.at
  cases b1 with
  | false=>
    (repeat' (first|(refine cqC (cd _ hX) en34 fun wC xC=>?_;replace hX:=hX.trans xC;replace rG:=rG.ext xC;replace rR:=rR.ext xC)|(refine C1 (t:=72) Z Z Z Z Z Z Z Z Z Z (fun bD wD xD hbD rD=>?_);replace hX:=hX.trans xD;replace rG:=rG.ext xD;replace rR:=rR.ext xD)|refine eV Z Z (B6 (vs:=[]) [] rfl rfl rfl) ?_|refine eV Z Z (A3o Z Z Z) ?_|refine Ly ?_))
    all_goals (try (exfalso;omega))
    exact A4 Z Z ⟨.inr ⟨rfl,hcd rfl⟩,hX⟩
  | true=>
  cases b2 with
  | false=>
    (repeat' (first|(refine yN Z (fun wq xq=>?_);replace hX:=hX.trans xq)|(refine cqC (cd _ hX) en34 fun wC xC=>?_;replace hX:=hX.trans xC;replace rG:=rG.ext xC;replace rR:=rR.ext xC)|(refine cqC (cn _ hX) en36 fun wC xC=>?_;replace hX:=hX.trans xC;replace rG:=rG.ext xC;replace rR:=rR.ext xC;replace rD:=rD.ext xC)|(refine C1 (t:=72) Z Z Z Z Z Z Z Z Z Z (fun bD wD xD hbD rD=>?_);replace hX:=hX.trans xD;replace rG:=rG.ext xD;replace rR:=rR.ext xD)|(refine C1 (t:=80) Z Z Z Z Z Z Z Z Z Z (fun bN wN xN hbN rN=>?_);replace hX:=hX.trans xN;replace rG:=rG.ext xN;replace rR:=rR.ext xN;replace rD:=rD.ext xN)|refine eV Z Z (B6 (vs:=[]) [] rfl rfl rfl) ?_|refine eV Z Z (A3o Z Z Z) ?_|refine Ly ?_|refine yqZ ?_|refine E_dq B5 (by kernel_rfl) Z ?_|refine yO Z Z ?_))
    all_goals (try (exfalso;omega))
    exact A4 Z Z ⟨.inr ⟨rfl,hcn rfl⟩,hX⟩
  | true=>
    have hca1:=hca rfl rfl
    (repeat' (first|(refine yN Z (fun wq xq=>?_);replace hX:=hX.trans xq;replace aO:=aO.ext xq;replace rG:=rG.ext xq;replace rD:=rD.ext xq;replace rN:=rN.ext xq)|(refine cqC (cd _ hX) en34 fun wC xC=>?_;replace hX:=hX.trans xC;replace aO:=aO.ext xC;replace rG:=rG.ext xC;replace rR:=rR.ext xC)|(refine cqC (cn _ hX) en36 fun wC xC=>?_;replace hX:=hX.trans xC;replace aO:=aO.ext xC;replace rG:=rG.ext xC;replace rR:=rR.ext xC;replace rD:=rD.ext xC)|(refine C1 (t:=72) Z Z Z Z Z Z Z Z Z Z (fun bD wD xD hbD rD=>?_);replace hX:=hX.trans xD;replace aO:=aO.ext xD;replace rG:=rG.ext xD;replace rR:=rR.ext xD)|(refine C1 (t:=80) Z Z Z Z Z Z Z Z Z Z (fun bN wN xN hbN rN=>?_);replace hX:=hX.trans xN;replace aO:=aO.ext xN;replace rG:=rG.ext xN;replace rR:=rR.ext xN;replace rD:=rD.ext xN)|refine C4 Z Z (fun _ _ _=>A5 Z Z en90) (fun wq xz=>cr wq (hX.trans xz)) ?_|(refine A8 Z Z (A5 Z Z en38) (c38 _ hX) (fun vC wC hC=>?_);obtain⟨⟨v38,a38,rfl,s38⟩,xC⟩:=hC;replace hX:=hX.trans xC;replace rG:=rG.ext xC;obtain⟨qa,qc,rfl,_,_,_⟩:=s38.sl)|refine eV Z Z (B6 (vs:=[]) [] rfl rfl rfl) ?_|refine eV Z Z (B6 (vs:=[(0,.agg #[pv,str g.oname,uv,tv,rv,int g.net.states,sv,fv,ev]),(1,.slice qa (Q6 g.units N.text).1.length qc)]) [pv,str g.oname,uv,tv,rv,int g.net.states,sv,fv,ev,.slice qa (Q6 g.units N.text).1.length qc] rfl rfl rfl) ?_|refine eV Z Z (A3o Z Z Z) ?_|refine Ly ?_|refine Dy (fun hh=>?_) fun hh=>?_|refine yqY ?_|refine yqZ ?_|refine yqX (fun hh=>?_) fun hh=>?_|refine E_dq B5 (by kernel_rfl) Z ?_))
    all_goals (try (exfalso;omega))
    · refine A4 (v:=.iface 152 (.agg #[])) Z Z ⟨.inr ⟨rfl,?_⟩,hX⟩
      rw [hca1,if_neg (by rintro⟨h1,h2⟩;omega)]
    · refine A4 (v:=.iface 152 (.agg #[])) Z Z ⟨.inr ⟨rfl,?_⟩,hX⟩
      rw [hca1,if_neg (by rintro⟨h1,h2⟩;omega)]
    · refine A4 (v:=.iface 155 (.agg #[pv,str g.oname,uv,tv,rv,int g.net.states,sv,fv,ev,.slice qa (Q6 g.units N.text).1.length qc])) Z Z ⟨.inl ⟨_,_,rfl,s38,?_⟩,hX⟩
      rw [hca1,if_pos ⟨by omega,by omega⟩]
theorem meth155 (v:Value) (w:World):(method (Tryz.prog.types.size+Made.depth) 155 v "langdoc/provenance.uses").run Tryz.prog w=.ok (267,v) w:=by kernel_rfl
theorem meth152 (v:Value) (w:World):(method (Tryz.prog.types.size+Made.depth) 152 v "langdoc/provenance.uses").run Tryz.prog w=.ok (266,v) w:=by kernel_rfl
theorem B4h (id:Int) (w:World):Calls Tryz.prog 266 #[.agg #[],int id] w (Rt fun u w'=>u=.bool false∧Ext w w'):=by
  refine A6 (n:=5) (args:=[.agg #[],int id]) Tryz.func266 rfl Tryz.ntmps266 (by simp) ?_
  refine B4 ?_
  refine A9 ?_
  refine C2 (cs:=[]) Z Z Z Z (fun bG wG xG hbG rG=>?_)
  (repeat' (first|refine Sy ?_))
  exact A4 Z Z ⟨rfl,xG⟩
theorem B2v {g:Lg} (hok:LangOK g) (ws:List Int) (id:Int) (pv uv tv rv sv fv ev wv:Value) (w:World) (hg:LangG Tt w g pv uv tv rv sv fv ev) (hw:Sl w wv ws):Calls Tryz.prog 267 #[.agg #[pv,str g.oname,uv,tv,rv,int g.net.states,sv,fv,ev,wv],int id] w (Rt fun u w'=>u=.bool (A1f g ws id)∧Ext w w'):=by
  refine A6 (n:=11) (args:=[.agg #[pv,str g.oname,uv,tv,rv,int g.net.states,sv,fv,ev,wv],int id]) Tryz.func267 rfl Tryz.ntmps267 (by simp) ?_
  refine B4 ?_
  refine A9 ?_
  refine C2 Z Z Z Z (fun bG wG xG hbG rG=>?_)
  have aL:At wG bG (0+0) [pv,str g.oname,uv,tv,rv,int g.net.states,sv,fv,ev]:=At.sub (xs:=[]) (ys:=[pv,str g.oname,uv,tv,rv,int g.net.states,sv,fv,ev]) (zs:=[wv]) rG.at
  have cu:=fun wz (hz:Ext w wz)=>B6o hok ws id pv uv tv rv sv fv ev wv wz (hg.ext hz) (hw.ext hz)
  (repeat' (first|(refine cqC (cu _ xG) en39 fun wC xC=>?_)|refine Ly ?_))
  exact A4 Z Z ⟨rfl,xG.trans xC⟩
theorem P2 {ds:List Dc} (hTx:A5f ds) (g:Lg) (hok:LangOK g) (id:Int) (r:Rf) (dv pv uv tv rv sv fv ev:Value) (w:World) (hv:Sl w dv ds) (hg:LangG Tt w g pv uv tv rv sv fv ev) :
    Calls Tryz.prog 14 #[dv,.agg #[pv,str g.oname,uv,tv,rv,int g.net.states,sv,fv,ev],int id,.agg #[int r.rcd,int r.note] ] w (Rt fun u w'=>u=.bool (attP ds g id r)∧Ext w w'):=by
  obtain⟨Y,hrepY,ce⟩:=A1b g.lex id ev w hg.lex
  obtain⟨e0,k0,e1,k1,e2,k2,e3,k3,e4,k4,rfl,_⟩:=K4 hrepY
  have c49:=fun wz (hz:Ext w wz)=>B8x hTx g hok r dv pv uv tv rv sv fv ev wz (hv.ext hz) (hg.ext hz)
  obtain⟨b3,hb3⟩:∃ b,(getE g.lex id).isSome=b:=⟨_,rfl⟩
  have hA:attP ds g id r=(b3&&(match X2 ds g r with|none=>false|some ws=>A1f g ws id)):=by unfold attP;rw [hb3]
  rw [hb3] at ce
  rw [hA]
  refine A6 (n:=26) (args:=[dv,.agg #[pv,str g.oname,uv,tv,rv,int g.net.states,sv,fv,ev],int id,.agg #[int r.rcd,int r.note] ]) Tryz.func14 rfl Tryz.ntmps14 (by simp) ?_
  refine B4 ?_
  refine A9 ?_
  refine C2 Z Z Z Z (fun bG wG xG hbG rG=>?_)
  refine C2 Z Z Z Z (fun bR wR xR hbR rR=>?_)
  replace rG:=rG.ext xR
  have hX:=xG.trans xR
  cases b3 with
  | false=>
    (repeat' (first|(refine cqC (ce _ hX) en48 fun wC xC=>?_;replace hX:=hX.trans xC;replace rG:=rG.ext xC;replace rR:=rR.ext xC)|(refine C1 Z Z Z Z Z Z Z Z Z Z (fun bE wE xE hbE rE=>?_);replace hX:=hX.trans xE;replace rG:=rG.ext xE;replace rR:=rR.ext xE)|refine Ly ?_))
    all_goals (try (exfalso;omega))
    exact A4 Z Z ⟨rfl,hX⟩
  | true=>
    (repeat' ((fail_if_success (refine B4 (x:=(Code.region 4 _ _)) ?_));first|(refine cqC (ce _ hX) en48 fun wC xC=>?_;replace hX:=hX.trans xC;replace rG:=rG.ext xC;replace rR:=rR.ext xC)|(refine C1 Z Z Z Z Z Z Z Z Z Z (fun bE wE xE hbE rE=>?_);replace hX:=hX.trans xE;replace rG:=rG.ext xE;replace rR:=rR.ext xE)|refine Ly ?_))
    all_goals (try (exfalso;omega))
    refine B4 ?_
    refine A9 ?_
    (repeat' (first|(refine A8 Z Z (A5 Z Z en49) (c49 _ hX) (fun vC wC hC=>?_);obtain⟨hCR,xC⟩:=hC;replace hX:=hX.trans xC;rcases hCR with⟨ws,wv,rfl,hws,hcf⟩|⟨rfl,hcf⟩)|(refine A8 Z Z (C0q rfl rfl rfl (meth155 _) en267) (B2v hok ws id pv uv tv rv sv fv ev wv _ (hg.ext hX) hws) (fun vD wD hD=>?_);obtain⟨rfl,xD⟩:=hD;replace hX:=hX.trans xD)|(refine A8 Z Z (C0q rfl rfl rfl (meth152 _) en266) (B4h id _) (fun vD wD hD=>?_);obtain⟨rfl,xD⟩:=hD;replace hX:=hX.trans xD)|refine Ly ?_))
    all_goals (rw [hcf];exact A4 Z Z ⟨rfl,hX⟩)
end Go.Proofs.YtjicdgejhkgpgaaGreatDoor
