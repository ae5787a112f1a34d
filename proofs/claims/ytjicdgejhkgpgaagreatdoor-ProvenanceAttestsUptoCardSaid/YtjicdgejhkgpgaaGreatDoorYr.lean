/-
  Own text of the proof.
-/
import Derived.Test.YtjicdgejhkgpgaaGreatDoorYq
import Derived.Test.YtjicdgejhkgpgaaGreatDoorYg
import Derived.Test.YtjicdgejhkgpgaaGreatDoorYh
import Derived.Test.YtjicdgejhkgpgaaGreatDoorYi
import Derived.Test.YtjicdgejhkgpgaaGreatDoorYk
set_option linter.all false
set_option maxHeartbeats 4000000
set_option maxRecDepth 8000
namespace Go.Proofs.YtjicdgejhkgpgaaGreatDoor
section
open Go.RowKit Go.En Go.Pv
attribute [local irreducible] E EL K Val Enters Rt Calls bodyPost Code.wp RQ
theorem any_at {α:Type} {f:α→Bool} {l:List α} {i:Nat} {x:α} (h:l[i]?=some x) (hf:f x=true):l.any f=true:=List.any_eq_true.2 ⟨x,List.mem_of_getElem? h,hf⟩
theorem any_none {α:Type} {f:α→Bool} {l:List α} (h:∀(j:Nat) (x:α),l[j]?=some x→f x=false):l.any f=false:=by
  rw [List.any_eq_false]
  intro x hx
  obtain⟨j,hj⟩:=List.getElem?_of_mem hx
  rw [h j x hj];simp
theorem uses55_any (g:Lg) (hok:LangOK g) (n:Nat) (hn:g.net.states=(n:Int)) (pv uv tv rv sv fv ev:Value) (ws:List Int) (wv:Value) (id:Int) (w:World) (hg:LangG Tt w g pv uv tv rv sv fv ev) (hw:Sl w wv ws) :
    Calls Tryz.prog 55 #[.agg #[pv,str g.oname,uv,tv,rv,int n,sv,fv,ev],wv,int id] w (Rt fun u w'=>u=.bool (Dw g ws id)∧Ext w w'):=by
  refine A7 (n:=40) (args:=[.agg #[pv,str g.oname,uv,tv,rv,int n,sv,fv,ev],wv,int id]) Tryz.func55 rfl Tryz.ntmps55 (by simp) ?_
  refine Ac ?_
  refine A8 ?_
  refine Aj Z Z Z Z (fun bG wG xG hbG rG0=>?_)
  have rG:Row wG bG 37 [pv,str g.oname,uv,tv,rv,int n,sv,fv,ev]:=rG0
  clear rG0
  by_cases hb:ws.length=0∨24<ws.length
  · have hu:Dw g ws id=false:=by
      unfold Dw
      rcases hb with h|h
      · simp [h]
      · simp [show ¬ ws.length≤24 by omega]
    rw [hu]
    (repeat' (first|(refine cqC (plain92_none g n pv uv tv rv sv fv ev ws wv wG (hw.ext xG) hb) en92 fun wC xC=>?_)|refine Ly ?_))
    refine Ae (ι:=Unit) (fun _=>[(2,int id),(7,.slice none 0 0),(8,int 0)]) (fun _ wr=>Ext wC wr) (fun _=>0) () ⟨rfl,rfl,rfl,trivial⟩ (Ext.refl _) ?_
    rintro _ wr hx
    (repeat' (first|refine Sy ?_|refine Dy (fun hh=>?_) fun hh=>?_))
    all_goals (try (exfalso;omega))
    exact A5 Z Z ⟨rfl,xG.trans (xC.trans hx)⟩
  · have h24:ws.length≤24:=by omega
    have h0:ws.length≠0:=by omega
    obtain⟨L,hL⟩:∃ L,L=furL (lxOf g ws) ws 4 []:=⟨_,rfl⟩
    have hu:Dw g ws id=L.any (Go.Pv.hitB id):=by
      unfold Dw
      rw [decide_eq_true h0,decide_eq_true h24,hL,uses_same (lx_ok hok h24) ws id];rfl
    rw [hu]
    have cp:=plain92_any g hok n hn pv uv tv rv sv fv ev ws wv wG (hg.ext xG) (hw.ext xG) h0 h24
    rw [← hL] at cp
    (repeat' (first|(refine A9 Z Z (A3 Z Z en92) cp (fun vC wC hC=>?_);obtain⟨xC,sC⟩:=hC)|refine Ly ?_))
    have sC0:=sC
    obtain⟨la,lc,rfl,_,hlm,hlp⟩:=sC.sl
    refine Ae (ι:=Nat) (fun i=>[(2,int id),(7,.slice la L.length lc),(8,int i)])
      (fun i wr=>i≤L.length∧Ext wC wr∧∀(j:Nat) (a:List Prt),j<i→L[j]?=some a→Go.Pv.hitB id a=false) (fun i=>L.length-i) 0
      ⟨rfl,rfl,rfl,trivial⟩ ⟨Nat.zero_le _,Ext.refl _,fun j a hj=>absurd hj (by omega)⟩ ?_
    rintro i wr ⟨hi,hx,hall⟩
    have hX:=xG.trans (xC.trans hx)
    by_cases hlt:i<L.length
    · obtain⟨b,off,rfl⟩:=hlp (by omega)
      obtain⟨a,ha⟩:∃ a,L[i]?=some a:=⟨_,List.getElem?_eq_getElem hlt⟩
      (repeat' (first|refine Sy ?_|refine Dy (fun hh=>?_) fun hh=>?_))
      all_goals (try (exfalso;omega))
      refine Ae (ι:=Nat) (fun k=>[(2,int id),(7,.slice (some ⟨b,off,none⟩) L.length lc),(8,int i),(9,int k)])
        (fun k wk=>k≤a.length∧Ext wr wk∧∀(j:Nat) (p:Prt),j<k→a[j]?=some p→(p.entry==id)=false) (fun k=>a.length-k) 0
        ⟨rfl,rfl,rfl,rfl,trivial⟩ ⟨Nat.zero_le _,Ext.refl _,fun j p hj=>absurd hj (by omega)⟩ ?_
      rintro k wk ⟨hk,hxk,hall2⟩
      obtain⟨aa,ac,hata,hsa⟩:=Dh (sC0.ext (hx.trans hxk)) ha
      have hsa0:=hsa
      obtain⟨_,_,_,_,hkm,hap⟩:=hsa.sl
      have hata1:=hata.one
      by_cases hlk:k<a.length
      · obtain⟨p,hp⟩:∃ p,a[k]?=some p:=⟨_,List.getElem?_eq_getElem hlk⟩
        obtain⟨ab,ao,rfl⟩:∃ ab ao,aa=some ⟨ab,ao,none⟩:=by
          obtain⟨a1,c1,e1,_,_,h1⟩:=hsa.sl
          cases e1
          exact h1 (by omega)
        have hatp:=Iu hsa0 hp
        by_cases hpe:p.entry=id
        · have:L.any (Go.Pv.hitB id)=true:=any_at ha (any_at hp (by simpa using hpe))
          rw [this]
          (repeat' (first|refine eV Z Z (A0 (m:=i) Z Z Z Z (by omega)) ?_|refine eV Z Z (A0 (m:=k) Z Z Z Z (by omega)) ?_|refine Ly ?_|refine Dy (fun hh=>?_) fun hh=>?_))
          all_goals (try (exfalso;omega))
          exact A5 Z Z ⟨rfl,hX.trans hxk⟩
        · (repeat' (first|refine eV Z Z (A0 (m:=i) Z Z Z Z (by omega)) ?_|refine eV Z Z (A0 (m:=k) Z Z Z Z (by omega)) ?_|refine Ly ?_|refine Dy (fun hh=>?_) fun hh=>?_))
          all_goals (try (exfalso;omega))
          refine Ad (k+1) ⟨rfl,rfl,rfl,rfl,trivial⟩ ⟨by omega,hxk,fun j q hj hq=>?_⟩ (by omega)
          by_cases e:j=k
          · subst e;rw [hp] at hq;cases hq;simpa using hpe
          · exact hall2 j q (by omega) hq
      · obtain rfl:k=a.length:=by omega
        have hno:Go.Pv.hitB id a=false:=any_none (fun j p hj=>hall2 j p (List.getElem?_eq_some_iff.1 hj).1 hj)
        (repeat' (first|refine eV Z Z (A0 (m:=i) Z Z Z Z (by omega)) ?_|refine Ly ?_|refine Dy (fun hh=>?_) fun hh=>?_))
        all_goals (try (exfalso;omega))
        refine Ad (i+1) ⟨rfl,rfl,rfl,trivial⟩ ⟨by omega,hx.trans hxk,fun j q hj hq=>?_⟩ (by omega)
        by_cases e:j=i
        · subst e;rw [ha] at hq;cases hq;exact hno
        · exact hall j q (by omega) hq
    · have:L.any (Go.Pv.hitB id)=false:=any_none (fun j a hj=>hall j a (by have:=(List.getElem?_eq_some_iff.1 hj).1;omega) hj)
      rw [this]
      (repeat' (first|refine Sy ?_|refine Dy (fun hh=>?_) fun hh=>?_))
      all_goals (try (exfalso;omega))
      exact A5 Z Z ⟨rfl,hX⟩
end
section
open Go.RowKit Go.En Go.Pv
def bestI:Option Nat→Int
  | some k=>(k:Int)
  | none => -1
theorem Oe {us : List Unt} (hg : ∀ u ∈ us, 1 ≤ u.graph.length) : ∀ (n k : Nat) (t : List UInt8), t.length ≤ n → t.length ≤ k → B5 us k t = B5 us n t
  | 0,0,_,_,_=>rfl
  | 0,k+1,t,h,_=>by
    have:t=[]:=List.length_eq_zero_iff.1 (by omega)
    subst this;rw [B5,B5,if_pos rfl]
  | n+1,0,t,_,h=>by
    have:t=[]:=List.length_eq_zero_iff.1 (by omega)
    subst this;rw [B5,B5,if_pos rfl]
  | n + 1, k + 1, t, h1, h2 => by
    rw [B5,B5]
    by_cases ht:t=[]
    · rw [if_pos ht,if_pos ht]
    · rw [if_neg ht,if_neg ht]
      have hpos:0<t.length:=List.length_pos_iff.2 ht
      cases Jc us t with
      | none=>rfl
      | some i=>
        dsimp only
        cases hi:us[i]? with
        | none=>rfl
        | some u=>
          dsimp only
          have hu:=hg u (List.mem_of_getElem? hi)
          have hd:(t.drop u.graph.length).length≤t.length-1:=by rw [List.length_drop];omega
          rw [Oe hg n k _ (by omega) (by omega)]
theorem Od {us:List Unt} (hg:∀ u∈us,1≤u.graph.length) {t:List UInt8} {i:Nat} {u:Unt} (ht:t≠[]) (hb:Jc us t=some i) (hi:us[i]?=some u) :
    B5 us t.length t=((i:Int)::(B5 us (t.drop u.graph.length).length (t.drop u.graph.length)).1,u.graph.length+(B5 us (t.drop u.graph.length).length (t.drop u.graph.length)).2):=by
  have hpos:0<t.length:=List.length_pos_iff.2 ht
  obtain⟨m,hm⟩:∃ m,t.length=m+1:=⟨t.length-1,by omega⟩
  have hu:=hg u (List.mem_of_getElem? hi)
  have hf:=Oe hg (t.drop u.graph.length).length m (t.drop u.graph.length) (Nat.le_refl _) (by rw [List.length_drop];omega)
  rw [hm,B5,if_neg ht,hb]
  dsimp only
  rw [hi]
  dsimp only
  rw [hf]
theorem Oc {us:List Unt} {t:List UInt8} (h:t=[]∨Jc us t=none):B5 us t.length t=([],0):=by
  cases hl:t.length with
  | zero=>rfl
  | succ m=>
    rw [B5]
    rcases h with h|h
    · rw [if_pos h]
    · by_cases ht:t=[]
      · rw [if_pos ht]
      · rw [if_neg ht,h]
theorem best_lt {us:List Unt} {s:List UInt8} {i k:Nat} (hi:i≤us.length) (h:(List.range i).foldl (C1 us s) none=some k):k<i:=by
  have:=Ib us s i hi
  obtain⟨u,h1,_⟩:=this.some_ k h
  have:=(List.getElem?_eq_some_iff.1 h1).1
  simp at this;omega
attribute [local irreducible] E EL K Val Enters Rt Calls bodyPost Code.wp RQ
theorem begins162_any (s t : List UInt8) (w : World) : Calls Tryz.prog 162 #[str s, str t] w (Rt fun u w' => u = .bool (begB s t) ∧ Ext w w') := by
  refine A7 (n:=18) (args:=[str s,str t]) Tryz.func162 rfl Tryz.ntmps162 (by simp) ?_
  by_cases hl:t.length≤s.length
  · (repeat' (first|refine eV Z Z (Ng (b:=t.length) Z Z Z Z hl) ?_|refine Sy ?_|refine Dy (fun hh=>?_) fun hh=>?_))
    all_goals (try (exfalso;omega))
    all_goals
      refine A5 Z Z ⟨?_,Ext.refl _⟩
      congr 1
      rw [Bool.eq_iff_iff,Gp]
      first
        | exact⟨fun _=>hh,fun _=>rfl⟩
        | exact⟨fun h=>(by cases h),fun h=>absurd h hh⟩
  · have:begB s t=false:=by
      cases hb:begB s t with
      | false=>rfl
      | true=>
        have:=congrArg List.length (Gp.1 hb)
        rw [List.length_take] at this;omega
    rw [this]
    (repeat' (first|refine Sy ?_|refine Dy (fun hh=>?_) fun hh=>?_))
    all_goals (try (exfalso;omega))
    exact A5 Z Z ⟨rfl,Ext.refl _⟩
theorem Pa (us : List Unt) (s : List UInt8) (nm : List UInt8) (uv tv : Value) (w : World) (hu : Sl w uv us) : Calls Tryz.prog 124 #[.agg #[str nm, uv, tv], str s] w (Rt fun u w' => u = int (bestI (Jc us s)) ∧ Ext w w') := by
  have hu0:=hu
  obtain⟨ua,uc,rfl,_,hum,hup⟩:=hu.sl
  refine A7 (n:=42) (args:=[.agg #[str nm,.slice ua us.length uc,tv],str s]) Tryz.func124 rfl Tryz.ntmps124 (by simp) ?_
  refine Ac ?_
  refine A8 ?_
  refine Aj Z Z Z Z (fun bO wO xO hbO rO0=>?_)
  have rO:Row wO bO 29 [str nm,.slice ua us.length uc,tv]:=rO0
  clear rO0
  (repeat' (first|refine Sy ?_))
  refine Ae (ι:=Nat × Option Nat) (fun z=>[(1,str s),(2,.pointer (some ⟨bO,0,none⟩)),(5,int (bestI z.2)),(6,int z.1)])
    (fun z wr=>z.1≤us.length∧Ext wO wr∧(List.range z.1).foldl (C1 us s) none=z.2) (fun z=>us.length-z.1) (0,none)
    ⟨rfl,rfl,rfl,rfl,trivial⟩ ⟨Nat.zero_le _,Ext.refl _,rfl⟩ ?_
  rintro⟨i,b⟩ wr ⟨hi,hx,hb⟩
  dsimp only at hi hx hb ⊢
  replace rO:=rO.ext hx
  have hX:=xO.trans hx
  by_cases hlt:i<us.length
  · obtain⟨ub,uo,rfl⟩:=hup (by omega)
    obtain⟨u,hu1⟩:∃ u,us[i]?=some u:=⟨_,List.getElem?_eq_getElem hlt⟩
    obtain⟨a0,c0,hat,_⟩:=Cx (hu0.ext hX) hu1
    have hsucc:(List.range (i+1)).foldl (C1 us s) none=C1 us s b i:=by rw [List.range_succ,List.foldl_append,hb];rfl
    have cb:=fun wz=>begins162_any s u.graph wz
    cases hbg:begB s u.graph with
    | false=>
      rw [hbg] at cb
      have hst:C1 us s b i=b:=by unfold C1;rw [hu1];dsimp only;rw [hbg];rfl
      (repeat' (first|refine eV Z Z (A0 (m:=i) Z Z Z Z (by omega)) ?_|(refine cqC (cb _) en162 fun wC xC=>?_;replace rO:=rO.ext xC;replace hx:=hx.trans xC)|refine Ly ?_|refine Dy (fun hh=>?_) fun hh=>?_))
      all_goals (try (exfalso;omega))
      exact Ad (i+1,b) ⟨rfl,rfl,rfl,rfl,trivial⟩ ⟨by dsimp only;omega,hx,by dsimp only;rw [hsucc,hst]⟩ (by dsimp only;omega)
    | true=>
      rw [hbg] at cb
      cases b with
      | none=>
        have hst:C1 us s none i=some i:=by unfold C1;rw [hu1];dsimp only;rw [hbg];rfl
        have hI:bestI none = -1:=rfl
        rw [hI]
        (repeat' (first|refine eV Z Z (A0 (m:=i) Z Z Z Z (by omega)) ?_|(refine cqC (cb _) en162 fun wC xC=>?_;replace rO:=rO.ext xC;replace hx:=hx.trans xC)|refine Ly ?_|refine Dy (fun hh=>?_) fun hh=>?_))
        all_goals (try (exfalso;omega))
        exact Ad (i+1,some i) ⟨rfl,rfl,rfl,rfl,trivial⟩ ⟨by dsimp only;omega,hx,by dsimp only;rw [hsucc,hst]⟩ (by dsimp only;omega)
      | some m=>
        have hmi:=best_lt hi hb
        obtain⟨v,hv1⟩:∃ v,us[m]?=some v:=⟨_,List.getElem?_eq_getElem (by omega)⟩
        have hI:bestI (some m)=(m:Int):=rfl
        rw [hI]
        have hst:C1 us s (some m) i=if v.graph.length<u.graph.length then some i else some m:=by unfold C1;rw [hu1];dsimp only;rw [hbg,if_pos rfl,hv1]
        (repeat' (first|refine eV Z Z (A0 (m:=i) Z Z Z Z (by omega)) ?_|refine eV Z Z (A0 (m:=m) Z Z Z Z (by omega)) ?_|(refine cqC (cb _) en162 fun wC xC=>?_;replace rO:=rO.ext xC;replace hx:=hx.trans xC;obtain⟨a2,c2,hatv,_⟩:=Cx (hu0.ext (xO.trans hx)) hv1)|refine Ly ?_|refine Dy (fun hh=>?_) fun hh=>?_))
        all_goals (try (exfalso;omega))
        · rw [if_pos (by omega)] at hst
          exact Ad (i+1,some i) ⟨rfl,rfl,rfl,rfl,trivial⟩ ⟨by dsimp only;omega,hx,by dsimp only;rw [hsucc,hst]⟩ (by dsimp only;omega)
        · rw [if_neg (by omega)] at hst
          exact Ad (i+1,some m) ⟨rfl,rfl,rfl,rfl,trivial⟩ ⟨by dsimp only;omega,hx,by dsimp only;rw [hsucc,hst]⟩ (by dsimp only;omega)
  · obtain rfl:i=us.length:=by omega
    have:Jc us s=b:=hb
    rw [this]
    (repeat' (first|refine Ly ?_|refine Dy (fun hh=>?_) fun hh=>?_))
    all_goals (try (exfalso;omega))
    exact A5 Z Z ⟨rfl,hX⟩
end
section
open Go.RowKit Go.En Go.Pv
theorem Hd {us : List Unt} (hg : ∀ u ∈ us, 1 ≤ u.graph.length) : ∀ (k : Nat) (t : List UInt8), (B5 us k t).1.length ≤ k ∧ ∀ z ∈ (B5 us k t).1, 0 ≤ z ∧ z < (us.length : Int)
  | 0,_=>⟨Nat.le_refl _,fun z hz=>by cases hz⟩
  | k + 1, t => by
    rw [B5]
    split
    · exact⟨by simp,fun z hz=>by cases hz⟩
    · cases Jc us t with
      | none=>exact⟨by simp,fun z hz=>by cases hz⟩
      | some i=>
        dsimp only
        cases hi:us[i]? with
        | none=>exact⟨by simp,fun z hz=>by cases hz⟩
        | some u=>
          dsimp only
          obtain⟨h1,h2⟩:=Hd hg k (t.drop u.graph.length)
          refine⟨by rw [List.length_cons];omega,fun z hz=>?_⟩
          rcases List.mem_cons.1 hz with rfl|hz
          · have:=(List.getElem?_eq_some_iff.1 hi).1;omega
          · exact h2 z hz
theorem flat_le {α β:Type} {f:α→List β} {c:Nat}:∀ {l:List α},(∀ x∈l,(f x).length≤c)→(l.flatMap f).length≤l.length*c
  | [],_=>by simp
  | x::r,h=>by
    have:=flat_le (l:=r) (fun y hy=>h y (List.mem_cons_of_mem _ hy))
    have:=h x List.mem_cons_self
    rw [List.flatMap_cons,List.length_append,List.length_cons,Nat.add_mul];omega
attribute [local irreducible] E EL K Val Enters Rt Calls bodyPost Code.wp RQ
theorem units91_any (us:List Unt) (hg:∀ u∈us,1≤u.graph.length∧u.graph.length≤32) (s:List UInt8) (hs:s.length≤1000000) (nm:List UInt8) (uv tv:Value) (w:World) (hu:Sl w uv us):Calls Tryz.prog 91 #[.agg #[str nm,uv,tv],str s] w (Rt fun u w'=>(∃ v,u=.tuple #[v,int (B5 us s.length s).2]∧Sl w' v (B5 us s.length s).1)∧Ext w w'):=by
  have hu0:=hu
  have hg1:∀ u∈us,1≤u.graph.length:=fun u hu=>(hg u hu).1
  obtain⟨ua,uc,rfl,_,hum,hup⟩:=hu.sl
  refine A7 (n:=37) (args:=[.agg #[str nm,.slice ua us.length uc,tv],str s]) Tryz.func91 rfl Tryz.ntmps91 (by simp) ?_
  refine Ac ?_
  refine A8 ?_
  refine Aj Z Z Z Z (fun bO wO xO hbO rO0=>?_)
  have rO:Row wO bO 29 [str nm,.slice ua us.length uc,tv]:=rO0
  clear rO0
  have hbOl:=rO.lt
  obtain⟨U,hU⟩:∃ U,U=B5 us s.length s:=⟨_,rfl⟩
  have hUl:=(Hd hg1 s.length s).1
  rw [← hU] at hUl ⊢
  (repeat' (first|refine Sy ?_))
  refine Ae (ι:=Nat × Value × List Int) (fun z=>[(1,str s),(2,.pointer (some ⟨bO,0,none⟩)),(6,z.2.1),(7,int z.1)])
    (fun z wr=>z.1≤s.length∧Ext wO wr∧wr.ownsRow wO.heap.size 3 1 z.2.1 z.2.2.length (z.2.2.map int)∧z.2.2++(B5 us (s.drop z.1).length (s.drop z.1)).1=U.1∧z.1+(B5 us (s.drop z.1).length (s.drop z.1)).2=U.2) (fun z=>s.length-z.1) (0,.slice none 0 0,[])
    ⟨rfl,rfl,rfl,rfl,trivial⟩ ⟨Nat.zero_le _,Ext.refl _,World.ownsRow_nil _ _ _ _,by rw [List.drop_zero,hU];rfl,by rw [List.drop_zero,hU,Nat.zero_add]⟩ ?_
  rintro⟨i,vO,o⟩ wr ⟨hi,hx,hown,h1,h2⟩
  dsimp only at hi hx hown h1 h2 ⊢
  replace rO:=rO.ext hx
  have hX:=xO.trans hx
  have hol:o.length≤s.length:=by have:=congrArg List.length h1;rw [List.length_append] at this;omega
  by_cases hlt:i<s.length
  · have hne:s.drop i≠[]:=fun e=>by have:=congrArg List.length e;rw [List.length_drop] at this;simp at this;omega
    have cl:=fun wz (xz:Ext wr wz)=>Pa us (s.drop i) nm _ tv wz (hu0.ext (hX.trans xz))
    cases hb:Jc us (s.drop i) with
    | none=>
      rw [hb] at cl
      rw [Oc (.inr hb)] at h1 h2
      rw [List.append_nil] at h1
      have hI:bestI none = -1:=rfl
      rw [hI] at cl
      (repeat' (first|refine yV Z Z (fun _ _ _=>Ie (a:=i) Z Z Z Z (by omega)) ?_|refine An Z Z (fun _ _ _=>A3 Z Z en124) cl ?_|refine Sy ?_|refine Dy (fun hh=>?_) fun hh=>?_|refine yqY ?_|refine yqZ ?_|refine eL Z Z Z Z Z Z Z Z (fun bS wS xS hbS rS=>?_)|refine E_dq Aa (by kernel_rfl) Z ?_|refine yN Z (fun wq xq=>?_)))
      all_goals (try (exfalso;omega))
      rw [← h1,← h2]
      exact Hg Z Z Z ⟨⟨_,rfl,Ce (css:=o.map fun z=>[int z]) (by rw [Av];exact Ak hown xq) (B4 _ _) Z (by omega)⟩,hX.trans xq⟩
    | some m=>
      rw [hb] at cl
      have hI:bestI (some m)=(m:Int):=rfl
      rw [hI] at cl
      obtain⟨u,hu1,hbg,_⟩:=(best_is us (s.drop i)).some_ m hb
      have hml:=(List.getElem?_eq_some_iff.1 hu1).1
      have hgu:=hg u (List.mem_of_getElem? hu1)
      have hgl:u.graph.length≤(s.drop i).length:=by have:=congrArg List.length (Gp.1 hbg);rw [List.length_take] at this;omega
      rw [List.length_drop] at hgl
      obtain⟨ub,uo,rfl⟩:=hup (by omega)
      rw [Od hg1 hne hb hu1] at h1 h2
      dsimp only at h1 h2
      rw [List.drop_drop] at h1 h2
      (repeat' (first|(refine yN Z (fun wq xq=>?_);replace rO:=rO.ext xq;replace hx:=hx.trans xq;replace hown:=Ak hown xq)|refine yV Z Z (fun _ _ _=>Ie (a:=i) Z Z Z Z (by omega)) ?_|refine An Z Z (fun _ _ _=>A3 Z Z en124) cl ?_|refine eV Z Z (A0 (m:=m) Z Z Z Z (by omega)) ?_|(refine Ay (news:=[int m]) (Ak hown xS) (hx.trans xS) (fun _=>⟨_,_,rfl,rS.at⟩) Z Z Z Z Z Z Z Z Z (by omega) (by omega) (fun vJ wJ oJ xJ kJ hJ=>?_);obtain⟨a0,c0,hatu,_⟩:=Cx (hu0.ext (xO.trans xJ)) hu1;replace rO:=kJ.row (rO.ext xS) (fun e=>by have:=(hown.lt bO e.symm).1;omega))|refine Ly ?_|refine Dy (fun hh=>?_) fun hh=>?_|refine yqY ?_|refine yqZ ?_|refine eL Z Z Z Z Z Z Z Z (fun bS wS xS hbS rS=>?_)|refine E_dq Aa (by kernel_rfl) Z ?_))
      all_goals (try (exfalso;omega))
      refine Ad (i+u.graph.length,vJ,o++[(m:Int)]) ⟨rfl,rfl,rfl,by rfl,trivial⟩ ⟨by dsimp only;omega,xJ,?_,?_,?_⟩ (by dsimp only;omega)
      · dsimp only;simpa using oJ
      · dsimp only
        rw [List.append_assoc]
        exact h1
      · dsimp only;omega
  · obtain rfl:i=s.length:=by omega
    rw [List.drop_length] at h1 h2
    have e0:B5 us ([]:List UInt8).length []=([],0):=rfl
    rw [e0] at h1 h2
    rw [List.append_nil] at h1
    (repeat' (first|refine Sy ?_|refine Dy (fun hh=>?_) fun hh=>?_))
    all_goals (try (exfalso;omega))
    rw [← h1,← h2]
    exact Hg Z Z Z ⟨⟨_,rfl,Ce (css:=o.map fun z=>[int z]) (by rw [Av];exact hown) (B4 _ _) Z (by omega)⟩,hX⟩
theorem read54_any (us:List Unt) (hg:∀ u∈us,1≤u.graph.length∧u.graph.length≤32∧u.segs.length≤3) (s:List UInt8) (hs:s.length≤1000000) (nm:List UInt8) (uv tv:Value) (w:World) (hu:Sl w uv us):Calls Tryz.prog 54 #[.agg #[str nm,uv,tv],str s] w (Rt fun u w'=>(∃(v:Value) (a:Int),u=.tuple #[v,int a,int (Bm us s).2]∧Sl w' v (Bm us s).1)∧Ext w w'):=by
  have hu0:=hu
  have hg2:∀ u∈us,1≤u.graph.length∧u.graph.length≤32:=fun u hu=>⟨(hg u hu).1,(hg u hu).2.1⟩
  have hg1:∀ u∈us,1≤u.graph.length:=fun u hu=>(hg u hu).1
  obtain⟨ua,uc,rfl,_,hum,hup⟩:=hu.sl
  refine A7 (n:=45) (args:=[.agg #[str nm,.slice ua us.length uc,tv],str s]) Tryz.func54 rfl Tryz.ntmps54 (by simp) ?_
  refine Ac ?_
  refine A8 ?_
  refine Aj Z Z Z Z (fun bO wO xO hbO rO0=>?_)
  have rO:Row wO bO 29 [str nm,.slice ua us.length uc,tv]:=rO0
  clear rO0
  by_cases h0:s=[]
  · have hr:Bm us s=([],4):=by unfold Bm;rw [if_pos h0]
    rw [hr]
    subst h0
    (repeat' (first|refine Sy ?_|refine Dy (fun hh=>?_) fun hh=>?_))
    all_goals (try (exfalso;omega))
    all_goals first
      | exact Mw Z Z Z Z ⟨⟨_,_,rfl,SlG.nil⟩,xO⟩
      | exact absurd hh (by simp)
      | exact absurd rfl (by assumption)
  · obtain⟨U,hU⟩:∃ U,U=B5 us s.length s:=⟨_,rfl⟩
    have hUl:=Hd hg1 s.length s
    rw [← hU] at hUl
    have cu:=units91_any us hg2 s hs nm _ tv wO (hu0.ext xO)
    rw [← hU] at cu
    (repeat' ((fail_if_success (refine Ac (x:=(Code.region 4 _ _)) ?_));first|(refine A9 Z Z (A3 Z Z en91) cu (fun vC wC hC=>?_);obtain⟨⟨v,rfl,sC⟩,xC⟩:=hC;replace rO:=rO.ext xC)|refine Ly ?_|refine Dy (fun hh=>?_) fun hh=>?_))
    all_goals (try (exact absurd (by assumption) h0))
    all_goals (try (exfalso;omega))
    have hX:=xO.trans xC
    by_cases hlt:U.2<s.length
    · have hr:Bm us s=([],20):=by unfold Bm;rw [if_neg h0,← hU];dsimp only;rw [if_pos hlt]
      rw [hr]
      (repeat' (first|refine Sy ?_|refine Dy (fun hh=>?_) fun hh=>?_))
      all_goals (try (exfalso;omega))
      exact Mw Z Z Z Z ⟨⟨_,_,rfl,SlG.nil⟩,hX⟩
    · have hlen:U.1.length≤s.length:=hUl.1
      obtain⟨SG,hSG⟩:∃ SG:Int→List Int,SG=fun z=>match us[z.toNat]? with|some u=>u.segs|none=>[]:=⟨_,rfl⟩
      have hr:Bm us s=if 24<(U.1.flatMap SG).length then ([],5) else (U.1.flatMap SG,0):=by unfold Bm;rw [if_neg h0,← hU];dsimp only;rw [if_neg hlt,hSG];rfl
      have sC0:=sC
      obtain⟨va,vc,rfl,_,_,hvp⟩:=sC.sl
      have hSl:∀ z∈U.1,(SG z).length≤3:=fun z hz=>by
        rw [hSG];dsimp only
        cases hz2:us[z.toNat]? with
        | none=>simp
        | some u=>exact(hg u (List.mem_of_getElem? hz2)).2.2
      have hbOl:=rO.lt
      (repeat' (first|refine Sy ?_|refine Dy (fun hh=>?_) fun hh=>?_))
      all_goals (try (exfalso;omega))
      refine Ae (ι:=Nat × Value) (fun z=>[(2,.pointer (some ⟨bO,0,none⟩)),(7,.slice va U.1.length vc),(9,z.2),(10,int z.1)])
        (fun z wr=>z.1≤U.1.length∧Ext wC wr∧wr.ownsRow wC.heap.size 3 1 z.2 ((U.1.take z.1).flatMap SG).length (((U.1.take z.1).flatMap SG).map int)) (fun z=>U.1.length-z.1) (0,.slice none 0 0)
        ⟨rfl,rfl,rfl,rfl,trivial⟩ ⟨Nat.zero_le _,Ext.refl _,World.ownsRow_nil _ _ _ _⟩ ?_
      rintro⟨i,vO⟩ wr ⟨hi,hx,hown⟩
      dsimp only at hi hx hown ⊢
      replace rO:=rO.ext hx
      have hXr:=hX.trans hx
      have hol:((U.1.take i).flatMap SG).length≤i*3:=by
        have:=flat_le (l:=U.1.take i) (f:=SG) (c:=3) (fun z hz=>hSl z (List.mem_of_mem_take hz))
        rw [List.length_take] at this
        exact Nat.le_trans this (Nat.mul_le_mul_right _ (Nat.min_le_left _ _))
      by_cases hil:i<U.1.length
      · obtain⟨vb,vo,rfl⟩:=hvp (by omega)
        obtain⟨z,hz⟩:∃ z,U.1[i]?=some z:=⟨_,List.getElem?_eq_getElem hil⟩
        have hzm:=List.mem_of_getElem? hz
        have hzr:=hUl.2 z hzm
        obtain⟨m,rfl⟩:∃ m:Nat,z=(m:Int):=⟨z.toNat,by omega⟩
        obtain⟨u,hu1⟩:∃ u,us[m]?=some u:=⟨_,List.getElem?_eq_getElem (by omega)⟩
        obtain⟨ub,uo,rfl⟩:=hup (by omega)
        have hatz:=int_elem (sC0.ext hx) hz
        obtain⟨a0,c0,hatu,_,hsg⟩:=Cx (hu0.ext hXr) hu1
        have hSGm:SG (m:Int)=u.segs:=by rw [hSG];dsimp only;rw [Int.toNat_natCast,hu1]
        have hsegl:=hSl _ hzm
        rw [hSGm] at hsegl
        have htk:(U.1.take (i+1)).flatMap SG=(U.1.take i).flatMap SG++u.segs:=by
          obtain⟨h1,h2⟩:=List.getElem?_eq_some_iff.1 hz
          rw [List.take_succ_eq_append_getElem h1,h2,List.flatMap_append];simp [hSGm]
        obtain⟨ss,q1,q2⟩:=SlG.css hsg
        have fs:ss.flatten.length=u.segs.length*1:=AtsG.flat q1
        have hsi:=Hq q1
        (repeat' (first|refine yV Z Z (fun _ _ _=>A0 (m:=i) Z Z Z Z (by omega)) ?_|refine yV Z Z (fun _ _ _=>A0 (m:=m) Z Z Z Z (by omega)) ?_|(refine Ay (news:=ss.flatten) (Ak hown xq) (hx.trans xq) (fun h0=>?_) Z Z Z Z Z fs (AtsG.ones q1) Z Z (by omega) (by omega) (fun vJ wJ oJ xJ kJ hJ=>?_);(obtain⟨b,so,e,_,hat⟩:=q2 (by omega);exact⟨b,so,e,hat.ext xq⟩))|refine Sy ?_|refine Dy (fun hh=>?_) fun hh=>?_|refine yqY ?_|refine yqZ ?_|refine E_dq Aa (by kernel_rfl) Z ?_|refine yN Z (fun wq xq=>?_)))
        all_goals (try (exfalso;omega))
        refine Ad (i+1,vJ) ⟨rfl,rfl,rfl,rfl,trivial⟩ ⟨by dsimp only;omega,xJ,?_⟩ (by dsimp only;omega)
        dsimp only
        rw [htk]
        rw [hsi,Av] at oJ
        simpa using oJ
      · obtain rfl:i=U.1.length:=by omega
        rw [List.take_length] at hown hol
        obtain⟨oa,oc,hvo⟩:∃ oa oc,vO=.slice oa (U.1.flatMap SG).length oc:=by
          rcases Dl hown with⟨h1,h2,_⟩|⟨b,cap,h1,_⟩
          · exact⟨none,0,by rw [h1,h2]⟩
          · exact⟨_,_,h1⟩
        subst hvo
        by_cases h24:24<(U.1.flatMap SG).length
        · rw [if_pos h24] at hr
          rw [hr]
          (repeat' (first|refine Sy ?_|refine Dy (fun hh=>?_) fun hh=>?_))
          all_goals (try (exfalso;omega))
          exact Mw Z Z Z Z ⟨⟨_,_,rfl,SlG.nil⟩,hXr⟩
        · rw [if_neg h24] at hr
          rw [hr]
          (repeat' (first|refine Sy ?_|refine Dy (fun hh=>?_) fun hh=>?_))
          all_goals (try (exfalso;omega))
          exact Mw Z Z Z Z ⟨⟨_,_,rfl,Ce (css:=(U.1.flatMap SG).map fun z=>[int z]) (by rw [Av];exact hown) (B4 _ _) Z (by show(U.1.flatMap SG).length≤_;omega)⟩,hXr⟩
end
section
open Go.RowKit Go.En
theorem Kb.trans {g:Option Nat} {a b c:World} (h:Kb g a b) (k:Kb g b c):Kb g a c:=
  ⟨(World.grownBy.os k).trans (World.grownBy.os h),(World.grownBy.tape k).trans (World.grownBy.tape h),(World.grownBy.output k).trans (World.grownBy.output h),Nat.le_trans (Kb.size h) (Kb.size k),fun i hi hne=>(World.grownBy.block k i (Nat.lt_of_lt_of_le hi (Kb.size h)) hne).trans (World.grownBy.block h i hi hne)⟩
theorem Kb.refl (g:Option Nat) (w:World):Kb g w w:=(Ext.refl w).kb g
attribute [local irreducible] E EL K Val Enters Rt Calls bodyPost Code.wp RQ
end
section
open Go.RowKit Go.En
attribute [local irreducible] E EL K Val Enters Rt Calls bodyPost Code.wp RQ
end
section
open Go.RowKit Go.En
theorem sl_ints {G:Nat→Prop} {w:World} {a:Option Addr} {n cap:Nat} {ids:List Int} (h:SlG G w (.slice a n cap) ids) (h0:0<n):∃ b off,a=some ⟨b,off,none⟩∧At w b off (ids.map int):=by
  have hn:n=ids.length:=by obtain⟨a',c',e,_⟩:=h;cases e;rfl
  obtain⟨css,h1,h2⟩:=h.css
  have hc:=Hq h1
  subst hc
  rw [Av] at h2
  obtain⟨b,so,e,_,h3⟩:=h2 (by simp;omega)
  exact⟨b,so,e,h3⟩
theorem of_below {d:Dc} (h:LightD d) {k:Nat} {t:Tier} (ht:d.tiers[k]?=some t) (h0:t.kind≠0):∃ j:Nat,t.parent=(j:Int)∧j<k∧ofR d (k:Int)=(ofR d (j:Int)).flatMap fun p=>Ls d p.id (k:Int):=by
  have hl:=Ni ht
  have hr:=(h.tiers k t ht).par h0
  obtain⟨j,hj⟩:∃ j:Nat,t.parent=(j:Int):=⟨t.parent.toNat,by omega⟩
  obtain⟨u,hu⟩:∃ u,d.tiers[j]?=some u:=⟨_,List.getElem?_eq_getElem (by omega)⟩
  refine⟨j,hj,by omega,?_⟩
  rw [← ofN_eq h k (k+1) t ht (by omega)]
  simp only [ofN,Int.toNat_natCast]
  rw [if_pos ⟨by omega,by omega⟩,ht]
  dsimp only
  rw [if_neg h0,hj,ofN_eq h j k u hu (by omega)]
attribute [local irreducible] E EL K Val Enters Rt Calls bodyPost Code.wp RQ
end
section
open Go.RowKit Go.En
abbrev Q3:=Nat × Nat × Value
structure PhI (w0:World) (Lb:List (Nat × Value)) (QL:List Q3) (vO:Value) (tk dr:List Note) (nt:Note) (C:Nat→Prop) (δ:Nat→Value) (w:World):Prop where
  ext:Ext w0 w
  bs:∀ s v,lk Lb s=some v→δ s=v
  s5:¬ C 12→δ 5=vO
  qs:∀ t∈QL,C t.1→δ t.2.1=t.2.2
  a0:C 0→¬ C 4→w.ownsRow w0.heap.size 80 7 (δ 44) 0 []
  a6:C 6→¬ C 7→∃ b,δ 50=.slice (some ⟨b,0,none⟩) 1 1∧Row w b 80 (Be nt)
  n06:C 0→¬ C 4→C 6→(δ 44).ownBlock≠(δ 50).ownBlock
  a4:C 4→¬ C 7→w.ownsRow w0.heap.size 80 7 (δ 48) tk.length (tk.map Be).flatten
  n46:C 4→¬ C 7→C 6→(δ 48).ownBlock≠(δ 50).ownBlock
  a7:C 7→¬ C 11→w.ownsRow w0.heap.size 80 7 (δ 51) (tk.length+1) ((tk.map Be).flatten++Be nt)
  a11:C 11→w.ownsRow w0.heap.size 80 7 (δ 55) (tk.length+1+dr.length) ((tk.map Be).flatten++Be nt++(dr.map Be).flatten)
  a12:C 12→δ 5=δ 55
section
variable {w0 : World} {Lb : List (Nat × Value)} {QL : List Q3} {vO : Value} {tk dr : List Note} {nt : Note} {C C' : Nat → Prop} {δ : Nat → Value} {w w' : World} {v : Value}
end
end
section
open Go.RowKit Go.En
attribute [local irreducible] E EL K Val Enters Rt Calls bodyPost Code.wp RQ
end
end Go.Proofs.YtjicdgejhkgpgaaGreatDoor