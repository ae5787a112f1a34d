/-
  Own text of the proof.
-/
import Derived.Test.YtjicdgejhkgpgaaGreatDoorYh
import Derived.Test.YtjicdgejhkgpgaaGreatDoorYg
set_option linter.all false
set_option maxHeartbeats 4000000
set_option maxRecDepth 8000
namespace Go.Proofs.YtjicdgejhkgpgaaGreatDoor
section
open Go.RowKit Go.En
attribute [local irreducible] E EL K Val Enters Rt Calls bodyPost Code.wp RQ
theorem index_any (l : List Int) (x : Int) (v : Value) (w : World) (hv : Sl w v l) : Calls Tryz.prog 81 #[v, int x] w (Rt fun u w' => (∃ z : Int, u = int z ∧ (0 ≤ z ↔ x ∈ l)) ∧ Ext w w') := by
  refine A7 (n:=19) (args:=[v,int x]) Tryz.func81 rfl Tryz.ntmps81 (by simp) ?_
  have hv0:=hv
  obtain⟨a,cap,rfl,hc,hm,hp⟩:=hv.sl
  (repeat' (first|refine Sy ?_))
  refine Ae (ι:=Nat) (fun i=>[(0,.slice a l.length cap),(1,int x),(7,int l.length),(8,int i)])
    (fun i wr=>i≤l.length∧Ext w wr∧∀ j,j<i→∀ y,l[j]?=some y→y≠x) (fun i=>l.length-i) 0
    ⟨rfl,rfl,rfl,rfl,trivial⟩ ⟨Nat.zero_le _,Ext.refl _,fun j hj=>by omega⟩ ?_
  rintro i wr ⟨hi,hx,hall⟩
  by_cases hlt:i<l.length
  · obtain⟨b,off,rfl⟩:=hp (by omega)
    obtain⟨y,hyl⟩:∃ y,l[i]?=some y:=⟨_,List.getElem?_eq_getElem hlt⟩
    have hcx:=int_elem (hv0.ext hx) hyl
    (repeat' (first|refine eV Z Z (A0 (m:=i) Z Z Z Z hlt) ?_|refine eV Z Z (A6 Z Z Z hcx) ?_|refine Sy ?_|refine Dy (fun hh=>?_) fun hh=>?_))
    all_goals (first|(exfalso;omega)|skip)
    · refine A5 Z Z ⟨⟨_,rfl,?_⟩,hx⟩
      have he:x=y:=‹_›
      exact⟨fun _=>he▸List.mem_of_getElem? hyl,fun _=>by omega⟩
    · exact Ad (i+1) ⟨rfl,rfl,rfl,rfl,trivial⟩ ⟨by omega,hx,fun j hj z hz=>by
        by_cases hj2:j<i
        · exact hall j hj2 z hz
        · obtain rfl:j=i:=by omega
          rw [hyl] at hz;cases hz
          exact fun e=>by omega⟩ (by omega)
  · (repeat' (first|refine Sy ?_|refine Dy (fun hh=>?_) fun hh=>?_))
    all_goals (first|(exfalso;omega)|skip)
    refine A5 Z Z ⟨⟨_,rfl,?_⟩,hx⟩
    constructor
    · intro h;exfalso;omega
    · intro hq
      obtain⟨j,hj⟩:=List.getElem?_of_mem hq
      have:=(List.getElem?_eq_some_iff.1 hj).1
      exact absurd rfl (hall j (by omega) x hj)
theorem contains_any (l:List Int) (x:Int) (v:Value) (w:World) (hv:Sl w v l):Calls Tryz.prog 116 #[v,int x] w (Rt fun u w'=>u=.bool (decide (x∈l))∧Ext w w'):=by
  refine A7 (n:=9) (args:=[v,int x]) Tryz.func116 rfl Tryz.ntmps116 (by simp) ?_
  have c1:=index_any l x v w hv
  (repeat' (first|(refine A9 Z Z (A3 Z Z en81) c1 (fun vC wC hC=>?_);obtain⟨⟨z,rfl,hz⟩,xC⟩:=hC)|refine Sy ?_|refine Dy (fun hh=>?_) fun hh=>?_))
  all_goals exact A5 Z Z ⟨by congr 1;symm;first|exact decide_eq_true (hz.1 ‹_›)|exact decide_eq_false (fun e=>‹¬ _› (hz.2 e)),xC⟩
theorem has_any (l:List Int) (x:Int) (v:Value) (w:World) (hv:Sl w v l):Calls Tryz.prog 85 #[v,int x] w (Rt fun u w'=>u=.bool (decide (x∈l))∧Ext w w'):=by
  refine A7 (n:=8) (args:=[v,int x]) Tryz.func85 rfl Tryz.ntmps85 (by simp) ?_
  have c1:=contains_any l x v w hv
  (repeat' (first|(refine cqC c1 en116 fun wC xC=>?_)|refine Sy ?_))
  all_goals exact A5 Z Z ⟨rfl,xC⟩
end
section
open Go.RowKit Go.En
theorem On {α:Type} {xs ys:List α} (hl:xs.length=ys.length) (h:∀ j,j<xs.length→xs[j]?=ys[j]?):xs=ys:=List.ext_getElem? fun j=>by
  by_cases hj:j<xs.length
  · exact h j hj
  · rw [List.getElem?_eq_none (by omega),List.getElem?_eq_none (by omega)]
theorem same_no {α:Type} {xs ys:List α} {i:Nat} {x y:α} (hx:xs[i]?=some x) (hy:ys[i]?=some y) (h:¬ x=y):¬ xs=ys:=fun e=>by
  subst e;rw [hx] at hy;cases hy;exact h rfl
theorem same_nx {α:Type} {xs ys:List α} {i:Nat} {x y:α} (hx:xs[i]?=some x) (hy:ys[i]?=some y) (h:x=y) (hall:∀ j,j<i→xs[j]?=ys[j]?):∀ j,j<i+1→xs[j]?=ys[j]?:=fun j hj=>by
  by_cases hj2:j<i
  · exact hall j hj2
  · obtain rfl:j=i:=by omega
    rw [hx,hy,h]
theorem txt_elem {G:Nat→Prop} {w:World} {b off n cap:Nat} {xs:List Txt} (h:SlG G w (.slice (some ⟨b,off,none⟩) n cap) xs) {i:Nat} {x:Txt} (hx:xs[i]?=some x):w.cell? ⟨b,off+i*1,none⟩=some (str x.l):=by
  obtain⟨cs,h1,h2⟩:=h.elem hx
  rw [show cs=[str x.l] from h1] at h2
  exact h2.one
attribute [local irreducible] E EL K Val Enters Rt Calls bodyPost Code.wp RQ
theorem F2 (xs ys : List Int) (u v : Value) (w : World) (hu : Sl w u xs) (hv : Sl w v ys) : Calls Tryz.prog 21 #[u, v] w (Rt fun r w' => r = .bool (decide (xs = ys)) ∧ Ext w w') := by
  refine A7 (n:=26) (args:=[u,v]) Tryz.func21 rfl Tryz.ntmps21 (by simp) ?_
  have hu0:=hu
  have hv0:=hv
  obtain⟨a,cap,rfl,hc,hm,hp⟩:=hu.sl
  obtain⟨a',cap',rfl,hc',hm',hp'⟩:=hv.sl
  by_cases hl:xs.length=ys.length
  · (repeat' (first|refine Sy ?_|refine Dy (fun hh=>?_) fun hh=>?_))
    all_goals (first|(exfalso;omega)|skip)
    refine Ae (ι:=Nat) (fun i=>[(0,.slice a xs.length cap),(1,.slice a' ys.length cap'),(12,int xs.length),(13,int i)])
      (fun i wr=>i≤xs.length∧Ext w wr∧∀ j,j<i→xs[j]?=ys[j]?) (fun i=>xs.length-i) 0
      ⟨rfl,rfl,rfl,rfl,trivial⟩ ⟨Nat.zero_le _,Ext.refl _,fun j hj=>by omega⟩ ?_
    rintro i wr ⟨hi,hx,hall⟩
    by_cases hlt:i<xs.length
    · obtain⟨b,off,rfl⟩:=hp (by omega)
      obtain⟨b',off',rfl⟩:=hp' (by omega)
      obtain⟨x,hxx⟩:∃ x,xs[i]?=some x:=⟨_,List.getElem?_eq_getElem hlt⟩
      obtain⟨y,hyy⟩:∃ y,ys[i]?=some y:=⟨_,List.getElem?_eq_getElem (by omega)⟩
      have hcx:=int_elem (hu0.ext hx) hxx
      have hcy:=int_elem (hv0.ext hx) hyy
      by_cases hxy:x=y
      · (repeat' (first|refine yV Z Z (fun _ _ _=>A0 (m:=i) Z Z Z Z (by omega)) ?_|refine yV Z Z (fun wq _ xq=>A6 Z Z Z (xq.cell hcx)) ?_|refine yV Z Z (fun wq _ xq=>A6 Z Z Z (xq.cell hcy)) ?_|refine Sy ?_|refine Dy (fun hh=>?_) fun hh=>?_|refine yqZ ?_|refine yqX (fun hh=>?_) fun hh=>?_|refine E_dq Aa (by kernel_rfl) Z ?_|refine yN Z (fun wq xq=>?_)))
        all_goals (first|(exfalso;omega)|skip)
        all_goals exact Ad (i+1) ⟨rfl,rfl,rfl,rfl,trivial⟩ ⟨by omega,by first|exact hx.trans xq|exact hx,same_nx hxx hyy hxy hall⟩ (by omega)
      · (repeat' (first|refine yV Z Z (fun _ _ _=>A0 (m:=i) Z Z Z Z (by omega)) ?_|refine yV Z Z (fun wq _ xq=>A6 Z Z Z (xq.cell hcx)) ?_|refine yV Z Z (fun wq _ xq=>A6 Z Z Z (xq.cell hcy)) ?_|refine Sy ?_|refine Dy (fun hh=>?_) fun hh=>?_|refine yqZ ?_|refine yqX (fun hh=>?_) fun hh=>?_|refine E_dq Aa (by kernel_rfl) Z ?_|refine yN Z (fun wq xq=>?_)))
        all_goals (first|(exfalso;omega)|skip)
        all_goals exact A5 Z Z ⟨by rw [decide_eq_false (same_no hxx hyy hxy)],by first|exact hx.trans xq|exact hx⟩
    · (repeat' (first|refine Sy ?_|refine Dy (fun hh=>?_) fun hh=>?_))
      all_goals (first|(exfalso;omega)|skip)
      exact A5 Z Z ⟨by rw [decide_eq_true (On hl fun j hj=>hall j (by omega))],hx⟩
  · (repeat' (first|refine Sy ?_|refine Dy (fun hh=>?_) fun hh=>?_))
    all_goals (first|(exfalso;omega)|skip)
    exact A5 Z Z ⟨by rw [decide_eq_false (fun e=>hl (by rw [e]))],Ext.refl _⟩
theorem Jn (l : List Int) (x : Int) (v : Value) (w : World) (hv : Sl w v l) : Calls Tryz.prog 33 #[v, int x] w (Rt fun u w' => u = .bool (decide (x ∈ l)) ∧ Ext w w') := by
  refine A7 (n:=18) (args:=[v,int x]) Tryz.func33 rfl Tryz.ntmps33 (by simp) ?_
  have hv0:=hv
  obtain⟨a,cap,rfl,hc,hm,hp⟩:=hv.sl
  (repeat' (first|refine Sy ?_))
  refine Ae (ι:=Nat) (fun i=>[(0,.slice a l.length cap),(1,int x),(7,int l.length),(8,int i)])
    (fun i wr=>i≤l.length∧Ext w wr∧∀ j,j<i→∀ y,l[j]?=some y→y≠x) (fun i=>l.length-i) 0
    ⟨rfl,rfl,rfl,rfl,trivial⟩ ⟨Nat.zero_le _,Ext.refl _,fun j hj=>by omega⟩ ?_
  rintro i wr ⟨hi,hx,hall⟩
  by_cases hlt:i<l.length
  · obtain⟨b,off,rfl⟩:=hp (by omega)
    obtain⟨y,hyl⟩:∃ y,l[i]?=some y:=⟨_,List.getElem?_eq_getElem hlt⟩
    have hcx:=int_elem (hv0.ext hx) hyl
    (repeat' (first|refine eV Z Z (A0 (m:=i) Z Z Z Z hlt) ?_|refine eV Z Z (A6 Z Z Z hcx) ?_|refine Sy ?_|refine Dy (fun hh=>?_) fun hh=>?_))
    all_goals (first|(exfalso;omega)|skip)
    · refine A5 Z Z ⟨?_,hx⟩
      have he:y=x:=‹_›
      rw [decide_eq_true (he▸List.mem_of_getElem? hyl)]
    · exact Ad (i+1) ⟨rfl,rfl,rfl,rfl,trivial⟩ ⟨by omega,hx,fun j hj z hz=>by
        by_cases hj2:j<i
        · exact hall j hj2 z hz
        · obtain rfl:j=i:=by omega
          rw [hyl] at hz;cases hz
          exact fun e=>by omega⟩ (by omega)
  · (repeat' (first|refine Sy ?_|refine Dy (fun hh=>?_) fun hh=>?_))
    all_goals (first|(exfalso;omega)|skip)
    refine A5 Z Z ⟨?_,hx⟩
    rw [decide_eq_false fun hq=>?_]
    obtain⟨j,hj⟩:=List.getElem?_of_mem hq
    have:=(List.getElem?_eq_some_iff.1 hj).1
    exact hall j (by omega) x hj rfl
end
section
open Go.RowKit Go.En Go.Pv
def Id (segs:List Ph) (ws:List Int):Int:=if ws.length=0 then 4 else if 24<ws.length then 5 else if ws.all (isB segs) then 0 else 19
theorem wordE_zero {segs : List Ph} {ws : List Int} (h : Id segs ws = 0) : ∀ x ∈ ws, 1 ≤ x ∧ x ≤ (segs.length : Int) := by
  unfold Id at h
  split at h
  · cases h
  · split at h
    · cases h
    · split at h
      · rename_i h3
        rw [List.all_eq_true] at h3
        intro x hx
        have:=h3 x hx
        unfold isB at this
        simpa using this
      · cases h
attribute [local irreducible] E EL K Val Enters Rt Calls bodyPost Code.wp RQ
theorem Mp (segs:List Ph) (ws:List Int) (pv wv:Value) (w:World) (hp:Sl w pv segs) (hw:Sl w wv ws):Calls Tryz.prog 221 #[.agg #[pv],wv] w (Rt fun u w'=>u=int (Id segs ws)∧Ext w w'):=by
  have hw0:=hw
  have hp0:=hp
  obtain⟨a,c,rfl,_,hm,hpp⟩:=hw.sl
  refine A7 (n:=25) (args:=[.agg #[pv],.slice a ws.length c]) Tryz.func221 rfl Tryz.ntmps221 (by simp) ?_
  have hX:=Ext.refl w
  (repeat' (first|(refine Ao Z Z Z Z (fun bX wX xX hbX rX=>?_);replace hX:=hX.trans xX;replace hw0:=hw0.ext xX;replace hp0:=hp0.ext xX)|refine Sy ?_|refine Dy (fun hh=>?_) fun hh=>?_))
  all_goals (try (exfalso;omega))
  all_goals first
    | exact A5 Z Z ⟨by congr 1;unfold Id;rw [if_pos (by omega)],hX⟩
    | exact A5 Z Z ⟨by congr 1;unfold Id;rw [if_neg (by omega),if_pos (by omega)],hX⟩
    | skip
  have hE:Id segs ws=if ws.all (isB segs) then 0 else 19:=by unfold Id;rw [if_neg (by omega),if_neg (by omega)]
  refine Ae (ι:=Nat) (fun i=>[(1,.slice a ws.length c),(2,.pointer (some ⟨bX,0,none⟩)),(13,int ws.length),(14,int i)]) (fun i wr=>i≤ws.length∧Ext wX wr∧∀(j:Nat) (x:Int),j<i→ws[j]?=some x→isB segs x=true) (fun i=>ws.length-i) 0
    ⟨rfl,rfl,rfl,rfl,trivial⟩ ⟨Nat.zero_le _,Ext.refl _,fun _ _ h=>absurd h (by omega)⟩ ?_
  rintro i wr ⟨hi,hx,hall⟩
  replace rX:=rX.ext hx;replace hX:=hX.trans hx;replace hp0:=hp0.ext hx;replace hw0:=hw0.ext hx
  by_cases hlt:i<ws.length
  · obtain⟨b,off,rfl⟩:=hpp (by omega)
    obtain⟨x,hxi⟩:∃ x,ws[i]?=some x:=⟨_,List.getElem?_eq_getElem hlt⟩
    have hat:=(Go.Pv.int_elem hw0 hxi).one
    obtain⟨b1,hb1⟩:∃ b,isB segs x=b:=⟨_,rfl⟩
    have c1:=fun wz (xz:Ext wr wz)=>Jt segs pv x wz (hp0.ext xz)
    rw [hb1] at c1
    cases b1
    all_goals (repeat' (first|refine yV Z Z (fun _ _ _=>A0 (m:=i) Z Z Z (by first|rfl|omega) (by omega)) ?_|refine An Z Z (fun _ _ _=>A3 Z Z en190) (c1) ?_|refine Sy ?_|refine Dy (fun hh=>?_) fun hh=>?_|refine yqY ?_|refine yqZ ?_|refine E_dq Aa (by kernel_rfl) Z ?_|refine yN Z (fun wq xq=>?_)))
    all_goals (try (exfalso;omega))
    · have:ws.all (isB segs)=false:=by rw [List.all_eq_false];exact⟨x,List.mem_of_getElem? hxi,by simp [hb1]⟩
      rw [hE,this]
      exact A5 Z Z ⟨rfl,hX.trans xq⟩
    · refine Ad (i+1) ⟨rfl,rfl,rfl,rfl,trivial⟩ ⟨by omega,hx.trans xq,fun j y hj hy=>?_⟩ (by omega)
      by_cases e:j=i
      · subst e;rw [hxi] at hy;cases hy;exact hb1
      · exact hall j y (by omega) hy
  · have:ws.all (isB segs)=true:=by
      rw [List.all_eq_true];intro x hx
      obtain⟨j,hj⟩:=List.getElem?_of_mem hx
      exact hall j x (by have:=(List.getElem?_eq_some_iff.1 hj).1;omega) hj
    (repeat' (first|refine Sy ?_|refine Dy (fun hh=>?_) fun hh=>?_))
    all_goals (try (exfalso;omega))
    rw [hE,this]
    exact A5 Z Z ⟨rfl,hX⟩
theorem gloss237_any (s:List UInt8) (hs:s.length≤1048576) (w:World):Calls Tryz.prog 237 #[str s] w (Rt fun u w'=>(∃ b,u=.bool b)∧Ext w w'):=by
  refine A7 (n:=22) (args:=[str s]) Tryz.func237 rfl Tryz.ntmps237 (by simp) ?_
  (repeat' (first|refine Sy ?_))
  refine Ae (ι:=Nat) (fun i=>[(0,str s),(3,int i)]) (fun i wr=>i≤s.length∧Ext w wr) (fun i=>s.length-i) 0
    ⟨rfl,rfl,trivial⟩ ⟨Nat.zero_le _,Ext.refl _⟩ ?_
  rintro i wr ⟨hi,hx⟩
  by_cases hlt:i<s.length
  · obtain⟨c,hc⟩:∃ c,s[i]?=some c:=⟨_,List.getElem?_eq_getElem hlt⟩
    (repeat' (first|refine eV Z Z (C2 Z Z Z Z hc) ?_|refine Sy ?_|refine Dy (fun hh=>?_) fun hh=>?_))
    all_goals (try (exfalso;omega))
    all_goals first
      | exact A5 Z Z ⟨⟨_,rfl⟩,hx⟩
      | exact Ad (i+1) ⟨rfl,rfl,trivial⟩ ⟨by omega,hx⟩ (by omega)
  · obtain rfl:i=s.length:=by omega
    (repeat' (first|(refine cqC (J2 s hs _) en96 fun wC xC=>?_)|refine Sy ?_|refine Dy (fun hh=>?_) fun hh=>?_))
    all_goals (try (exfalso;omega))
    exact A5 Z Z ⟨⟨_,rfl⟩,hx.trans xC⟩
theorem has238_any (l:List Sns) (s:List UInt8) (v:Value) (w:World) (hv:Sl w v l):Calls Tryz.prog 238 #[v,str s] w (Rt fun u w'=>(∃ b,u=.bool b)∧Ext w w'):=by
  have hv0:=hv
  obtain⟨a,c,rfl,_,hm,hpp⟩:=hv.sl
  refine A7 (n:=19) (args:=[.slice a l.length c,str s]) Tryz.func238 rfl Tryz.ntmps238 (by simp) ?_
  (repeat' (first|refine Sy ?_))
  refine Ae (ι:=Nat) (fun i=>[(0,.slice a l.length c),(1,str s),(5,int i)]) (fun i wr=>i≤l.length∧Ext w wr) (fun i=>l.length-i) 0
    ⟨rfl,rfl,rfl,trivial⟩ ⟨Nat.zero_le _,Ext.refl _⟩ ?_
  rintro i wr ⟨hi,hx⟩
  by_cases hlt:i<l.length
  · obtain⟨b,off,rfl⟩:=hpp (by omega)
    obtain⟨x,hxi⟩:∃ x,l[i]?=some x:=⟨_,List.getElem?_eq_getElem hlt⟩
    have hat:=sns_elem (hv0.ext hx) hxi
    (repeat' (first|refine eV Z Z (A0 (m:=i) Z Z Z (by first|rfl|omega) (by omega)) ?_|refine Ly ?_|refine Dy (fun hh=>?_) fun hh=>?_))
    all_goals (try (exfalso;omega))
    all_goals first
      | exact A5 Z Z ⟨⟨_,rfl⟩,hx⟩
      | exact Ad (i+1) ⟨rfl,rfl,rfl,trivial⟩ ⟨by omega,hx⟩ (by omega)
  · (repeat' (first|refine Sy ?_|refine Dy (fun hh=>?_) fun hh=>?_))
    all_goals (try (exfalso;omega))
    exact A5 Z Z ⟨⟨_,rfl⟩,hx⟩
theorem sense222_any (l:List Sns) (x:Sns) (hg:x.gloss.length≤1048576) (v:Value) (w:World) (hv:Sl w v l):Calls Tryz.prog 222 #[v,.agg #[str x.gloss,str x.dfn] ] w (Rt fun u w'=>(∃ e:Int,u=int e)∧Ext w w'):=by
  refine A7 (n:=20) (args:=[v,.agg #[str x.gloss,str x.dfn] ]) Tryz.func222 rfl Tryz.ntmps222 (by simp) ?_
  have hX:=Ext.refl w
  (repeat' (first|(refine Ao Z Z Z Z (fun bX wX xX hbX rX=>?_);replace hX:=hX.trans xX;replace hv:=hv.ext xX)|(refine A9 Z Z (A3 Z Z en237) (gloss237_any x.gloss hg _) (fun vC wC hC=>?_);obtain⟨⟨b,rfl⟩,xC⟩:=hC;replace hX:=hX.trans xC;replace hv:=hv.ext xC;replace rX:=rX.ext xC) <;> cases b|(refine A9 Z Z (A3 Z Z en97) (text_any x.dfn _) (fun vC wC hC=>?_);obtain⟨⟨e,rfl,_⟩,xC⟩:=hC;replace hX:=hX.trans xC;replace hv:=hv.ext xC;replace rX:=rX.ext xC)|(refine A9 Z Z (A3 Z Z en238) (has238_any l x.gloss v _ hv) (fun vC wC hC=>?_);obtain⟨⟨b,rfl⟩,xC⟩:=hC;replace hX:=hX.trans xC;replace hv:=hv.ext xC;replace rX:=rX.ext xC) <;> cases b|refine Ly ?_|refine Dy (fun hh=>?_) fun hh=>?_))
  all_goals exact A5 Z Z ⟨⟨_,rfl⟩,hX⟩
end
section
open Go.RowKit Go.En Go.Pv
theorem C6 {G:Nat→Prop} {w:World} {e:En} {X:List Value} (h:Rep.at_ G w e X):∃ a0 c0 a1 c1 a2 c2 a3 c3 a4 c4,X=[int e.id,.slice a0 e.form.length c0,int e.cls,.slice a1 e.alts.length c1,int e.main,.slice a2 e.senses.length c2,.slice a3 e.links.length c3,.slice a4 e.refs.length c4]∧SlG G w (.slice a0 e.form.length c0) e.form∧SlG G w (.slice a1 e.alts.length c1) e.alts∧SlG G w (.slice a2 e.senses.length c2) e.senses∧SlG G w (.slice a3 e.links.length c3) e.links∧SlG G w (.slice a4 e.refs.length c4) e.refs:=by
  obtain⟨formv,altsv,sensesv,linksv,refsv,rfl,h0,h1,h2,h3,h4⟩:=h
  obtain⟨a0,c0,rfl,_,_,_⟩:=h0.sl
  obtain⟨a1,c1,rfl,_,_,_⟩:=h1.sl
  obtain⟨a2,c2,rfl,_,_,_⟩:=h2.sl
  obtain⟨a3,c3,rfl,_,_,_⟩:=h3.sl
  obtain⟨a4,c4,rfl,_,_,_⟩:=h4.sl
  exact⟨a0,c0,a1,c1,a2,c2,a3,c3,a4,c4,rfl,h0,h1,h2,h3,h4⟩
theorem Ko {w w':World} {e:En} {X:List Value} (h:Rep.at_ Tt w e X) (x:Ext w w'):Rep.at_ Tt w' e X:=Rep.move h (fun b hb hlt=>⟨trivial,x.block hlt⟩)
attribute [local irreducible] E EL K Val Enters Rt Calls bodyPost Code.wp RQ
theorem senses192_any (e : En) (hg : ∀ x ∈ e.senses, x.gloss.length ≤ 1048576) (X : List Value) (w : World) (h : Rep.at_ Tt w e X) : Calls Tryz.prog 192 #[.agg X.toArray] w (Rt fun u w' => (∃ z : Int, u = int z ∧ (z = 0 → e.senses.length ≤ 5)) ∧ Ext w w') := by
  obtain⟨a0,c0,a1,c1,a2,c2,a3,c3,a4,c4,rfl,h0,h1,h2,h3,h4⟩:=C6 h
  have hv:=h2
  obtain⟨_,_,ee,_,hm,hpp⟩:=h2.sl
  cases ee
  refine A7 (n:=52) (args:=[.agg #[int e.id,.slice a0 e.form.length c0,int e.cls,.slice a1 e.alts.length c1,int e.main,.slice a2 e.senses.length c2,.slice a3 e.links.length c3,.slice a4 e.refs.length c4] ]) Tryz.func192 rfl Tryz.ntmps192 (by simp) ?_
  have hX:=Ext.refl w
  obtain⟨bi,hbi⟩:∃ b,B0 e.main=b:=⟨_,rfl⟩
  have ci:=fun wz=>Dd e.main wz
  rw [hbi] at ci
  cases bi
  all_goals (repeat' (first|(refine Ao Z Z Z Z (fun bX wX xX hbX rX=>?_);replace hX:=hX.trans xX;replace hv:=hv.ext xX)|(refine cqC (ci _) en61 fun wC xC=>?_;replace hX:=hX.trans xC;replace hv:=hv.ext xC;replace rX:=rX.ext xC)|refine Ly ?_|refine Dy (fun hh=>?_) fun hh=>?_))
  all_goals (try (exfalso;omega))
  all_goals first
    | exact A5 Z Z ⟨⟨_,rfl,fun h=>absurd h (by decide)⟩,hX⟩
    | skip
  all_goals
    have h5:e.senses.length≤5:=by omega
    refine Ae (ι:=Nat) (fun i=>[(1,.pointer (some ⟨bX,0,none⟩)),(3,int i)]) (fun i wr=>i≤e.senses.length∧Ext (by first|exact wC|exact wX) wr) (fun i=>e.senses.length-i) 0
      ⟨rfl,rfl,trivial⟩ ⟨Nat.zero_le _,Ext.refl _⟩ ?_
    rintro i wr ⟨hi,hx⟩
    replace rX:=rX.ext hx;replace hX:=hX.trans hx;replace hv:=hv.ext hx
    by_cases hlt:i<e.senses.length
    · obtain⟨b,off,rfl⟩:=hpp (by omega)
      obtain⟨x,hxi⟩:∃ x,e.senses[i]?=some x:=⟨_,List.getElem?_eq_getElem hlt⟩
      have hat:=sns_elem hv hxi
      have cs:=fun wq (xq:Ext wr wq)=>sense222_any (e.senses.take i) x (hg x (List.mem_of_getElem? hxi)) (.slice (some ⟨b,off,none⟩) i c2) wq (SlG.take (hv.ext xq) (by omega))
      (repeat' (first|refine yV Z Z (fun _ _ _=>A0 (m:=i) Z Z Z (by first|rfl|omega) (by omega)) ?_|refine yV Z Z (fun _ _ _=>Ms (b:=i) Z Z Z Z (by omega)) ?_|(refine Cm (fun u _=>∃ z:Int,u=int z) Z Z (fun _ _ _ _ _ h=>h) (fun w δ _ hs=>⟨δ 48,Cn Z Z,hs 48 (by decide) _ rfl⟩) ?_)|refine Al (f:=222) (fun u w'=>∃ z:Int,u=int z) (fun _=>#[.slice (some ⟨b,off,none⟩) i c2,.agg #[str x.gloss,str x.dfn] ]) Z Z (fun _ _ _ _ xe h=>h) (fun _ _ _=>A3 Z Z en222) (fun wq _ xq _=>Ag (cs wq xq) (fun _ _ hh=>by first|exact⟨hh.1,hh.2⟩|exact⟨hh.2,hh.1⟩)) ?_|refine Ly ?_|refine Dy (fun hh=>?_) fun hh=>?_|refine yqY ?_|refine yqZ ?_|refine E_dq Aa (by kernel_rfl) Z ?_))
      all_goals (try (exfalso;omega))
      all_goals
        refine B8 (fun wq δ xq hR=>?_)
        obtain⟨z,hz⟩:=hR 4 _ rfl
        obtain⟨z2,hz2⟩:=hR 48 _ rfl
        simp only [mat,vG]
        rw [hz,hz2]
        (repeat' (first|refine Sy ?_|refine Dy (fun hh=>?_) fun hh=>?_))
        all_goals (try (exfalso;omega))
        all_goals first
          | exact A5 Z Z ⟨⟨_,rfl,fun h=>absurd h (by assumption)⟩,hX.trans xq⟩
          | exact Ad (i+1) ⟨rfl,rfl,trivial⟩ ⟨by omega,hx.trans xq⟩ (by omega)
    · (repeat' (first|refine Ly ?_|refine Dy (fun hh=>?_) fun hh=>?_))
      all_goals (try (exfalso;omega))
      exact A5 Z Z ⟨⟨_,rfl,fun _=>h5⟩,hX⟩
theorem links193_any (e : En) (X : List Value) (w : World) (h : Rep.at_ Tt w e X) : Calls Tryz.prog 193 #[.agg X.toArray] w (Rt fun u w' => (∃ z : Int, u = int z ∧ (z = 0 → e.links.length ≤ 12)) ∧ Ext w w') := by
  obtain⟨a0,c0,a1,c1,a2,c2,a3,c3,a4,c4,rfl,h0,h1,h2,h3,h4⟩:=C6 h
  have hv:=h3
  obtain⟨_,_,ee,_,hm,hpp⟩:=h3.sl
  cases ee
  refine A7 (n:=76) (args:=[.agg #[int e.id,.slice a0 e.form.length c0,int e.cls,.slice a1 e.alts.length c1,int e.main,.slice a2 e.senses.length c2,.slice a3 e.links.length c3,.slice a4 e.refs.length c4] ]) Tryz.func193 rfl Tryz.ntmps193 (by simp) ?_
  have hX:=Ext.refl w
  (repeat' (first|(refine Ao Z Z Z Z (fun bX wX xX hbX rX=>?_);replace hX:=hX.trans xX;replace hv:=hv.ext xX)|refine Ly ?_|refine Dy (fun hh=>?_) fun hh=>?_))
  all_goals (try (exfalso;omega))
  all_goals first
    | exact A5 Z Z ⟨⟨_,rfl,fun h=>absurd h (by decide)⟩,hX⟩
    | skip
  have h5:e.links.length≤12:=by omega
  refine Ae (ι:=Nat) (fun i=>[(1,.pointer (some ⟨bX,0,none⟩)),(3,int i)]) (fun i wr=>i≤e.links.length∧Ext wX wr) (fun i=>e.links.length-i) 0
    ⟨rfl,rfl,trivial⟩ ⟨Nat.zero_le _,Ext.refl _⟩ ?_
  rintro i wr ⟨hi,hx⟩
  replace rX:=rX.ext hx;replace hX:=hX.trans hx;replace hv:=hv.ext hx
  by_cases hlt:i<e.links.length
  · obtain⟨b,off,rfl⟩:=hpp (by omega)
    obtain⟨x,hxi⟩:∃ x,e.links[i]?=some x:=⟨_,List.getElem?_eq_getElem hlt⟩
    have hat:=Hj hv hxi
    obtain⟨bi,hbi⟩:∃ b,B0 x.to=b:=⟨_,rfl⟩
    have ci:=fun wz=>Dd x.to wz
    rw [hbi] at ci
    by_cases h0:i=0
    · subst h0
      cases bi
      all_goals (repeat' (first|(refine Am Z Z Z Z Z Z Z Z Z Z (fun bE wE xE hbE rE=>?_);replace hx:=hx.trans xE;replace hX:=hX.trans xE;replace hv:=hv.ext xE;replace rX:=rX.ext xE;replace hat:=hat.ext xE)|refine eV Z Z (A0 (m:=0) Z Z Z (by first|rfl|omega) (by omega)) ?_|(refine cqC (ci _) en61 fun wC xC=>?_;replace hx:=hx.trans xC;replace hX:=hX.trans xC;replace hv:=hv.ext xC;replace rX:=rX.ext xC;replace hat:=hat.ext xC;replace rE:=rE.ext xC)|refine Ly ?_|refine Dy (fun hh=>?_) fun hh=>?_|refine yqY ?_|refine yqZ ?_|refine yqX (fun hh=>?_) fun hh=>?_|refine E_dq Aa (by kernel_rfl) Z ?_|refine yN Z (fun wq xq=>?_)|refine yO Z Z ?_))
      all_goals (try (exfalso;omega))
      all_goals first
        | exact A5 Z Z ⟨⟨_,rfl,fun h=>absurd h (by decide)⟩,hX⟩
        | exact A5 Z Z ⟨⟨_,rfl,fun h=>absurd h (by decide)⟩,hX.trans xq⟩
        | exact Ad (0+1) ⟨rfl,rfl,trivial⟩ ⟨by omega,hx.trans xq⟩ (by omega)
    · obtain⟨y,hyi⟩:∃ y,e.links[i-1]?=some y:=⟨_,List.getElem?_eq_getElem (by omega)⟩
      have haty:=Hj hv hyi
      cases bi
      all_goals (repeat' (first|(refine Am Z Z Z Z Z Z Z Z Z Z (fun bE wE xE hbE rE=>?_);replace hx:=hx.trans xE;replace hX:=hX.trans xE;replace hv:=hv.ext xE;replace rX:=rX.ext xE;replace hat:=hat.ext xE;replace haty:=haty.ext xE)|refine eV Z Z (A0 (m:=i) Z Z Z (by first|rfl|omega) (by omega)) ?_|refine yV Z Z (fun _ _ _=>A0 (m:=i-1) Z Z Z (by first|rfl|omega) (by omega)) ?_|(refine cqC (ci _) en61 fun wC xC=>?_;replace hx:=hx.trans xC;replace hX:=hX.trans xC;replace hv:=hv.ext xC;replace rX:=rX.ext xC;replace hat:=hat.ext xC;replace haty:=haty.ext xC;replace rE:=rE.ext xC)|refine Ly ?_|refine Dy (fun hh=>?_) fun hh=>?_|refine yqY ?_|refine yqZ ?_|refine yqX (fun hh=>?_) fun hh=>?_|refine E_dq Aa (by kernel_rfl) Z ?_|refine yN Z (fun wq xq=>?_)|refine yO Z Z ?_))
      all_goals (try (exfalso;omega))
      all_goals first
        | exact A5 Z Z ⟨⟨_,rfl,fun h=>absurd h (by decide)⟩,hX⟩
        | exact A5 Z Z ⟨⟨_,rfl,fun h=>absurd h (by decide)⟩,hX.trans xq⟩
        | exact Ad (i+1) ⟨rfl,rfl,trivial⟩ ⟨by omega,hx.trans xq⟩ (by omega)
  · (repeat' (first|refine Ly ?_|refine Dy (fun hh=>?_) fun hh=>?_))
    all_goals (try (exfalso;omega))
    exact A5 Z Z ⟨⟨_,rfl,fun _=>h5⟩,hX⟩
end
end Go.Proofs.YtjicdgejhkgpgaaGreatDoor
namespace Go.En
open Go.RowKit
class Flat (α:Type) [Rep α]:Prop where
  flat:∀(G G':Nat→Prop) (w w':World) (x:α) (cs:List Value),Rep.at_ G w x cs→Rep.at_ G' w' x cs
theorem AtsG.flat' {α:Type} [Rep α] [Flat α] {G G':Nat→Prop} {w w':World} {xs:List α} {css:List (List Value)} (h:AtsG G w xs css):AtsG G' w' xs css:=AllAt.mono (fun _ _ h=>Flat.flat _ _ _ _ _ _ h) h
instance:Flat Int:=⟨fun _ _ _ _ _ _ h=>h⟩
instance:Flat Txt:=⟨fun _ _ _ _ _ _ h=>h⟩
section
variable {P : Program} {n : Nat} {ops rest : List Oper} {Q : Post} {L : List (Nat × Value)} {w : World} {o : Oper}
theorem Gr {α:Type} [Rep α] [Flat α] {d:Nat} {t e:TypeId} {s x:Operand} {z:Value} {size bytes:Nat} [ut:UT P t (.slice e)] [ti:TI P e z size bytes] {G G':Nat→Prop} {u:World} {bS m c:Nat} {a:Option Addr} {ys:List α}
    (hs:SlG G u (.slice a m c) ys) (hx0:Ext u w) (hr:Row w bS e []) (hb:u.heap.size≤bS) (hG:∀ b,u.heap.size≤b→G' b) (hg:gst ops L o=some true) (hd:odst n o.dst=some d) (ho:o.op=.call { callee:=.builtin .append,args:=#[s,x],argTypes:=#[t,t] })
    (hsv:ev L s=some (.slice (some ⟨bS,0,none⟩) 0 0)) (hx:ev L x=some (.slice a m c)) (hz:z.cells.size=size) (hsz:Nat.beq size (Rep.sz α)=true) (hmax:ys.length*bytes≤140737488355328)
    (k:∀ v' w',SlG G' w' v' ys→Ext u w'→EL P n ops Q rest ((d,v')::L) w'):EL P n ops Q (o::rest) L w:=by
  have e0:=Nat.eq_of_beq_eq_true hsz
  subst e0
  have hm:m=ys.length:=by obtain⟨_,_,e,_,_,_⟩:=hs.sl;cases e;rfl
  subst hm
  obtain⟨css,s1,s2⟩:=hs.css
  have hl:=AtsG.flat s1
  have hle:ys.length≤140737488355328:=by obtain⟨_,_,_,_,h,_⟩:=hs.sl;exact h
  have hp:0<Rep.sz α:=Rep.pos
  refine Ay (w0:=u) (news:=css.flatten) (q:=ys.length) (c:=c) (Cq (n:=0) (size:=Rep.sz α) hr (by simp) hb (by omega)) hx0 (fun h0=>?_) hg hd ho hsv hx hl (AtsG.ones s1) hz (Nat.ble_eq_true_of_le hp) (by simpa using hmax) (by omega) (fun vJ wJ oJ xJ kJ hJ=>?_)
  · obtain⟨b,so,e,_,hat⟩:=s2 (by rw [hl];exact Nat.mul_pos h0 hp)
    exact⟨b,so,e,hat.ext hx0⟩
  · exact k vJ wJ (C5 (B:=u.heap.size) (css:=css) (by simpa using oJ) (AtsG.flat' s1) hG rfl hle) xJ
end
def Gq (Gx:Nat→Prop) (ov:Value):Nat→Prop:=fun b=>Gx b∧Nb ov b
def Grow {α:Type} [Rep α] (Gx:Nat→Prop) (u0:World) (e:TypeId) (xs:List α) (ov:Value) (w:World):Prop:=
  Ext u0 w∧∃ css,w.ownsRow u0.heap.size e (Rep.sz α) ov xs.length css.flatten∧AtsG (Gq Gx ov) w xs css
section
variable {α : Type} [Rep α] {Gx : Nat → Prop} {u0 w w' : World} {e : TypeId} {xs : List α} {ov : Value}
theorem Grow.nil {b:Nat} (hr:Row w b e []) (x:Ext u0 w) (hb:u0.heap.size≤b):Grow (α:=α) Gx u0 e [] (.slice (some ⟨b,0,none⟩) 0 0) w:=
  ⟨x,[],Cq (n:=0) (size:=Rep.sz α) hr (by simp) hb (by omega),trivial⟩
theorem Grow.none:Grow (α:=α) Gx w e [] (.slice none 0 0) w:=⟨Ext.refl _,[],⟨by simp,.inl ⟨rfl,rfl⟩⟩,trivial⟩
theorem Grow.x (h:Grow Gx u0 e xs ov w):Ext u0 w:=h.1
theorem Grow.ext (h:Grow Gx u0 e xs ov w) (x:Ext w w'):Grow Gx u0 e xs ov w':=by
  obtain⟨h1,css,h2,h3⟩:=h
  exact⟨h1.trans x,css,Ak h2 x,AtsG.ext h3 x⟩
theorem Grow.nbn (h:Grow Gx u0 e xs ov w) {b:Nat} (hb:w.heap.size≤b):Nb ov b:=fun e'=>by
  obtain⟨_,css,h2,_⟩:=h
  have:=(h2.lt b e'.symm).2;omega
theorem Grow.sl (h:Grow Gx u0 e xs ov w) (hg:∀ b,u0.heap.size≤b→Gx b) (hm:xs.length≤140737488355328):SlG Gx w ov xs:=by
  obtain⟨h1,css,h2,h3⟩:=h
  exact C5 h2 (AtsG.wk h3 fun b hb=>hb.1) hg rfl hm
theorem Dv {P:Program} {n:Nat} {ops rest:List Oper} {Q:Post} {L:List (Nat × Value)} {o:Oper} {d bS:Nat} {t:TypeId} {s y:Operand} {z:Value} {size bytes:Nat} {x:α} {X:List Value} [ut:UT P t (.slice e)] [ti:TI P e z size bytes]
    (h:Grow Gx u0 e xs ov w) (hr:Row w bS e X) (hx:Rep.at_ (Gq Gx ov) w x X) (hg:gst ops L o=some true) (hd:odst n o.dst=some d) (ho:o.op=.call { callee:=.builtin .append,args:=#[s,y],argTypes:=#[t,t] })
    (hsv:ev L s=some ov) (hy:ev L y=some (.slice (some ⟨bS,0,none⟩) 1 1)) (hz:z.cells.size=size) (hsz:Nat.beq size (Rep.sz α)=true) (hmax:(xs.length+1)*bytes≤140737488355328) (hmax':xs.length+1≤140737488355328)
    (k:∀ v' w',Grow Gx u0 e (xs++[x]) v' w'→EL P n ops Q rest ((d,v')::L) w'):EL P n ops Q (o::rest) L w:=by
  have e0:=Nat.eq_of_beq_eq_true hsz
  subst e0
  obtain⟨h1,css,h2,h3⟩:=h
  have hp:0<Rep.sz α:=Rep.pos
  have hl:X.length=Rep.sz α:=Rep.len hx
  refine Ay (w0:=u0) (news:=X) (q:=1) (c:=1) h2 h1 (fun _=>⟨bS,0,rfl,hr.at⟩) hg hd ho hsv hy (by simp [hl]) (Rep.one hx) hz (Nat.ble_eq_true_of_le hp) hmax (by omega) (fun vJ wJ oJ xJ kJ hJ=>?_)
  have mv:∀ b,Gq Gx ov b→b<w.heap.size→Gq Gx vJ b∧wJ.heap[b]?=w.heap[b]?:=fun b hb hlt=>⟨⟨hb.1,(Nb.mv kJ hJ b hb.2 hlt).1⟩,(Nb.mv kJ hJ b hb.2 hlt).2⟩
  refine k vJ wJ ⟨xJ,css++[X],?_,AllAt.append (AtsG.move h3 mv) (AllAt.one (Rep.move hx mv))⟩
  rw [List.flatten_append,List.length_append]
  simpa using oJ
end
end Go.En
