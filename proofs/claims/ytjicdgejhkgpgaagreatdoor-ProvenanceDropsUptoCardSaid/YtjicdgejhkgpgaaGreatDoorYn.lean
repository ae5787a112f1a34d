/-
  Own text of the proof.
-/
import Derived.Test.YtjicdgejhkgpgaaGreatDoorYm
import Derived.Test.YtjicdgejhkgpgaaGreatDoorG
import Derived.Test.YtjicdgejhkgpgaaGreatDoorYf
import Derived.Test.YtjicdgejhkgpgaaGreatDoorYg
set_option linter.all false
set_option maxHeartbeats 4000000
set_option maxRecDepth 8000
namespace Go.Proofs.YtjicdgejhkgpgaaGreatDoor
section
open Go.RowKit Go.En Go.Pv
theorem Tabs.ext {w w':World} (h:Tabs w) (x:Ext w w'):Tabs w':=Utf8Tabs_below h x
theorem enc_ctl {z:Nat} (hz:z≤1114111):(encB z).any ctlB=ctlN z:=by
  unfold encB encN ctlN
  (repeat' split) <;> simp [ctlB,UInt8.toNat_ofNat'] <;>(try rw [Bool.eq_iff_iff]) <;>(try simp) <;> omega
theorem C3w {p:List UInt8} {zs:List Nat} (hp:points p=some zs):zs.any ctlN=p.any ctlB:=by
  have hs:=(R8 _ p zs (Nat.le_refl _) hp).2.1
  rw [← (R8 _ p zs (Nat.le_refl _) hp).2.2]
  clear hp
  induction zs with
  | nil=>rfl
  | cons z r ih=>
    rw [List.map_cons,List.flatten_cons,List.any_append,List.any_cons,ih (fun x hx=>hs x (by simp [hx])),enc_ctl (N2.1 (hs z (by simp))).1]
theorem C6l {s:List UInt8} {f:UInt8→Bool} (h:∀(j:Nat) (c:UInt8),j<s.length→s[j]?=some c→f c=false):s.any f=false:=by
  rw [List.any_eq_false]
  intro c hc
  obtain⟨j,hj⟩:=List.getElem?_of_mem hc
  rw [h j c (List.getElem?_eq_some_iff.1 hj).1 hj];simp
theorem C0y {s:List UInt8} {f:UInt8→Bool} {j:Nat} {c:UInt8} (h:s[j]?=some c) (hc:f c=true):s.any f=true:=List.any_eq_true.2 ⟨c,List.mem_of_getElem? h,hc⟩
attribute [local irreducible] E EL K Val Enters Rt Calls bodyPost Code.wp RQ
theorem A6b (s : List UInt8) (w : World) (hT : Tabs w) : Calls Tryz.prog 58 #[str s] w (Rt fun u w' => u = int (txtF s) ∧ Ext w w') := by
  refine A6 (n:=32) (args:=[str s]) Tryz.func58 rfl Tryz.ntmps58 (by simp) ?_
  by_cases h200:s.length≤200
  · have hf:=A0j s (by omega) w hT
    have ht0:txtF s=match points s with|none=>3|some zs=>if zs.any ctlN then 3 else 0:=by unfold txtF;rw [if_neg (by omega)];cases points s <;> rfl
    cases hp:points s with
    | none=>
      rw [hp] at hf ht0
      rw [ht0]
      (repeat' (first|(refine A8 Z Z (A5 Z Z en95) hf (fun vC wC hC=>?_);obtain⟨xC,hv⟩:=hC;obtain rfl:=hv)|refine Sy ?_|refine Dy (fun hh=>?_) fun hh=>?_))
      all_goals (first|(exfalso;omega)|skip)
      exact A4 Z Z ⟨rfl,xC⟩
    | some zs=>
      rw [hp] at hf ht0
      have ht1:txtF s=if zs.any ctlN then 3 else 0:=ht0
      rw [ht1,C3w hp]
      (repeat' ((fail_if_success (refine B4 (x:=(Code.region 6 _ _)) ?_));first|(refine A8 Z Z (A5 Z Z en95) hf (fun vC wC hC=>?_);obtain⟨xC,v,hv,hown⟩:=hC;obtain rfl:=hv)|refine Sy ?_|refine Dy (fun hh=>?_) fun hh=>?_))
      all_goals (first|(exfalso;omega)|skip)
      (repeat' (first|refine Sy ?_))
      refine B0 (ι:=Nat) (fun i=>[(0,str s),(17,int s.length),(18,int i)]) (fun i wr=>i≤s.length∧Ext wC wr∧∀(j:Nat) (c:UInt8),j<i→s[j]?=some c→ctlB c=false) (fun i=>s.length-i) 0
        ⟨rfl,rfl,rfl,trivial⟩ ⟨Nat.zero_le _,Ext.refl _,fun j c hj=>absurd hj (by omega)⟩ ?_
      rintro i wr ⟨hi,hx,hall⟩
      by_cases hlt:i<s.length
      · obtain⟨c,hc⟩:∃ c,s[i]?=some c:=⟨_,List.getElem?_eq_getElem hlt⟩
        (repeat' (first|refine eV Z Z (J1 Z Z Z Z hc) ?_|refine Sy ?_|refine Dy (fun hh=>?_) fun hh=>?_))
        all_goals (first|(exfalso;omega)|skip)
        all_goals first
          | (have hct : ctlB c = true := by unfold ctlB; simp; omega
             rw [C0y hc hct]
             exact A4 Z Z ⟨rfl,xC.trans hx⟩)
          | (have hct : ctlB c = false := by unfold ctlB; simp; omega
             refine B3 (i+1) ⟨rfl,rfl,rfl,trivial⟩ ⟨by omega,hx,fun j c' hj hc'=>?_⟩ (by omega)
             by_cases e:j=i
             · subst e;rw [hc] at hc';cases hc';exact hct
             · exact hall j c' (by omega) hc')
      · rw [C6l (fun j c hj hc=>hall j c (by omega) hc)]
        (repeat' (first|refine Sy ?_|refine Dy (fun hh=>?_) fun hh=>?_))
        all_goals (first|(exfalso;omega)|skip)
        exact A4 Z Z ⟨rfl,xC.trans hx⟩
  · have:txtF s=5:=by unfold txtF;rw [if_pos (by omega)]
    rw [this]
    (repeat' (first|refine Sy ?_|refine Dy (fun hh=>?_) fun hh=>?_))
    all_goals (first|(exfalso;omega)|skip)
    exact A4 Z Z ⟨rfl,Ext.refl _⟩
theorem C2s (c:UInt8) (w:World):Calls Tryz.prog 94 #[.int .u8 c.toNat] w (Rt fun u w'=>u=.bool (ctlB c)∧Ext w w'):=by
  refine A6 (n:=9) (args:=[.int .u8 c.toNat]) Tryz.func94 rfl Tryz.ntmps94 (by simp) ?_
  (repeat' (first|refine Sy ?_|refine Dy (fun hh=>?_) fun hh=>?_))
  all_goals first
    | (have hct : ctlB c = true := by unfold ctlB; simp; omega
       rw [hct]
       exact A4 Z Z ⟨rfl,Ext.refl _⟩)
    | (have hct : ctlB c = false := by unfold ctlB; simp; omega
       rw [hct]
       exact A4 Z Z ⟨rfl,Ext.refl _⟩)
theorem B1x (s:List UInt8) (b cap:Nat) (w:World) (hcap:s.length≤cap) (hsl:s.length≤1000) (hat:At w b 0 (s.map fun c=>Value.int .u8 c.toNat)):Calls Tryz.prog 127 #[.slice (some ⟨b,0,none⟩) s.length cap,.func (.func 94) #[] #[] ] w (Rt fun u w'=>((s.any ctlB=true→∃ q:Nat,u=int q)∧(s.any ctlB=false→u=int (-1)))∧Ext w w'):=by
  refine A6 (n:=19) (args:=[.slice (some ⟨b,0,none⟩) s.length cap,.func (.func 94) #[] #[] ]) Tryz.func127 rfl Tryz.ntmps127 (by simp) ?_
  (repeat' (first|refine Sy ?_))
  refine B0 (ι:=Nat) (fun i=>[(0,.slice (some ⟨b,0,none⟩) s.length cap),(1,.func (.func 94) #[] #[]),(7,int s.length),(8,int i)])
    (fun i wr=>i≤s.length∧Ext w wr∧∀(j:Nat) (c:UInt8),j<i→s[j]?=some c→ctlB c=false) (fun i=>s.length-i) 0
    ⟨rfl,rfl,rfl,rfl,trivial⟩ ⟨Nat.zero_le _,Ext.refl _,fun j y hj=>absurd hj (by omega)⟩ ?_
  rintro i wr ⟨hi,hx,hall⟩
  by_cases hlt:i<s.length
  · obtain⟨c,hc⟩:∃ c,s[i]?=some c:=⟨_,List.getElem?_eq_getElem hlt⟩
    have hcell:wr.cell? ⟨b,0+i*1,none⟩=some (Value.int .u8 c.toNat):=(hat.ext hx).ith (f:=fun c=>Value.int .u8 c.toNat) hc
    have cF:=C2s c wr
    cases hct:ctlB c with
    | true=>
      rw [hct] at cF
      have hy:=C0y hc hct
      (repeat' (first|refine eV Z Z (A0 (m:=i) Z Z Z (by first|rfl|omega) (by omega)) ?_|(refine A8 Z Z (L2 (cap:=[]) Z Z Z en94) cF (fun vC wC hC=>?_);obtain⟨rfl,xC⟩:=hC;replace hx:=hx.trans xC)|refine Ly ?_|refine Dy (fun hh=>?_) fun hh=>?_))
      all_goals (try (exfalso;omega))
      exact A4 Z Z ⟨⟨fun _=>⟨i,rfl⟩,fun h=>by rw [hy] at h;cases h⟩,hx⟩
    | false=>
      rw [hct] at cF
      (repeat' (first|refine eV Z Z (A0 (m:=i) Z Z Z (by first|rfl|omega) (by omega)) ?_|(refine A8 Z Z (L2 (cap:=[]) Z Z Z en94) cF (fun vC wC hC=>?_);obtain⟨rfl,xC⟩:=hC;replace hx:=hx.trans xC)|refine Ly ?_|refine Dy (fun hh=>?_) fun hh=>?_))
      all_goals (try (exfalso;omega))
      refine B3 (i+1) ⟨rfl,rfl,rfl,rfl,trivial⟩ ⟨by omega,hx,fun j y hj hy=>?_⟩ (by omega)
      by_cases e:j=i
      · subst e;rw [hc] at hy;cases hy;exact hct
      · exact hall j y (by omega) hy
  · have hno:=C6l (fun j c hj hc=>hall j c (by omega) hc)
    (repeat' (first|refine Sy ?_|refine Dy (fun hh=>?_) fun hh=>?_))
    all_goals (try (exfalso;omega))
    exact A4 Z Z ⟨⟨fun h=>(by rw [hno] at h;cases h),fun _=>rfl⟩,hx⟩
theorem S4 (s:List UInt8) (b cap:Nat) (w:World) (hcap:s.length≤cap) (hsl:s.length≤1000) (hat:At w b 0 (s.map fun c=>Value.int .u8 c.toNat)):Calls Tryz.prog 93 #[.slice (some ⟨b,0,none⟩) s.length cap,.func (.func 94) #[] #[] ] w (Rt fun u w'=>u=.bool (s.any ctlB)∧Ext w w'):=by
  refine A6 (n:=9) (args:=[.slice (some ⟨b,0,none⟩) s.length cap,.func (.func 94) #[] #[] ]) Tryz.func93 rfl Tryz.ntmps93 (by simp) ?_
  have ci:=B1x s b cap w hcap hsl hat
  cases hany:s.any ctlB with
  | true=>
    rw [hany] at ci
    (repeat' (first|(refine A8 Z Z (A5 Z Z en127) ci (fun vC wC hC=>?_);obtain⟨⟨h1,h2⟩,xC⟩:=hC;obtain⟨q,rfl⟩:=h1 rfl)|refine Sy ?_|refine Dy (fun hh=>?_) fun hh=>?_))
    all_goals (try (exfalso;omega))
    exact A4 Z Z ⟨rfl,xC⟩
  | false=>
    rw [hany] at ci
    (repeat' (first|(refine A8 Z Z (A5 Z Z en127) ci (fun vC wC hC=>?_);obtain⟨⟨h1,h2⟩,xC⟩:=hC;obtain rfl:=h2 rfl)|refine Sy ?_|refine Dy (fun hh=>?_) fun hh=>?_))
    all_goals (try (exfalso;omega))
    exact A4 Z Z ⟨rfl,xC⟩
theorem C0g {s:List UInt8} (h:s.length=0∨32<s.length):labB s=false:=by
  unfold labB
  have:(decide (1≤s.length)&&decide (s.length≤32))=false:=by
    rcases h with h|h
    · rw [decide_eq_false (by omega)];rfl
    · rw [decide_eq_false (p:=s.length≤32) (by omega),Bool.and_false]
  rw [this,Bool.and_false,Bool.and_false]
theorem A4s (s : List UInt8) (w : World) (hT : Tabs w) : Calls Tryz.prog 57 #[str s] w (Rt fun u w' => u = .bool (labB s) ∧ Ext w w') := by
  refine A6 (n:=23) (args:=[str s]) Tryz.func57 rfl Tryz.ntmps57 (by simp) ?_
  by_cases h0:s=[]
  · subst h0
    rw [C0g (.inl rfl)]
    (repeat' (first|refine Sy ?_|refine Dy (fun hh=>?_) fun hh=>?_))
    all_goals (try (exfalso;first|omega|contradiction))
    exact A4 Z Z ⟨rfl,Ext.refl _⟩
  · have hl0:0<s.length:=List.length_pos_iff.2 h0
    by_cases h32:s.length≤32
    · have hlab:labB s=(!(s.any ctlB)&&(points s).isSome):=by
        unfold labB;rw [decide_eq_true (show 1≤s.length by omega),decide_eq_true h32];simp
      rw [hlab]
      cases hany:s.any ctlB with
      | true=>
        (repeat' (first|(refine A7x Z Z Z Z (fun bB cB wB xB hbB hcB aB=>?_))|(refine cqC (S4 s _ _ _ hcB (by omega) aB) en93 fun wC xC=>?_;rw [hany])|refine Sy ?_|refine Dy (fun hh=>?_) fun hh=>?_))
        all_goals (try (exfalso;first|omega|contradiction))
        exact A4 Z Z ⟨rfl,xB.trans xC⟩
      | false=>
        cases hp:points s with
        | none=>
          (repeat' (first|(refine A7x Z Z Z Z (fun bB cB wB xB hbB hcB aB=>?_))|(refine cqC (S4 s _ _ _ hcB (by omega) aB) en93 fun wC xC=>?_;rw [hany];have hf:=A0j s (by omega) wC (hT.ext (xB.trans xC));rw [hp] at hf)|(refine A8 Z Z (A5 Z Z en95) hf (fun vD wD hD=>?_);obtain⟨xD,hv⟩:=hD;obtain rfl:=hv)|refine Sy ?_|refine Dy (fun hh=>?_) fun hh=>?_))
          all_goals (try (exfalso;first|omega|contradiction))
          exact A4 Z Z ⟨rfl,(xB.trans xC).trans xD⟩
        | some zs=>
          (repeat' (first|(refine A7x Z Z Z Z (fun bB cB wB xB hbB hcB aB=>?_))|(refine cqC (S4 s _ _ _ hcB (by omega) aB) en93 fun wC xC=>?_;rw [hany];have hf:=A0j s (by omega) wC (hT.ext (xB.trans xC));rw [hp] at hf)|(refine A8 Z Z (A5 Z Z en95) hf (fun vD wD hD=>?_);obtain⟨xD,v,hv,hown⟩:=hD;obtain rfl:=hv)|refine Sy ?_|refine Dy (fun hh=>?_) fun hh=>?_))
          all_goals (try (exfalso;first|omega|contradiction))
          exact A4 Z Z ⟨rfl,(xB.trans xC).trans xD⟩
    · rw [C0g (.inr (by omega))]
      (repeat' (first|refine Sy ?_|refine Dy (fun hh=>?_) fun hh=>?_))
      all_goals (try (exfalso;first|omega|contradiction))
      exact A4 Z Z ⟨rfl,Ext.refl _⟩
end
end Go.Proofs.YtjicdgejhkgpgaaGreatDoor
namespace Go.En
open Go.RowKit
theorem A5q {H:Type} {P:Program} {ts:List TypeId} {ds:List (DataW H)} (h:(DataW.weightsEach P ts ds).all (·≤reachBytes)=true) {j:Nat} {t:TypeId} {d:DataW H} (ht:ts[j]?=some t) (hd:ds[j]?=some d):Bd P t d:=
  List.all_eq_true.2 fun n hn=>List.all_eq_true.1 h n (DataW.weights_mem_each ht hd n hn)
theorem X5 (s:ByteArray):Value.string s=str s.data.toList:=by cases s;simp [str]
end Go.En
namespace Go.Proofs.YtjicdgejhkgpgaaGreatDoor
section
open Go.RowKit Go.En
theorem Y3 {α:Type} {l:List α} {i:Nat} {x:α} {f:Nat→α→Prop} (hx:l[i]?=some x) (hall:∀ j,j<i→∀ y,l[j]?=some y→f j y) (h:f i x):∀ j,j<i+1→∀ y,l[j]?=some y→f j y:=fun j hj y hy=>by
  by_cases hj2:j<i
  · exact hall j hj2 y hy
  · obtain rfl:j=i:=by omega
    rw [hx] at hy;cases hy;exact h
attribute [local irreducible] E EL K Val Enters Rt Calls bodyPost Code.wp RQ
theorem B0y (d:Dc) (v:Value) (t p:Int) (w:World) (hv:DcAt w v d) (hlen:d.notes.length≤1099511627776):Calls Tryz.prog 173 #[v,int t,int p] w (Rt fun u w'=>Ext w w'∧Sl w' u (sibs d.notes t p)):=by
  obtain⟨sv,tv,nv,rfl,_,_,hn⟩:=hv
  refine A6 (n:=44) (args:=[.agg #[int d.rid,str d.rname,int d.len,int d.day,sv,tv,nv],int t,int p]) Tryz.func173 rfl Tryz.ntmps173 (by simp) ?_
  have hn0:=hn
  obtain⟨a,cap,rfl,hc,hm,hp⟩:=hn.sl
  refine B4 ?_
  refine A9 ?_
  refine C6 Z Z Z Z (fun bB wB xB hbB rB=>?_)
  (repeat' (first|refine Sy ?_|refine eL Z Z Z Z Z Z Z Z (fun bS wS xS hbS rS=>?_)))
  refine B0 (ι:=Nat × Value) (fun x=>[(1,int t),(2,int p),(3,.pointer (some ⟨bB,0,none⟩)),(7,x.2),(8,int x.1)])
    (fun x wr=>x.1≤d.notes.length∧Ext wB wr∧wr.ownsRow wB.heap.size 80 7 x.2 (sibs (d.notes.take x.1) t p).length ((sibs (d.notes.take x.1) t p).map B9).flatten) (fun x=>d.notes.length-x.1) (0,_)
    ⟨rfl,rfl,rfl,rfl,rfl,trivial⟩ ⟨Nat.zero_le _,xS,K9 (n:=0) (size:=7) rS rfl (by omega) (by omega)⟩ ?_
  rintro⟨i,vO⟩ wr ⟨hi,hx,hown⟩
  dsimp only at hi hx hown ⊢
  have rBr:=rB.ext hx
  have hol:=A2o (d.notes.take i) t p
  rw [List.length_take] at hol
  by_cases hlt:i<d.notes.length
  · obtain⟨b,off,rfl⟩:=hp (by omega)
    obtain⟨q,hq⟩:∃ q,d.notes[i]?=some q:=⟨_,List.getElem?_eq_getElem hlt⟩
    have hat:=D7 (hn0.ext (xB.trans hx)) hq
    have htk:=A9j (t:=t) (p:=p) hq
    (repeat' (first|refine eV Z Z (A7 Z Z Z (rBr.cellAt rfl)) ?_|refine eV Z Z (A0 (m:=i) Z Z Z Z (by omega)) ?_|refine eV Z Z (A7 Z Z Z (hat.cellAt (j:=1) Z)) ?_|refine eV Z Z (A7 Z Z Z (hat.cellAt (j:=2) Z)) ?_|refine eV Z Z (B8 Z Z Z hat rfl) ?_|(refine D5 (news:=B9 q) (C7 hown xS) (hx.trans xS) (fun _=>⟨_,_,rfl,rS.at⟩) Z Z Z Z Z Z Z Z Z (by omega) (by omega) (fun vJ wJ oJ xJ kJ hJ=>?_))|refine Sy ?_|refine Dy (fun hh=>?_) fun hh=>?_|refine eL Z Z Z Z Z Z Z Z (fun bS wS xS hbS rS=>?_)))
    all_goals (first|(exfalso;omega)|skip)
    · rw [if_pos ⟨by assumption,by assumption⟩] at htk
      refine B3 (i+1,vJ) ⟨rfl,rfl,rfl,rfl,rfl,trivial⟩ ⟨by dsimp only;omega,xJ,?_⟩ (by dsimp only;omega)
      dsimp only
      rw [htk]
      simpa using oJ
    all_goals
      rw [if_neg (by rintro⟨h1,h2⟩;first|exact absurd h1 ‹_› | exact absurd h2 ‹_›),List.append_nil] at htk
      refine B3 (i+1,vO) ⟨rfl,rfl,rfl,rfl,rfl,trivial⟩ ⟨by dsimp only;omega,hx,?_⟩ (by dsimp only;omega)
      dsimp only
      rw [htk]
      exact hown
  · rw [List.take_of_length_le (by omega)] at hown
    (repeat' (first|refine eV Z Z (A7 Z Z Z (rBr.cellAt rfl)) ?_|refine Sy ?_|refine Dy (fun hh=>?_) fun hh=>?_))
    all_goals (first|(exfalso;omega)|skip)
    exact A4 Z Z ⟨xB.trans hx,N4 hown (O5 _ _) Z (by have:=A2o d.notes t p;omega)⟩
theorem C1l (l:List Note) (v:Value) (w:World) (hv:Sl w v l) (hlen:l.length≤1099511627776):Calls Tryz.prog 177 #[v] w (Rt fun u w'=>Ext w w'∧Sl w' u (l.map fun n=>(⟨n.frm,n.til⟩:Spn))):=by
  refine A6 (n:=21) (args:=[v]) Tryz.func177 rfl Tryz.ntmps177 (by simp) ?_
  have hv0:=hv
  obtain⟨a,cap,rfl,hc,hm,hp⟩:=hv.sl
  (repeat' (first|refine Sy ?_|refine eL Z Z Z Z Z Z Z Z (fun bS wS xS hbS rS=>?_)))
  refine B0 (ι:=Nat × Value) (fun x=>[(0,.slice a l.length cap),(3,x.2),(4,int x.1)])
    (fun x wr=>x.1≤l.length∧Ext w wr∧wr.ownsRow w.heap.size 76 2 x.2 (l.take x.1).length ((l.take x.1).map fun n=>[int n.frm,int n.til]).flatten) (fun x=>l.length-x.1) (0,_)
    ⟨rfl,rfl,rfl,trivial⟩ ⟨Nat.zero_le _,xS,K9 (n:=0) (size:=2) rS rfl (by omega) (by omega)⟩ ?_
  rintro⟨i,vO⟩ wr ⟨hi,hx,hown⟩
  dsimp only at hi hx hown ⊢
  by_cases hlt:i<l.length
  · obtain⟨b,off,rfl⟩:=hp (by omega)
    obtain⟨q,hq⟩:∃ q,l[i]?=some q:=⟨_,List.getElem?_eq_getElem hlt⟩
    have hat:=D7 (hv0.ext hx) hq
    have hat2:At wr b (off+i*7+3) [int q.frm,int q.til]:=hat.seg 3 (n:=2)
    have htl:(l.take i).length=i:=by rw [List.length_take];omega
    (repeat' (first|refine eV Z Z (A0 (m:=i) Z Z Z Z (by omega)) ?_|refine eV Z Z (B8 Z Z Z hat2 rfl) ?_|(refine D5 (news:=[int q.frm,int q.til]) (C7 hown xS) (hx.trans xS) (fun _=>⟨_,_,rfl,rS.at⟩) Z Z Z Z Z Z Z Z Z (by omega) (by omega) (fun vJ wJ oJ xJ kJ hJ=>?_))|refine Sy ?_|refine Dy (fun hh=>?_) fun hh=>?_|refine eL Z Z Z Z Z Z Z Z (fun bS wS xS hbS rS=>?_)))
    all_goals (first|(exfalso;omega)|skip)
    refine B3 (i+1,vJ) ⟨rfl,rfl,rfl,trivial⟩ ⟨by dsimp only;omega,xJ,?_⟩ (by dsimp only;omega)
    dsimp only
    obtain⟨hi2,rfl⟩:=List.getElem?_eq_some_iff.1 hq
    rw [List.take_succ_eq_append_getElem hi2,List.map_append,List.flatten_append,List.length_append]
    exact oJ
  · rw [List.take_of_length_le (by omega)] at hown
    (repeat' (first|refine Sy ?_|refine Dy (fun hh=>?_) fun hh=>?_))
    all_goals (first|(exfalso;omega)|skip)
    exact A4 Z Z ⟨hx,N4 (css:=l.map fun n=>[int n.frm,int n.til]) hown (by have:=V8 (G:=Tt) wr (l.map fun n=>(⟨n.frm,n.til⟩:Spn));rw [List.map_map] at this;exact this) (by simp) (by simp;omega)⟩
theorem B7n (l : List Note) (v : Value) (w : World) (hv : Sl w v l) : Calls Tryz.prog 178 #[v] w (Rt fun u w' => (∃ b, u = .bool b ∧ (b = true → Ranked l)) ∧ Ext w w') := by
  refine A6 (n:=30) (args:=[v]) Tryz.func178 rfl Tryz.ntmps178 (by simp) ?_
  have hv0:=hv
  obtain⟨a,cap,rfl,hc,hm,hp⟩:=hv.sl
  (repeat' (first|refine Sy ?_))
  refine B0 (ι:=Nat) (fun i=>[(0,.slice a l.length cap),(3,int i)]) (fun i wr=>i≤l.length∧Ext w wr∧∀ m:Nat,m<i→∃ x∈l,x.rank=(m:Int)) (fun i=>l.length-i) 0
    ⟨rfl,rfl,trivial⟩ ⟨Nat.zero_le _,Ext.refl _,fun j hj=>by omega⟩ ?_
  rintro i wr ⟨hi,hx,hall⟩
  by_cases hlt:i<l.length
  · obtain⟨b,off,rfl⟩:=hp (by omega)
    (repeat' (first|refine Sy ?_|refine Dy (fun hh=>?_) fun hh=>?_))
    all_goals (first|(exfalso;omega)|skip)
    refine B0 (ι:=Nat × Bool) (fun x=>[(0,.slice (some ⟨b,off,none⟩) l.length cap),(3,int i),(4,.bool x.2),(5,int x.1)]) (fun x wr'=>x.1≤l.length∧Ext wr wr'∧(x.2=true→∃ y∈l,y.rank=(i:Int))) (fun x=>l.length-x.1) (0,false)
      ⟨rfl,rfl,rfl,rfl,trivial⟩ ⟨Nat.zero_le _,Ext.refl _,fun h=>by cases h⟩ ?_
    rintro⟨k,f⟩ wk ⟨hk,hxk,hf⟩
    dsimp only at hk hxk hf ⊢
    by_cases hklt:k<l.length
    · obtain⟨q,hq⟩:∃ q,l[k]?=some q:=⟨_,List.getElem?_eq_getElem hklt⟩
      have hat:=D7 (hv0.ext (hx.trans hxk)) hq
      cases f
      all_goals
        (repeat' (first|refine eV Z Z (A0 (m:=k) Z Z Z Z (by omega)) ?_|refine eV Z Z (A7 Z Z Z (hat.cellAt (j:=5) Z)) ?_|refine Sy ?_|refine Dy (fun hh=>?_) fun hh=>?_))
        all_goals (first|(exfalso;omega)|skip)
        all_goals refine B3 (k+1,_) ⟨rfl,rfl,rfl,rfl,trivial⟩ ⟨by dsimp only;omega,hxk,fun h=>?_⟩ (by dsimp only;omega)
        all_goals first
          | exact⟨q,List.mem_of_getElem? hq,by assumption⟩
          | exact hf h
          | (simp at h)
    · cases f
      · (repeat' (first|refine Sy ?_|refine Dy (fun hh=>?_) fun hh=>?_))
        all_goals (first|(exfalso;omega)|skip)
        exact A4 Z Z ⟨⟨_,rfl,fun h=>by cases h⟩,hx.trans hxk⟩
      · (repeat' (first|refine Sy ?_|refine Dy (fun hh=>?_) fun hh=>?_))
        all_goals (first|(exfalso;omega)|skip)
        refine B3 (i+1) ⟨rfl,rfl,trivial⟩ ⟨by omega,hx.trans hxk,fun m hmi=>?_⟩ (by omega)
        by_cases hmi2:m<i
        · exact hall m hmi2
        · obtain rfl:m=i:=by omega
          exact hf rfl
  · (repeat' (first|refine Sy ?_|refine Dy (fun hh=>?_) fun hh=>?_))
    all_goals (first|(exfalso;omega)|skip)
    exact A4 Z Z ⟨⟨_,rfl,fun _ m hml=>hall m (by omega)⟩,hx⟩
theorem B4c (l : List Note) (v : Value) (w : World) (hv : Sl w v l) : Calls Tryz.prog 175 #[v] w (Rt fun u w' => (∃ b, u = .bool b ∧ (b = false → B9f l)) ∧ Ext w w') := by
  refine A6 (n:=44) (args:=[v]) Tryz.func175 rfl Tryz.ntmps175 (by simp) ?_
  have hv0:=hv
  obtain⟨a,cap,rfl,hc,hm,hp⟩:=hv.sl
  (repeat' (first|refine Sy ?_))
  refine B0 (ι:=Nat) (fun i=>[(0,.slice a l.length cap),(3,int i)]) (fun i wr=>i≤l.length∧Ext w wr∧∀ j,j<i→∀ x,l[j]?=some x→∀ k,k<j→∀ y,l[k]?=some y→¬ (x.frm<y.til∧y.frm<x.til)) (fun i=>l.length-i) 0
    ⟨rfl,rfl,trivial⟩ ⟨Nat.zero_le _,Ext.refl _,fun j hj=>by omega⟩ ?_
  rintro i wr ⟨hi,hx,hall⟩
  by_cases hlt:i<l.length
  · obtain⟨b,off,rfl⟩:=hp (by omega)
    obtain⟨x,hxi⟩:∃ x,l[i]?=some x:=⟨_,List.getElem?_eq_getElem hlt⟩
    (repeat' (first|refine Sy ?_|refine Dy (fun hh=>?_) fun hh=>?_))
    all_goals (first|(exfalso;omega)|skip)
    refine B0 (ι:=Nat) (fun k=>[(0,.slice (some ⟨b,off,none⟩) l.length cap),(3,int i),(4,int k)]) (fun k wr'=>k≤i∧Ext wr wr'∧∀ j,j<k→∀ y,l[j]?=some y→¬ (x.frm<y.til∧y.frm<x.til)) (fun k=>i-k) 0
      ⟨rfl,rfl,rfl,trivial⟩ ⟨Nat.zero_le _,Ext.refl _,fun j hj=>by omega⟩ ?_
    rintro k wk ⟨hk,hxk,hin⟩
    by_cases hklt:k<i
    · obtain⟨y,hyk⟩:∃ y,l[k]?=some y:=⟨_,List.getElem?_eq_getElem (by omega)⟩
      have hatx:=D7 (hv0.ext (hx.trans hxk)) hxi
      have haty:=D7 (hv0.ext (hx.trans hxk)) hyk
      (repeat' (first|refine yV Z Z (fun _ _ _=>A0 (m:=i) Z Z Z Z (by omega)) ?_|refine yV Z Z (fun _ _ _=>A0 (m:=k) Z Z Z Z (by omega)) ?_|refine yV Z Z (fun wq _ xq=>A7 Z Z Z ((hatx.ext xq).cellAt (j:=3) Z)) ?_|refine yV Z Z (fun wq _ xq=>A7 Z Z Z ((hatx.ext xq).cellAt (j:=4) Z)) ?_|refine yV Z Z (fun wq _ xq=>A7 Z Z Z ((haty.ext xq).cellAt (j:=3) Z)) ?_|refine yV Z Z (fun wq _ xq=>A7 Z Z Z ((haty.ext xq).cellAt (j:=4) Z)) ?_|refine Sy ?_|refine Dy (fun hh=>?_) fun hh=>?_|refine yqZ ?_|refine yqX (fun hh=>?_) fun hh=>?_|refine E_dq B5 (by kernel_rfl) Z ?_|refine yN Z (fun wq xq=>?_)|refine yO Z Z ?_))
      all_goals (first|(exfalso;omega)|skip)
      all_goals first
        | exact A4 Z Z ⟨⟨_,rfl,fun h=>by cases h⟩,(hx.trans hxk).trans xq⟩
        | exact B3 (k+1) ⟨rfl,rfl,rfl,trivial⟩ ⟨by omega,hxk.trans xq,Y3 hyk hin (by omega)⟩ (by omega)
    · (repeat' (first|refine Sy ?_|refine Dy (fun hh=>?_) fun hh=>?_))
      all_goals (first|(exfalso;omega)|skip)
      exact B3 (i+1) ⟨rfl,rfl,trivial⟩ ⟨by omega,hx.trans hxk,Y3 (f:=fun j x=>∀ k,k<j→∀ y,l[k]?=some y→¬ (x.frm<y.til∧y.frm<x.til)) hxi hall (fun k hk' y hy=>hin k (by omega) y hy)⟩ (by omega)
  · (repeat' (first|refine Sy ?_|refine Dy (fun hh=>?_) fun hh=>?_))
    all_goals (first|(exfalso;omega)|skip)
    exact A4 Z Z ⟨⟨_,rfl,fun _ j k x y hkj hxj hyk=>hall j (by have:=(List.getElem?_eq_some_iff.1 hxj).1;omega) x hxj k hkj y hyk⟩,hx⟩
end
section
open Go.RowKit Go.En
theorem A7e (ns:List Note) (id:Int):∃(q:Note) (ok:Bool),getR ns id=.tuple #[.agg (B9 q).toArray,.bool ok]∧(ok=true→getF ns id=some q)∧(ok=false→getF ns id=none):=by
  unfold getR
  cases h:getF ns id with
  | none=>exact⟨A1d,false,rfl,by simp,by simp⟩
  | some q=>exact⟨q,true,rfl,by simp,by simp⟩
attribute [local irreducible] E EL K Val Enters Rt Calls bodyPost Code.wp RQ
theorem B7o (d:Dc) (n:Note) (t:Tier) (k:Nat) (v:Value) (w:World) (hv:DcAt w v d) (hk:n.tier=(k:Int)) (ht:d.tiers[k]?=some t) :
    Calls Tryz.prog 172 #[v,.agg (B9 n).toArray] w (Rt fun u w'=>(∃ e:Int,u=int e∧(e=0→PlacedOK d n t))∧Ext w w'):=by
  have hd0:=hv
  obtain⟨sv,tv,nv,rfl,hs,htv,hnv⟩:=hv
  refine A6 (n:=117) (args:=[.agg #[int d.rid,str d.rname,int d.len,int d.day,sv,tv,nv],.agg (B9 n).toArray]) Tryz.func172 rfl Tryz.ntmps172 (by simp) ?_
  have htv0:=htv
  obtain⟨a,cap,rfl,hc,hm,hp⟩:=htv.sl
  have hklt:=(List.getElem?_eq_some_iff.1 ht).1
  obtain⟨b,off,rfl⟩:=hp (by omega)
  refine B4 ?_
  refine A9 ?_
  refine C6 Z Z Z Z (fun bD wD xD hbD rD0=>?_)
  refine C6 Z Z Z Z (fun bN wN xN hbN rN0=>?_)
  have rD1:Row wN bD 72 [int d.rid,str d.rname,int d.len,int d.day,sv,.slice (some ⟨b,off,none⟩) d.tiers.length cap,nv]:=rD0.ext xN
  have rN1:Row wN bN 80 (B9 n):=rN0
  have hat1:=K0 (htv0.ext (xD.trans xN)) ht
  (repeat' (first|refine eV Z Z (A7 Z Z Z (rD1.cellAt rfl)) ?_|refine eV Z Z (A7 Z Z Z (rN1.cellAt rfl)) ?_|refine eV Z Z (A0 (m:=k) Z Z Z hk hklt) ?_|refine eV Z Z (B8 Z Z Z hat1 rfl) ?_|refine Sy ?_))
  refine C3 Z Z Z (fun bT wT xT hbT rT0=>?_)
  refine B7 (cs:=A9g t) rT0 xT (by omega) Z Z Z Z Z Z Z Z (Nat.le_refl _) (fun w2 rT1 x2 k2=>?_)
  have rT2:Row w2 bT 88 (A9g t):=rT1
  have rD2:=rD1.ext x2
  have rN2:=rN1.ext x2
  have hx2:=xD.trans (xN.trans x2)
  clear rT0 rT1 rD0 rN0 rD1 rN1 k2
  (repeat' (first|refine eV Z Z (B8 Z Z Z rD2.at rfl) ?_|refine eV Z Z (A7 Z Z Z (rN2.cellAt rfl)) ?_|refine Sy ?_))
  have cg:=C0l d _ n.parent w2 (hd0.ext hx2)
  obtain⟨q,ok,hq,hq1,hq2⟩:=A7e d.notes n.parent
  rw [hq] at cg
  (repeat' (first|(refine cqC cg en52 fun wC xC=>?_)|refine Sy ?_))
  refine C3 Z Z Z (fun bP wP xP hbP rP0=>?_)
  refine B7 (cs:=B9 q) rP0 xP (by omega) Z Z Z Z Z Z Z Z (Nat.le_refl _) (fun w3 rP1 x3 k3=>?_)
  have rP:Row w3 bP 80 (B9 q):=rP1
  have rT:=rT2.ext (xC.trans x3)
  have rD:=rD2.ext (xC.trans x3)
  have rN:=rN2.ext (xC.trans x3)
  have hx:=hx2.trans (xC.trans x3)
  clear rP0 rP1 rT2 rD2 rN2 k3 cg hat1
  (repeat' ((fail_if_success (refine B4 (x:=(Code.seq (Code.region 3 _ _) _)) ?_));first|refine Sy ?_))
  have f0:=Ext.refl w3
  refine N8 (ι:=Unit) (fun _=>[(2,.pointer (some ⟨bD,0,none⟩)),(3,.pointer (some ⟨bN,0,none⟩)),(5,.pointer (some ⟨bT,0,none⟩)),(6,.pointer (some ⟨bP,0,none⟩)),(7,.bool ok)]) (fun _ w4=>Ext w3 w4∧(t.kind=0→n.parent=0)∧(t.kind≠0→ok=true∧q.tier=t.parent)) ?_ ?_
  · cases ok
    all_goals
      (repeat' (first|refine eV Z Z (A7 Z Z Z (rT.cellAt rfl)) ?_|refine eV Z Z (A7 Z Z Z (rN.cellAt rfl)) ?_|refine eV Z Z (A7 Z Z Z (rP.cellAt rfl)) ?_|refine Sy ?_|refine Dy (fun hh=>?_) fun hh=>?_))
      all_goals (first|(exfalso;omega)|exact A4 Z Z ⟨⟨_,rfl,fun h=>by omega⟩,hx⟩|exact G6 () ⟨rfl,rfl,rfl,rfl,rfl,trivial⟩ ⟨Ext.refl _,by omega,fun h=>⟨rfl,by omega⟩⟩|exact G6 () ⟨rfl,rfl,rfl,rfl,rfl,trivial⟩ ⟨Ext.refl _,by omega,fun h=>absurd ‹t.kind=0› h⟩|exact G6 () ⟨rfl,rfl,rfl,rfl,rfl,trivial⟩ ⟨Ext.refl _,by omega,fun h=>absurd (Classical.not_not.1 ‹_›) h⟩)
  rintro⟨⟩ w4 ⟨xm,f1,f2⟩
  replace hx:=hx.trans xm
  replace rD:=rD.ext xm
  replace rN:=rN.ext xm
  replace rT:=rT.ext xm
  replace rP:=rP.ext xm
  obtain⟨bt,hbt⟩:∃ bt,bt=G4 t.kind:=⟨_,rfl⟩
  have ct:=A5e t.kind
  rw [← hbt] at ct
  obtain⟨br,hbr⟩:∃ br,br=A6m n.frm n.til:=⟨_,rfl⟩
  have cr:=A6j n.frm n.til
  rw [← hbr] at cr
  obtain⟨bz,hbz⟩:∃ bz,bz=!(decide (n.frm=0)&&decide (n.til=0)):=⟨_,rfl⟩
  have hspan:At w4 bN (0+3) [int n.frm,int n.til]:=rN.at.seg 3 (n:=2)
  refine N8 (ι:=Unit) (fun _=>[(2,.pointer (some ⟨bD,0,none⟩)),(3,.pointer (some ⟨bN,0,none⟩)),(5,.pointer (some ⟨bT,0,none⟩)),(6,.pointer (some ⟨bP,0,none⟩)),(7,.bool ok)]) (fun _ w5=>Ext w4 w5∧(bt=false→bz=false)∧(bt=true→br=true)) ?_ ?_
  · have xe:=Ext.refl w4
    cases bt <;> cases br <;> cases bz
    all_goals
      (repeat' (first|refine eV Z Z (A7 Z Z Z (rT.cellAt rfl)) ?_|refine eV Z Z (B8 Z Z Z hspan rfl) ?_|refine eV Z Z (B6 (vs:=[]) [int 0,int 0] rfl rfl rfl) ?_|refine eV Z Z (X4 C4a rfl rfl rfl hbz) ?_|(refine cqC (ct _) C5s fun wC xC=>?_;replace xe:=xe.trans xC;replace hspan:=hspan.ext xC;replace rT:=rT.ext xC;replace rN:=rN.ext xC)|(refine cqC (cr _) B5k fun wC xC=>?_;replace xe:=xe.trans xC)|refine Sy ?_))
      all_goals (first|exact A4 Z Z ⟨⟨_,rfl,fun h=>by omega⟩,hx.trans xe⟩|exact G6 () ⟨rfl,rfl,rfl,rfl,rfl,trivial⟩ ⟨xe,by simp,by simp⟩)
  rintro⟨⟩ w5 ⟨xm,f3,f4⟩
  replace hx:=hx.trans xm
  replace rD:=rD.ext xm
  replace rN:=rN.ext xm
  replace rT:=rT.ext xm
  replace rP:=rP.ext xm
  refine N8 (ι:=Unit) (fun _=>[(2,.pointer (some ⟨bD,0,none⟩)),(3,.pointer (some ⟨bN,0,none⟩)),(5,.pointer (some ⟨bT,0,none⟩)),(6,.pointer (some ⟨bP,0,none⟩)),(7,.bool ok)]) (fun _ w6=>Ext w5 w6∧(t.kind=0→n.til≤d.len)) ?_ ?_
  · (repeat' (first|refine eV Z Z (A7 Z Z Z (rT.cellAt rfl)) ?_|refine eV Z Z (A7 Z Z Z (rN.cellAt rfl)) ?_|refine eV Z Z (A7 Z Z Z (rD.cellAt rfl)) ?_|refine Sy ?_|refine Dy (fun hh=>?_) fun hh=>?_))
    all_goals (first|(exfalso;omega)|exact A4 Z Z ⟨⟨_,rfl,fun h=>by omega⟩,hx⟩|exact G6 () ⟨rfl,rfl,rfl,rfl,rfl,trivial⟩ ⟨Ext.refl _,by omega⟩)
  rintro⟨⟩ w6 ⟨xm,f5⟩
  replace hx:=hx.trans xm
  replace rD:=rD.ext xm
  replace rN:=rN.ext xm
  replace rT:=rT.ext xm
  replace rP:=rP.ext xm
  refine N8 (ι:=Unit) (fun _=>[(2,.pointer (some ⟨bD,0,none⟩)),(3,.pointer (some ⟨bN,0,none⟩)),(5,.pointer (some ⟨bT,0,none⟩)),(6,.pointer (some ⟨bP,0,none⟩)),(7,.bool ok)]) (fun _ w7=>Ext w6 w7∧(bt=true→t.kind≠0→q.frm≤n.frm∧n.til≤q.til)) ?_ ?_
  · cases bt
    all_goals
      (repeat' (first|refine eV Z Z (A7 Z Z Z (rT.cellAt rfl)) ?_|refine eV Z Z (A7 Z Z Z (rN.cellAt rfl)) ?_|refine eV Z Z (A7 Z Z Z (rP.cellAt rfl)) ?_|(refine cqC (ct _) C5s fun wC xC=>?_;replace rT:=rT.ext xC;replace rN:=rN.ext xC;replace rP:=rP.ext xC)|refine Sy ?_|refine Dy (fun hh=>?_) fun hh=>?_))
      all_goals (first|(exfalso;omega)|exact A4 Z Z ⟨⟨_,rfl,fun h=>by omega⟩,hx.trans xC⟩|exact G6 () ⟨rfl,rfl,rfl,rfl,rfl,trivial⟩ ⟨xC,fun h=>Bool.noConfusion h⟩|exact G6 () ⟨rfl,rfl,rfl,rfl,rfl,trivial⟩ ⟨xC,fun _ h=>by omega⟩|exact G6 () ⟨rfl,rfl,rfl,rfl,rfl,trivial⟩ ⟨xC,fun _ h=>absurd (Classical.not_not.1 ‹_›) h⟩)
  rintro⟨⟩ w7 ⟨xm,f6⟩
  replace hx:=hx.trans xm
  replace rD:=rD.ext xm
  replace rN:=rN.ext xm
  replace rT:=rT.ext xm
  replace rP:=rP.ext xm
  (repeat' (first|refine eV Z Z (A7 Z Z Z (rT.cellAt rfl)) ?_|refine eV Z Z (A7 Z Z Z (rN.cellAt rfl)) ?_|refine Sy ?_|refine Dy (fun hh=>?_) fun hh=>?_))
  all_goals (first|(exfalso;omega)|exact A4 Z Z ⟨⟨_,rfl,fun h=>by omega⟩,hx⟩|skip)
  all_goals
    refine A4 Z Z ⟨⟨_,rfl,fun _=>⟨f1,fun h=>⟨q,hq1 (f2 h).1,(f2 h).2⟩,fun h=>?_,fun h=>?_,f5,fun h p hp=>?_,by omega⟩⟩,hx⟩
    · have h1:=f3 (by rw [hbt];exact h)
      rw [h1] at hbz
      simpa using hbz.symm
    · rw [← hbr];exact f4 (by rw [hbt];exact h)
    · have h0:t.kind≠0:=by omega
      have h1:=hq1 (f2 h0).1
      rw [h1] at hp;cases hp
      exact f6 (by rw [hbt];exact A3s.2 (by omega)) h0
end
end Go.Proofs.YtjicdgejhkgpgaaGreatDoor