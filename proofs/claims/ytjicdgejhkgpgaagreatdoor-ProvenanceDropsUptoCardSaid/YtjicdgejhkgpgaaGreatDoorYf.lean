/-
  Own text of the proof.
-/
import Derived.Test.YtjicdgejhkgpgaaGreatDoorYe
import Derived.Test.YtjicdgejhkgpgaaGreatDoorG
import Derived.Test.YtjicdgejhkgpgaaGreatDoorYb
import Derived.OwnWalk
import Derived.Test.YtjicdgejhkgpgaaGreatDoorYc
import Derived.Test.YtjicdgejhkgpgaaGreatDoorYd
set_option linter.all false
set_option maxHeartbeats 4000000
set_option maxRecDepth 8000
namespace Go.Proofs.YtjicdgejhkgpgaaGreatDoor
section
open Go.RowKit Go.En Go.Pv
def ctlB (c:UInt8):Bool:=decide (c.toNat<32)||decide (c.toNat=127)
def labB (s:List UInt8):Bool:=!(s.any ctlB)&&((points s).isSome&&(decide (1≤s.length)&&decide (s.length≤32)))
theorem lab_len {s:List UInt8} (h:labB s=true):1≤s.length∧s.length≤32:=by
  unfold labB at h
  simp only [Bool.and_eq_true,decide_eq_true_eq] at h
  exact h.2.2
attribute [local irreducible] E EL K Val Enters Rt Calls bodyPost Code.wp RQ
theorem A0n (s:List UInt8) (hs:s.length≤1048576) (w:World):Calls Tryz.prog 96 #[str s] w (Rt fun u w'=>u=.bool (labB s)∧Ext w w'):=by
  refine A6 (n:=38) (args:=[str s]) Tryz.func96 rfl Tryz.ntmps96 (by simp) ?_
  (repeat' (first|refine Sy ?_))
  refine B0 (ι:=Nat) (fun i=>[(0,str s),(3,int i)]) (fun i wr=>i≤s.length∧Ext w wr∧∀(j:Nat) (c:UInt8),j<i→s[j]?=some c→ctlB c=false) (fun i=>s.length-i) 0
    ⟨rfl,rfl,trivial⟩ ⟨Nat.zero_le _,Ext.refl _,fun j c hj=>absurd hj (by omega)⟩ ?_
  rintro i wr ⟨hi,hx,hall⟩
  by_cases hlt:i<s.length
  · obtain ⟨c, hc⟩ : ∃ c, s[i]? = some c := ⟨_, List.getElem?_eq_getElem hlt⟩
    (repeat' (first|refine eV Z Z (J1 Z Z Z Z hc) ?_|refine Sy ?_|refine Dy (fun hh=>?_) fun hh=>?_))
    all_goals (try (exfalso;omega))
    all_goals first
      | (have hct : ctlB c = true := by unfold ctlB; simp; omega
         have:labB s=false:=by
           unfold labB
           rw [show s.any ctlB=true from List.any_eq_true.2 ⟨c,List.mem_of_getElem? hc,hct⟩];rfl
         rw [this]
         exact A4 Z Z ⟨rfl,hx⟩)
      | (have hct : ctlB c = false := by unfold ctlB; simp; omega
         refine B3 (i+1) ⟨rfl,rfl,trivial⟩ ⟨by omega,hx,fun j c' hj hc'=>?_⟩ (by omega)
         by_cases e:j=i
         · subst e;rw [hc] at hc';cases hc';exact hct
         · exact hall j c' (by omega) hc')
  · obtain rfl:i=s.length:=by omega
    have hany:s.any ctlB=false:=by
      rw [List.any_eq_false]
      intro c hc
      obtain⟨j,hj⟩:=List.getElem?_of_mem hc
      rw [hall j c (List.getElem?_eq_some_iff.1 hj).1 hj];simp
    have hf:=A4o s (by omega) wr
    cases hp:points s with
    | none=>
      have:labB s=false:=by unfold labB;rw [hp,hany];rfl
      rw [this]
      rw [hp] at hf
      (repeat' (first|(refine A8 Z Z (A5 Z Z C0t) hf (fun vC wC hC=>?_);obtain⟨xC,hv⟩:=hC;obtain rfl:=hv)|refine Sy ?_|refine Dy (fun hh=>?_) fun hh=>?_))
      all_goals (try (exfalso;omega))
      exact A4 Z Z ⟨rfl,hx.trans xC⟩
    | some zs=>
      have hl:labB s=(decide (1≤s.length)&&decide (s.length≤32)):=by unfold labB;rw [hp,hany];rfl
      rw [hl]
      rw [hp] at hf
      (repeat' (first|(refine A8 Z Z (A5 Z Z C0t) hf (fun vC wC hC=>?_);obtain⟨xC,v,hv,hown⟩:=hC;obtain rfl:=hv)|refine Sy ?_|refine Dy (fun hh=>?_) fun hh=>?_))
      all_goals (try (exfalso;omega))
      all_goals
        refine A4 Z Z ⟨?_,hx.trans xC⟩
        congr 1
        by_cases h1:1≤s.length <;> by_cases h2:s.length≤32 <;> simp [h1,h2] <;> omega
theorem A2v (s:List UInt8) (hs:s.length≤1048576) (w:World):Calls Tryz.prog 149 #[str s] w (Rt fun u w'=>(∃ b,u=.bool b∧(b=true→1≤s.length∧s.length≤32))∧Ext w w'):=by
  refine A6 (n:=16) (args:=[str s]) Tryz.func149 rfl Tryz.ntmps149 (by simp) ?_
  (repeat' (first|refine Sy ?_))
  refine B0 (ι:=Nat) (fun i=>[(0,str s),(3,int i)]) (fun i wr=>i≤s.length∧Ext w wr) (fun i=>s.length-i) 0
    ⟨rfl,rfl,trivial⟩ ⟨Nat.zero_le _,Ext.refl _⟩ ?_
  rintro i wr ⟨hi,hx⟩
  by_cases hlt:i<s.length
  · obtain⟨c,hc⟩:∃ c,s[i]?=some c:=⟨_,List.getElem?_eq_getElem hlt⟩
    (repeat' (first|refine eV Z Z (J1 Z Z Z Z hc) ?_|refine Sy ?_|refine Dy (fun hh=>?_) fun hh=>?_))
    all_goals (try (exfalso;omega))
    all_goals first
      | exact A4 Z Z ⟨⟨_,rfl,fun h=>by cases h⟩,hx⟩
      | exact B3 (i+1) ⟨rfl,rfl,trivial⟩ ⟨by omega,hx⟩ (by omega)
  · obtain rfl:i=s.length:=by omega
    (repeat' (first|(refine cqC (A0n s hs _) en96 fun wC xC=>?_)|refine Sy ?_|refine Dy (fun hh=>?_) fun hh=>?_))
    all_goals (try (exfalso;omega))
    exact A4 Z Z ⟨⟨_,rfl,lab_len⟩,hx.trans xC⟩
theorem B8b (l:List Txt) (s:List UInt8) (v:Value) (w:World) (hv:Sl w v l):Calls Tryz.prog 150 #[v,str s] w (Rt fun u w'=>(∃ b,u=.bool b)∧Ext w w'):=by
  have hv0:=hv
  obtain⟨a,cap,rfl,hc,hm,hp⟩:=hv.sl
  refine A6 (n:=18) (args:=[.slice a l.length cap,str s]) Tryz.func150 rfl Tryz.ntmps150 (by simp) ?_
  (repeat' (first|refine Sy ?_))
  refine B0 (ι:=Nat) (fun i=>[(0,.slice a l.length cap),(1,str s),(5,int i)]) (fun i wr=>i≤l.length∧Ext w wr) (fun i=>l.length-i) 0
    ⟨rfl,rfl,rfl,trivial⟩ ⟨Nat.zero_le _,Ext.refl _⟩ ?_
  rintro i wr ⟨hi,hx⟩
  by_cases hlt:i<l.length
  · obtain⟨b,off,rfl⟩:=hp (by omega)
    obtain⟨x,hx1⟩:∃ x,l[i]?=some x:=⟨_,List.getElem?_eq_getElem hlt⟩
    have hat:=(Go.Pv.txt_elem (hv0.ext hx) hx1).one
    (repeat' (first|refine eV Z Z (A0 (m:=i) Z Z Z Z hlt) ?_|refine Ly ?_|refine Dy (fun hh=>?_) fun hh=>?_))
    all_goals (try (exfalso;omega))
    all_goals first
      | exact A4 Z Z ⟨⟨_,rfl⟩,hx⟩
      | exact B3 (i+1) ⟨rfl,rfl,rfl,trivial⟩ ⟨by omega,hx⟩ (by omega)
  · (repeat' (first|refine Sy ?_|refine Dy (fun hh=>?_) fun hh=>?_))
    all_goals (try (exfalso;omega))
    exact A4 Z Z ⟨⟨_,rfl⟩,hx⟩
theorem B2l (segs : List Ph) (hn : ∀ p ∈ segs, p.name.length ≤ 1048576) (v : Value) (w : World) (hv : Sl w v segs) : Calls Tryz.prog 117 #[.agg #[v] ] w (Rt fun u w' => (∃ e : Int, u = int e) ∧ Ext w w') := by
  have hv0:=hv
  obtain⟨a,cap,rfl,hc,hm,hp⟩:=hv.sl
  refine A6 (n:=58) (args:=[.agg #[.slice a segs.length cap] ]) Tryz.func117 rfl Tryz.ntmps117 (by simp) ?_
  refine B4 ?_
  refine A9 ?_
  refine C6 Z Z Z Z (fun bX wX xX hbX rX0=>?_)
  have rX:Row wX bX 25 [.slice a segs.length cap]:=rX0
  clear rX0
  by_cases h60:segs.length>60
  · (repeat' (first|refine Ly ?_|refine Dy (fun hh=>?_) fun hh=>?_))
    all_goals (try (exfalso;omega))
    exact A4 Z Z ⟨⟨_,rfl⟩,xX⟩
  · (repeat' (first|refine Ly ?_|refine Dy (fun hh=>?_) fun hh=>?_))
    all_goals (try (exfalso;omega))
    refine B0 (ι:=Nat) (fun i=>[(1,.pointer (some ⟨bX,0,none⟩)),(11,int segs.length),(12,int i)]) (fun i wr=>i≤segs.length∧Ext wX wr) (fun i=>segs.length-i) 0
      ⟨rfl,rfl,rfl,trivial⟩ ⟨Nat.zero_le _,Ext.refl _⟩ ?_
    rintro i wr ⟨hi,hx⟩
    replace rX:=rX.ext hx
    have hX:=xX.trans hx
    by_cases hlt:i<segs.length
    · obtain⟨b,off,rfl⟩:=hp (by omega)
      obtain⟨p,hp1⟩:∃ p,segs[i]?=some p:=⟨_,List.getElem?_eq_getElem hlt⟩
      have hat:=B1j (hv0.ext hX) hp1
      have cl:=A0n p.name (hn p (List.mem_of_getElem? hp1)) wr
      cases hb:labB p.name with
      | false=>
        rw [hb] at cl
        (repeat' (first|refine eV Z Z (A0 (m:=i) Z Z Z Z hlt) ?_|(refine cqC cl en96 fun wC xC=>?_)|refine Ly ?_|refine Dy (fun hh=>?_) fun hh=>?_))
        all_goals (try (exfalso;omega))
        exact A4 Z Z ⟨⟨_,rfl⟩,hX.trans xC⟩
      | true=>
        rw [hb] at cl
        (repeat' (first|refine eV Z Z (A0 (m:=i) Z Z Z Z hlt) ?_|(refine cqC cl en96 fun wC xC=>?_)|refine Ly ?_|refine Dy (fun hh=>?_) fun hh=>?_))
        all_goals (try (exfalso;omega))
        refine B0 (ι:=Nat) (fun k=>[(1,.pointer (some ⟨bX,0,none⟩)),(3,int i),(4,int k),(11,int segs.length),(12,int i)]) (fun k wk=>k≤i∧Ext wC wk) (fun k=>i-k) 0
          ⟨rfl,rfl,rfl,rfl,rfl,trivial⟩ ⟨Nat.zero_le _,Ext.refl _⟩ ?_
        rintro k wk ⟨hk,hxk⟩
        have rXk:=(rX.ext xC).ext hxk
        have hatk:=(hat.ext xC).ext hxk
        by_cases hlk:k<i
        · obtain⟨q,hq1⟩:∃ q,segs[k]?=some q:=⟨_,List.getElem?_eq_getElem (by omega)⟩
          have hatq:=B1j (hv0.ext (hX.trans (xC.trans hxk))) hq1
          (repeat' (first|refine yV Z Z (fun _ _ _=>A0 (m:=i) Z Z Z Z hlt) ?_|refine yV Z Z (fun _ _ _=>A0 (m:=k) Z Z Z Z (by omega)) ?_|refine Sy ?_|refine Dy (fun hh=>?_) fun hh=>?_|refine yqY ?_|refine yqZ ?_|refine yqX (fun hh=>?_) fun hh=>?_|refine E_dq B5 (by kernel_rfl) Z ?_|refine yN Z (fun wq xq=>?_)))
          all_goals (try (exfalso;omega))
          all_goals first
            | exact A4 Z Z ⟨⟨_,rfl⟩,hX.trans (xC.trans (hxk.trans xq))⟩
            | exact B3 (k+1) ⟨rfl,rfl,rfl,rfl,rfl,trivial⟩ ⟨by omega,hxk.trans xq⟩ (by omega)
        · (repeat' (first|refine eV Z Z (A0 (m:=i) Z Z Z Z hlt) ?_|refine Ly ?_|refine Dy (fun hh=>?_) fun hh=>?_))
          all_goals (try (exfalso;omega))
          all_goals first
            | exact A4 Z Z ⟨⟨_,rfl⟩,hX.trans (xC.trans hxk)⟩
            | exact B3 (i+1) ⟨rfl,rfl,rfl,trivial⟩ ⟨by omega,hx.trans (xC.trans hxk)⟩ (by omega)
    · (repeat' (first|refine Ly ?_|refine Dy (fun hh=>?_) fun hh=>?_))
      all_goals (try (exfalso;omega))
      exact A4 Z Z ⟨⟨_,rfl⟩,hX⟩
end
end Go.Proofs.YtjicdgejhkgpgaaGreatDoor
namespace Go.En
open Go.RowKit
section
variable {P : Program} {n : Nat} {ops rest : List Oper} {Q : Post} {L : List (Nat × Value)} {w : World} {o o2 : Oper}
theorem C2 {d:Nat} {t:TypeId} {x:Operand} {cs:List Value} (hg:gst ops L o=some true) (ho:o.op=.box t x) (hx:ev L x=some (.agg cs.toArray)) (hd:odst n o.dst=some d)
    (k:∀ b w',Ext w w'→b=w.heap.size→Row w' b t cs→EL P n ops Q rest ((d,(.pointer (some ⟨b,0,none⟩)))::L) w'):EL P n ops Q (o::rest) L w:=
  C6 hg ho hx hd (fun b w' x e r=>k b w' x e (by simpa [Value.cells] using r))
theorem C1 {d:Nat} {t:TypeId} {y:Operand} {cs:List Value} {z:Value} {size bytes:Nat} [TI P t z size bytes] (hg:gst ops L o=some true) (ho:o.op=.alloc t) (hd:odst n o.dst=some d) (hz:Nat.beq z.cells.toList.length cs.length=true)
    (ho2:o2.op=.store t (.tmp d) y) (hd2:o2.dst=none) (hg2:gst ops ((d,(.pointer (some ⟨w.heap.size,0,none⟩)))::L) o2=some true) (hy:ev ((d,(.pointer (some ⟨w.heap.size,0,none⟩)))::L) y=some (.agg cs.toArray)) (hs:Nat.beq cs.length size=true) (h1:cs.all Value.oneCell'=true)
    (k:∀ b w',Ext w w'→b=w.heap.size→Row w' b t cs→EL P n ops Q rest ((d,(.pointer (some ⟨b,0,none⟩)))::L) w'):EL P n ops Q (o::o2::rest) L w:=
  C3 hg ho hd fun b w1 x1 hb r1=>by
    subst hb
    refine B7 (off:=0) (cs:=cs) r1 x1 (Nat.le_refl _) hg2 hd2 ho2 (by simp [ev,lk]) hy (by simp [Value.cells]) hs h1 (by have:=Nat.eq_of_beq_eq_true hz;omega) (fun w2 r2 x2 _=>?_)
    refine k _ w2 x2 rfl ?_
    have e:z.cells.toList.length=cs.length:=Nat.eq_of_beq_eq_true hz
    have:z.cells.toList.take 0++cs++z.cells.toList.drop (0+cs.length)=cs:=by rw [Nat.zero_add,← e];simp
    rw [this] at r2
    exact r2
end
end Go.En
namespace Go.En
open Go.RowKit
theorem RQ_asgS {P:Program} {n:Nat} {ops:List Oper} {Q:Post} {o:Oper} {rest tl:List Oper} {G:List (Nat × Ent)} {w0:World} {α:Type} [Rep α] {d s:Nat} {g:Nat→Prop} {xs:List α} (hg:ggst ops G o=some true) (hd:odst n o.dst=some d) (ho:o.op=.assign (.tmp s)) (hr:gk G s=some (.r (fun u w'=>SlG g w' u xs)))
    (hl:∀ δ,lk (mat δ G) s=some (δ s)) (k:RQ P n ops w0 Q rest tl ((d,.r (fun u w'=>SlG g w' u xs))::G)):RQ P n ops w0 Q (o::rest) tl G:=
  N7 (fun u w'=>SlG g w' u xs) hg hd (fun _ _ _ _ xe h=>SlG.ext h xe) (fun w δ _ hs=>⟨δ s,M2 ho (hl δ),hs s (by rw [ho];simp [Op.operands,isT]) _ hr⟩) k
theorem RQ_valV {P:Program} {n:Nat} {ops:List Oper} {Q:Post} {o:Oper} {rest tl:List Oper} {G:List (Nat × Ent)} {w0:World} {d:Nat} {v:Value} (hg:ggst ops G o=some true) (hd:odst n o.dst=some d)
    (h:∀ w δ,Ext w0 w→SatO o δ G w→Val P (mat δ G) w o v) (k:RQ P n ops w0 Q rest tl ((d,.v v)::G)):RQ P n ops w0 Q (o::rest) tl G:=
  A0v (T:=.v v) hg (C9 hd).2 (fun _ _ _ _ _ h=>h) (fun w δ hw hs ρ ha=>.inl ⟨v,w,h w δ hw hs ρ ha,rfl,Ext.refl w⟩) (by rw [(C9 hd).1];exact k)
theorem A5r {P:Program} {n:Nat} {ops:List Oper} {Q:Post} {o:Oper} {rest tl:List Oper} {G:List (Nat × Ent)} {w0:World} {α:Type} [Rep α] {d s:Nat} {g:Nat→Prop} {xs:List α} {t e:TypeId} [UT P t (.slice e)] (hg:ggst ops G o=some true) (hd:odst n o.dst=some d) (ho:o.op=.call { callee:=.builtin .len,args:=#[.tmp s],argTypes:=#[t] }) (hr:gk G s=some (.r (fun u w'=>SlG g w' u xs)))
    (hl:∀ δ,lk (mat δ G) s=some (δ s)) (k:RQ P n ops w0 Q rest tl ((d,.v (int xs.length))::G)):RQ P n ops w0 Q (o::rest) tl G:=
  RQ_valV hg hd (fun w δ _ hs=>by
    obtain⟨a,c,e1,_,_,_⟩:=(SlG.sl (hs s (by rw [ho];simp [Op.operands,Call.operands,isT]) _ hr))
    exact A5x ho ((hl δ).trans (by rw [e1]))) k
theorem B9x {P:Program} {n:Nat} {L:List (Nat × Value)} {w:World} {fn:Func} {S:Value→World→Prop} {t u s:Tmp} {v x y:Value} (hr:fn.results=#[.tmp t,.tmp u,.tmp s]) (hv:lk L t=some v) (hx:lk L u=some x) (hy:lk L s=some y) (hs:S (.tuple #[v,x,y]) w):K n (bodyPost P fn (Rt S)) .ret L w:=fun a ha=>by
  refine⟨ha.nod,.tuple #[v,x,y],?_,_,rfl,hs⟩
  have h1:=ha.get t v hv
  have h2:=ha.get u x hx
  have h3:=ha.get s y hy
  rw [results_tmp3 hr]
  simp [Array.getD_eq_getD_getElem?,h1,h2,h3]
end Go.En
namespace Go.Proofs.YtjicdgejhkgpgaaGreatDoor
section
open Go.RowKit Go.En
def A4t (r:Int):Int:=if r=1 then 0 else if r=3 then 3 else if r=4∨r=5 then 4 else -1
def A6t (r:Int):Int:=if r=2∨r=5 then 1 else if r=3 then 2 else if r=4 then 3 else -1
theorem C4a:TwoInts Tryz.prog 76 3:=⟨by kernel_rfl,by kernel_rfl,by kernel_rfl,by kernel_rfl,Tryz.underlying3⟩
attribute [local irreducible] E EL K Val Enters Rt Calls bodyPost Code.wp RQ
theorem A9e (k:Int) (w:World):Calls Tryz.prog 142 #[int k] w (Rt fun u w'=>u=.bool (G4 k)∧Ext w w'):=by
  refine A6 (n:=13) (args:=[int k]) Tryz.func142 rfl Tryz.ntmps142 (by simp) ?_
  (repeat' (first|refine Sy ?_|refine Dy (fun hh=>?_) fun hh=>?_))
  all_goals (first|(exfalso;omega)|skip)
  all_goals exact A4 Z Z ⟨by simp [G4, *],Ext.refl _⟩
theorem A5e (k:Int) (w:World):Calls Tryz.prog 174 #[int k] w (Rt fun u w'=>u=.bool (G4 k)∧Ext w w'):=by
  refine A6 (n:=13) (args:=[int k]) Tryz.func174 rfl Tryz.ntmps174 (by simp) ?_
  (repeat' (first|refine Sy ?_|refine Dy (fun hh=>?_) fun hh=>?_))
  all_goals (first|(exfalso;omega)|skip)
  all_goals exact A4 Z Z ⟨by simp [G4, *],Ext.refl _⟩
theorem B4p (k:Int) (w:World):Calls Tryz.prog 202 #[int k] w (Rt fun u w'=>u=int (A4t k)∧Ext w w'):=by
  refine A6 (n:=11) (args:=[int k]) Tryz.func202 rfl Tryz.ntmps202 (by simp) ?_
  (repeat' (first|refine Sy ?_|refine Dy (fun hh=>?_) fun hh=>?_))
  all_goals (first|(exfalso;omega)|skip)
  all_goals exact A4 Z Z ⟨by simp [A4t, *],Ext.refl _⟩
theorem B4d (k:Int) (w:World):Calls Tryz.prog 203 #[int k] w (Rt fun u w'=>u=int (A6t k)∧Ext w w'):=by
  refine A6 (n:=11) (args:=[int k]) Tryz.func203 rfl Tryz.ntmps203 (by simp) ?_
  (repeat' (first|refine Sy ?_|refine Dy (fun hh=>?_) fun hh=>?_))
  all_goals (first|(exfalso;omega)|skip)
  all_goals exact A4 Z Z ⟨by simp [A6t, *],Ext.refl _⟩
theorem A6j (a b:Int) (w:World):Calls Tryz.prog 204 #[.agg #[int a,int b]] w (Rt fun u w'=>u=.bool (A6m a b)∧Ext w w'):=by
  refine A6 (n:=18) (args:=[.agg #[int a,int b]]) Tryz.func204 rfl Tryz.ntmps204 (by simp) ?_
  refine B4 ?_
  refine A9 ?_
  refine C6 Z Z Z Z (fun bB wB xB hbB rB=>?_)
  (repeat' (first|refine eV Z Z (A7 Z Z Z (rB.cellAt rfl)) ?_|refine Sy ?_|refine Dy (fun hh=>?_) fun hh=>?_))
  all_goals (first|(exfalso;omega)|skip)
  all_goals exact A4 Z Z ⟨by unfold A6m;congr 1;simp;omega,xB⟩
theorem A9l (s:List UInt8) (w:World) (hl:s.length≤9223372036854775807):Calls Tryz.prog 147 #[str s] w (Rt fun u w'=>(∃ b,u=.bool b)∧Ext w w'):=by
  refine A6 (n:=59) (args:=[str s]) Tryz.func147 rfl Tryz.ntmps147 (by simp) ?_
  (repeat' (first|refine Sy ?_))
  refine B0 (ι:=Nat) (fun i=>[(0,str s),(3,int i)]) (fun i wr=>i≤s.length∧Ext w wr) (fun i=>s.length-i) 0
    ⟨rfl,rfl,trivial⟩ ⟨Nat.zero_le _,Ext.refl _⟩ ?_
  rintro i wr ⟨hi,hx⟩
  by_cases hlt:i<s.length
  · obtain⟨c,hc⟩:∃ c,s[i]?=some c:=⟨_,List.getElem?_eq_getElem hlt⟩
    (repeat' (first|refine eV Z Z (J1 (m:=i) Z Z Z Z hc) ?_|refine Sy ?_|refine Dy (fun hh=>?_) fun hh=>?_))
    all_goals (first|(exfalso;omega)|skip)
    all_goals (first|exact B3 (i+1) ⟨rfl,rfl,trivial⟩ ⟨by omega,hx⟩ (by omega)|exact A4 Z Z ⟨⟨_,rfl⟩,hx⟩)
  · (repeat' (first|refine Sy ?_|refine Dy (fun hh=>?_) fun hh=>?_))
    all_goals (first|(exfalso;omega)|skip)
    all_goals exact A4 Z Z ⟨⟨_,rfl⟩,hx⟩
end
section
open Go.RowKit Go.En
attribute [local irreducible] E EL K Val Enters Rt Calls bodyPost Code.wp RQ
theorem B3k (s : List UInt8) (w : World) : Calls Tryz.prog 97 #[str s] w (Rt fun u w' => (∃ e : Int, u = int e ∧ (e = 0 → C6t s)) ∧ Ext w w') := by
  refine A6 (n:=34) (args:=[str s]) Tryz.func97 rfl Tryz.ntmps97 (by simp) ?_
  by_cases h200:s.length≤200
  · have hf:=A4o s (by omega) w
    cases hp:points s with
    | none=>
      rw [hp] at hf
      (repeat' (first|(refine A8 Z Z (A5 Z Z C0t) hf (fun vC wC hC=>?_);obtain⟨xC,hv⟩:=hC;obtain rfl:=hv)|refine Sy ?_|refine Dy (fun hh=>?_) fun hh=>?_))
      all_goals (first|(exfalso;omega)|skip)
      exact A4 Z Z ⟨⟨_,rfl,fun h=>by omega⟩,xC⟩
    | some zs=>
      rw [hp] at hf
      (repeat' ((fail_if_success (refine B4 (x:=(Code.region 6 _ _)) ?_));first|(refine A8 Z Z (A5 Z Z C0t) hf (fun vC wC hC=>?_);obtain⟨xC,v,hv,hown⟩:=hC;obtain rfl:=hv)|refine Sy ?_|refine Dy (fun hh=>?_) fun hh=>?_))
      all_goals (first|(exfalso;omega)|skip)
      obtain⟨a,cap,rfl,hc,hat⟩:=B7p hown
      have hzl:=(R8 _ s zs (Nat.le_refl _) hp).1
      (repeat' (first|refine Sy ?_))
      refine B0 (ι:=Nat) (fun i=>[(3,.slice a zs.length cap),(5,int i)]) (fun i wr=>i≤zs.length∧Ext wC wr∧∀ j,j<i→∀ z,zs[j]?=some z→32≤z∧z≠127) (fun i=>zs.length-i) 0
        ⟨rfl,rfl,trivial⟩ ⟨Nat.zero_le _,Ext.refl _,fun j hj=>by omega⟩ ?_
      rintro i wr ⟨hi,hx,hall⟩
      by_cases hlt:i<zs.length
      · obtain⟨b,off,rfl,hat2⟩:=hat (by omega)
        obtain⟨z,hz⟩:∃ z,zs[i]?=some z:=⟨_,List.getElem?_eq_getElem hlt⟩
        have hcell:=(hat2.ext hx).ith hz
        (repeat' (first|refine eV Z Z (A0 (m:=i) Z Z Z Z (by omega)) ?_|refine eV Z Z (A7 Z Z Z hcell) ?_|refine Sy ?_|refine Dy (fun hh=>?_) fun hh=>?_))
        all_goals (first|(exfalso;omega)|skip)
        all_goals (first|exact A4 Z Z ⟨⟨_,rfl,fun h=>by omega⟩,xC.trans hx⟩|skip)
        refine B3 (i+1) ⟨rfl,rfl,trivial⟩ ⟨by omega,hx,fun j hj z' hz'=>?_⟩ (by omega)
        by_cases hj2:j<i
        · exact hall j hj2 z' hz'
        · obtain rfl:j=i:=by omega
          rw [hz] at hz';cases hz';omega
      · (repeat' (first|refine Sy ?_|refine Dy (fun hh=>?_) fun hh=>?_))
        all_goals (first|(exfalso;omega)|skip)
        refine A4 Z Z ⟨⟨_,rfl,fun _=>⟨h200,zs,hp,fun z hz=>?_⟩⟩,xC.trans hx⟩
        obtain⟨j,hj⟩:=List.getElem?_of_mem hz
        exact hall j (by have:=(List.getElem?_eq_some_iff.1 hj).1;omega) z hj
  · (repeat' (first|refine Sy ?_|refine Dy (fun hh=>?_) fun hh=>?_))
    all_goals (first|(exfalso;omega)|skip)
    exact A4 Z Z ⟨⟨_,rfl,fun h=>by omega⟩,Ext.refl _⟩
theorem C0l (d : Dc) (v : Value) (id : Int) (w : World) (hv : DcAt w v d) : Calls Tryz.prog 52 #[v, int id] w (Rt fun u w' => u = getR d.notes id ∧ Ext w w') := by
  obtain⟨sv,tv,nv,rfl,_,_,hn⟩:=hv
  refine A6 (n:=28) (args:=[.agg #[int d.rid,str d.rname,int d.len,int d.day,sv,tv,nv],int id]) Tryz.func52 rfl Tryz.ntmps52 (by simp) ?_
  have hn0:=hn
  obtain⟨a,cap,rfl,hc,hm,hp⟩:=hn.sl
  refine B4 ?_
  refine A9 ?_
  refine C6 Z Z Z Z (fun bB wB xB hbB rB0=>?_)
  refine C3 Z Z Z (fun bA wA xA hbA rA0=>?_)
  have rB:=rB0.ext xA
  have x0:=xB.trans xA
  have hwB:w.heap.size≤bA:=by have:=xB.size;omega
  (repeat' (first|refine Sy ?_))
  refine B0 (ι:=Nat) (fun i=>[(1,int id),(2,.pointer (some ⟨bB,0,none⟩)),(4,.pointer (some ⟨bA,0,none⟩)),(6,int i)])
    (fun i wr=>i≤d.notes.length∧Ext wA wr∧∀ j,j<i→∀ q,d.notes[j]?=some q→decide (q.id=id)=false) (fun i=>d.notes.length-i) 0
    ⟨rfl,rfl,rfl,rfl,trivial⟩ ⟨Nat.zero_le _,Ext.refl _,fun j hj=>by omega⟩ ?_
  rintro i wr ⟨hi,hx,hall⟩
  have rBr:=rB.ext hx
  by_cases hlt:i<d.notes.length
  · obtain⟨b,off,rfl⟩:=hp (by omega)
    obtain⟨q,hq⟩:∃ q,d.notes[i]?=some q:=⟨_,List.getElem?_eq_getElem hlt⟩
    have hat:=D7 (hn0.ext (x0.trans hx)) hq
    (repeat' (first|refine eV Z Z (A7 Z Z Z (rBr.cellAt rfl)) ?_|refine eV Z Z (A0 (m:=i) Z Z Z Z hlt) ?_|refine eV Z Z (A7 Z Z Z (hat.cellAt (j:=0) Z)) ?_|refine eV Z Z (B8 Z Z Z hat rfl) ?_|refine Sy ?_|refine Dy (fun hh=>?_) fun hh=>?_))
    all_goals (first|(exfalso;omega)|skip)
    · refine B7 (cs:=B9 q) (rA0.ext hx) (x0.trans hx) hwB rfl rfl rfl rfl rfl rfl rfl rfl (Nat.le_refl _) (fun w9 r9 x9 k9=>?_)
      (repeat' (first|refine Sy ?_))
      refine M4 Z Z Z r9.at rfl rfl ⟨?_,x9⟩
      unfold getR getF
      rw [A1c hall hq (by simpa using ‹q.id=id›)]
      rfl
    · refine B3 (i+1) ⟨rfl,rfl,rfl,rfl,trivial⟩ ⟨by omega,hx,fun j hj q' hq'=>?_⟩ (by omega)
      by_cases hj2:j<i
      · exact hall j hj2 q' hq'
      · obtain rfl:j=i:=by omega
        rw [hq] at hq';cases hq'
        exact decide_eq_false ‹_›
  · (repeat' (first|refine eV Z Z (A7 Z Z Z (rBr.cellAt rfl)) ?_|refine eV Z Z (B6 (vs:=[]) (B9 A1d) Z Z Z) ?_|refine Sy ?_|refine Dy (fun hh=>?_) fun hh=>?_))
    all_goals (first|(exfalso;omega)|skip)
    refine B7 (cs:=B9 A1d) (rA0.ext hx) (x0.trans hx) hwB rfl rfl rfl rfl rfl rfl rfl rfl (Nat.le_refl _) (fun w9 r9 x9 k9=>?_)
    (repeat' (first|refine Sy ?_))
    refine M4 Z Z Z r9.at rfl rfl ⟨?_,x9⟩
    unfold getR getF
    rw [List.find?_eq_none.2 fun q hq=>?_]
    · rfl
    · obtain⟨j,hj⟩:=List.getElem?_of_mem hq
      have:=(List.getElem?_eq_some_iff.1 hj).1
      simpa using hall j (by omega) q hj
end
section
open Go.RowKit Go.En
theorem int_elem {G:Nat→Prop} {w:World} {b off n cap:Nat} {xs:List Int} (h:SlG G w (.slice (some ⟨b,off,none⟩) n cap) xs) {i:Nat} {x:Int} (hx:xs[i]?=some x):w.cell? ⟨b,off+i*1,none⟩=some (int x):=by
  obtain⟨cs,h1,h2⟩:=h.elem hx
  rw [show cs=[int x] from h1] at h2
  exact h2.one
def cmpI (a b:Int):Int:=if a<b then -1 else if b<a then 1 else 0
attribute [local irreducible] E EL K Val Enters Rt Calls bodyPost Code.wp RQ
theorem A8y (k:Int) (w:World):Calls Tryz.prog 106 #[int k] w (Rt fun u w'=>u=.bool (G4 k)∧Ext w w'):=by
  refine A6 (n:=10) (args:=[int k]) Tryz.func106 rfl Tryz.ntmps106 (by simp) ?_
  (repeat' (first|refine Sy ?_|refine Dy (fun hh=>?_) fun hh=>?_))
  all_goals (first|(exfalso;omega)|skip)
  all_goals exact A4 Z Z ⟨by simp [G4, *],Ext.refl _⟩
theorem A8e (d : Dc) (tv : Value) (k : Int) (w : World) (ht : Sl w tv d.tiers) : Calls Tryz.prog 68 #[tv, int k] w (Rt fun u w' => u = .bool (K7 d k) ∧ Ext w w') := by
  refine A6 (n:=21) (args:=[tv,int k]) Tryz.func68 rfl Tryz.ntmps68 (by simp) ?_
  have ht0:=ht
  obtain⟨a,cap,rfl,hc,hm,hp⟩:=ht.sl
  by_cases hk:0≤k∧k<d.tiers.length
  · obtain⟨j,rfl⟩:∃ j:Nat,k=(j:Int):=⟨k.toNat,by omega⟩
    obtain⟨b,off,rfl⟩:=hp (by omega)
    obtain⟨t,htt⟩:∃ t,d.tiers[j]?=some t:=⟨_,List.getElem?_eq_getElem (by omega)⟩
    have hat:=K0 ht0 htt
    rw [B9b htt]
    have ca:=A8y t.kind
    (repeat' (first|refine eV Z Z (A0 (m:=j) Z Z Z Z (by omega)) ?_|refine eV Z Z (A7 Z Z Z (hat.cellAt (j:=1) Z)) ?_|(refine cqC (ca _) en106 fun wC xC=>?_)|refine Sy ?_|refine Dy (fun hh=>?_) fun hh=>?_))
    all_goals (first|(exfalso;omega)|skip)
    exact A4 Z Z ⟨rfl,xC⟩
  · have hf:K7 d k=false:=by
      unfold K7
      split
      · rename_i t h
        have:=(List.getElem?_eq_some_iff.1 h).1
        rw [decide_eq_false (by omega),Bool.false_and]
      · rfl
    rw [hf]
    (repeat' (first|refine Sy ?_|refine Dy (fun hh=>?_) fun hh=>?_))
    all_goals (first|(exfalso;omega)|skip)
    all_goals exact A4 Z Z ⟨rfl,Ext.refl _⟩
theorem C2c (a:Int) (w:World):Calls Tryz.prog 189 #[int a] w (Rt fun u w'=>u=.bool false∧Ext w w'):=by
  refine A6 (n:=6) (args:=[int a]) Tryz.func189 rfl Tryz.ntmps189 (by simp) ?_
  (repeat' (first|refine Sy ?_|refine Dy (fun hh=>?_) fun hh=>?_))
  all_goals (first|(exact absurd rfl ‹_›)|skip)
  all_goals exact A4 Z Z ⟨rfl,Ext.refl _⟩
theorem B5p (a b:Int) (w:World):Calls Tryz.prog 145 #[int a,int b] w (Rt fun u w'=>u=int (cmpI a b)∧Ext w w'):=by
  refine A6 (n:=20) (args:=[int a,int b]) Tryz.func145 rfl Tryz.ntmps145 (by simp) ?_
  have hX:=Ext.refl w
  (repeat' (first|(refine cqC (C2c _ _) en189 fun wC xC=>?_;replace hX:=hX.trans xC)|refine Sy ?_|refine Dy (fun hh=>?_) fun hh=>?_))
  all_goals exact A4 Z Z ⟨by unfold cmpI;congr 1;split <;>(try split) <;> omega,hX⟩
theorem A2l (d : Dc) (v : Value) (id : Int) (w : World) (hv : DcAt w v d) : Calls Tryz.prog 36 #[v, int id] w (Rt fun u w' => u = getR d.notes id ∧ Ext w w') := by
  obtain⟨sv,tv,nv,rfl,_,_,hn⟩:=hv
  refine A6 (n:=22) (args:=[.agg #[int d.rid,str d.rname,int d.len,int d.day,sv,tv,nv],int id]) Tryz.func36 rfl Tryz.ntmps36 (by simp) ?_
  have hn0:=hn
  obtain⟨a,cap,rfl,hc,hm,hp⟩:=hn.sl
  refine B4 ?_
  refine A9 ?_
  refine C6 Z Z Z Z (fun bB wB xB hbB rB0=>?_)
  refine C3 Z Z Z (fun bA wA xA hbA rA0=>?_)
  have rB:=rB0.ext xA
  have x0:=xB.trans xA
  have hwB:w.heap.size≤bA:=by have:=xB.size;omega
  (repeat' (first|refine eV Z Z (A7 Z Z Z (rB.cellAt rfl)) ?_|refine Sy ?_))
  refine B0 (ι:=Nat) (fun i=>[(1,int id),(4,.pointer (some ⟨bA,0,none⟩)),(9,.slice a d.notes.length cap),(10,int d.notes.length),(11,int i)])
    (fun i wr=>i≤d.notes.length∧Ext wA wr∧∀ j,j<i→∀ q,d.notes[j]?=some q→decide (q.id=id)=false) (fun i=>d.notes.length-i) 0
    ⟨rfl,rfl,rfl,rfl,rfl,trivial⟩ ⟨Nat.zero_le _,Ext.refl _,fun j hj=>by omega⟩ ?_
  rintro i wr ⟨hi,hx,hall⟩
  by_cases hlt:i<d.notes.length
  · obtain⟨b,off,rfl⟩:=hp (by omega)
    obtain⟨q,hq⟩:∃ q,d.notes[i]?=some q:=⟨_,List.getElem?_eq_getElem hlt⟩
    have hat:=D7 (hn0.ext (x0.trans hx)) hq
    (repeat' (first|refine eV Z Z (A0 (m:=i) Z Z Z Z hlt) ?_|refine eV Z Z (B8 Z Z Z hat rfl) ?_|refine Sy ?_|refine Dy (fun hh=>?_) fun hh=>?_))
    all_goals (first|(exfalso;omega)|skip)
    refine C3 Z Z Z (fun b7 w7 x7 hb7 r7=>?_)
    refine B7 (cs:=B9 q) r7 x7 (by omega) Z Z Z Z Z Z Z Z (Nat.le_refl _) (fun w8 r8' x8 k8=>?_)
    have r8:Row w8 b7 80 (B9 q):=r8'
    clear r8'
    (repeat' (first|refine eV Z Z (A7 Z Z Z (r8.cellAt rfl)) ?_|refine eV Z Z (B8 Z Z Z r8.at rfl) ?_|refine Sy ?_|refine Dy (fun hh=>?_) fun hh=>?_))
    · refine B7 (cs:=B9 q) (rA0.ext (hx.trans x8)) (x0.trans (hx.trans x8)) hwB rfl rfl rfl rfl rfl rfl rfl rfl (Nat.le_refl _) (fun w9 r9 x9 k9=>?_)
      (repeat' (first|refine Sy ?_))
      refine M4 Z Z Z r9.at rfl rfl ⟨?_,x9⟩
      unfold getR getF
      rw [A1c hall hq (by simpa using ‹q.id=id›)]
      rfl
    · exact B3 (i+1) ⟨rfl,rfl,rfl,rfl,rfl,trivial⟩ ⟨by omega,hx.trans x8,fun j hj q' hq'=>by
        by_cases hj2:j<i
        · exact hall j hj2 q' hq'
        · obtain rfl:j=i:=by omega
          rw [hq] at hq';cases hq'
          exact decide_eq_false ‹_›⟩ (by omega)
  · (repeat' (first|refine eV Z Z (B6 (vs:=[]) (B9 A1d) Z Z Z) ?_|refine Sy ?_|refine Dy (fun hh=>?_) fun hh=>?_))
    all_goals (first|(exfalso;omega)|skip)
    refine B7 (cs:=B9 A1d) (rA0.ext hx) (x0.trans hx) hwB rfl rfl rfl rfl rfl rfl rfl rfl (Nat.le_refl _) (fun w9 r9 x9 k9=>?_)
    (repeat' (first|refine Sy ?_))
    refine M4 Z Z Z r9.at rfl rfl ⟨?_,x9⟩
    unfold getR getF
    rw [List.find?_eq_none.2 fun q hq=>?_]
    · rfl
    · obtain⟨j,hj⟩:=List.getElem?_of_mem hq
      have:=(List.getElem?_eq_some_iff.1 hj).1
      simpa using hall j (by omega) q hj
end
section
open Go.RowKit Go.En
def orI (l:List Int):Int:=(l.find? (fun x=>decide (x≠0))).getD 0
attribute [local irreducible] E EL K Val Enters Rt Calls bodyPost Code.wp RQ
theorem or_any (l : List Int) (v : Value) (w : World) (hv : Sl w v l) : Calls Tryz.prog 144 #[v] w (Rt fun u w' => u = int (orI l) ∧ Ext w w') := by
  refine A6 (n:=18) (args:=[v]) Tryz.func144 rfl Tryz.ntmps144 (by simp) ?_
  have hv0:=hv
  obtain⟨a,cap,rfl,hc,hm,hp⟩:=hv.sl
  (repeat' (first|refine Sy ?_))
  refine B0 (ι:=Nat) (fun i=>[(3,int 0),(6,.slice a l.length cap),(7,int l.length),(8,int i)])
    (fun i wr=>i≤l.length∧Ext w wr∧∀ j,j<i→∀ x,l[j]?=some x→decide (x≠0)=false) (fun i=>l.length-i) 0
    ⟨rfl,rfl,rfl,rfl,trivial⟩ ⟨Nat.zero_le _,Ext.refl _,fun j hj=>by omega⟩ ?_
  rintro i wr ⟨hi,hx,hall⟩
  by_cases hlt:i<l.length
  · obtain⟨b,off,rfl⟩:=hp (by omega)
    obtain⟨x,hxl⟩:∃ x,l[i]?=some x:=⟨_,List.getElem?_eq_getElem hlt⟩
    have hcx:=int_elem (hv0.ext hx) hxl
    (repeat' (first|refine eV Z Z (A0 (m:=i) Z Z Z Z hlt) ?_|refine eV Z Z (A7 Z Z Z hcx) ?_|refine Sy ?_|refine Dy (fun hh=>?_) fun hh=>?_))
    all_goals (first|(exfalso;omega)|skip)
    · refine A4 Z Z ⟨?_,hx⟩
      unfold orI
      rw [A1c hall hxl (decide_eq_true ‹_›)]
      rfl
    · exact B3 (i+1) ⟨rfl,rfl,rfl,rfl,trivial⟩ ⟨by omega,hx,fun j hj y hy=>by
        by_cases hj2:j<i
        · exact hall j hj2 y hy
        · obtain rfl:j=i:=by omega
          rw [hxl] at hy;cases hy
          exact decide_eq_false (by omega)⟩ (by omega)
  · (repeat' (first|refine Sy ?_|refine Dy (fun hh=>?_) fun hh=>?_))
    all_goals (first|(exfalso;omega)|skip)
    refine A4 Z Z ⟨?_,hx⟩
    unfold orI
    rw [List.find?_eq_none.2 fun q hq=>?_]
    · rfl
    · obtain⟨j,hj⟩:=List.getElem?_of_mem hq
      have:=(List.getElem?_eq_some_iff.1 hj).1
      exact fun h=>Bool.noConfusion ((hall j (by omega) q hj).symm.trans h)
end
section
open Go.RowKit Go.En
attribute [local irreducible] E EL K Val Enters Rt Calls bodyPost Code.wp RQ
end
section
open Go.RowKit Go.En
attribute [local irreducible] E EL K Val Enters Rt Calls bodyPost Code.wp RQ
end
section
open Go.RowKit Go.En
def curN (ns:List Note) (id:Int):Note:=(getF ns id).getD A1d
theorem B4y (ns:List Note) (id:Int):getR ns id=.tuple #[.agg (B9 (curN ns id)).toArray,.bool (getF ns id).isSome]:=by
  unfold getR curN
  cases getF ns id <;> rfl
attribute [local irreducible] E EL K Val Enters Rt Calls bodyPost Code.wp RQ
end
section
open Go.RowKit Go.En
attribute [local irreducible] E EL K Val Enters Rt Calls bodyPost Code.wp RQ
end
end Go.Proofs.YtjicdgejhkgpgaaGreatDoor