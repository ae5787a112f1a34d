/-
  Own text of the proof.
-/
import Derived.Test.YtjicdgejhkgpgaaGreatDoorYs
import Derived.Test.YtjicdgejhkgpgaaGreatDoorYb
import Derived.Test.YtjicdgejhkgpgaaGreatDoorYh
set_option linter.all false
set_option maxHeartbeats 4000000
set_option maxRecDepth 100000
namespace Go.Proofs.YtjicdgejhkgpgaaGreatDoor
section
open Go.RowKit Go.Shelf Go.Lib
attribute [local go_sem] Oper.semAt_some
def Tabs (w:World):Prop:=Lib.Utf8Tabs (Tryz.laysValid_ren.g 3) (Tryz.laysValid_ren.g 4) w
theorem info3:(Tryz.prog.info? 3).map (fun i=>(i.zero,i.size,i.bytes))=some (some (.int .i64 0),1,8):=by kernel_rfl
theorem pPoints_some (l:List UInt8) (hl:l.length≤1048576) (zs:List Nat) (hp:points l=some zs) (w:World) (hT:Tabs w) :
    Calls Tryz.prog 95 #[.string ⟨l.toArray⟩] w fun e w'=>∃ v,e=.returned (.tuple #[v,.bool true])∧w'.ownsRow w.heap.size 3 1 v zs.length (zs.map fun(z:Nat)=>.int .i64 (z:Int))∧Below w.heap.size w w':=by
  have hzl:=(Gc _ l zs (Nat.le_refl _) hp).1
  have hval:Lib.validD l=true:=by rw [← Hy _ l (Nat.le_refl _),hp];rfl
  have hsz:(ByteArray.mk l.toArray).size=l.length:=by simp [ByteArray.size]
  have cV:Calls Tryz.prog 128 #[.string ⟨l.toArray⟩] w _:=Any.utf8_ValidString Tryz.laysValid ⟨l.toArray⟩ w (by rw [hsz];omega) hT
  simp only [List.toList_toArray,hval] at cV
  obtain⟨i0,hi,hz0,hz1,hz2⟩:=info_parts info3
  refine callsIn_wide (n:=5) |>.1 ?_
  refine callsIn_of_wp_marks Tryz.func95 rfl trivial ?_ rfl
  simp only [Tryz.ntmps95,List.size_toArray,List.length_cons,List.length_nil,Nat.reduceAdd,Nat.reduceSub,Array.replicate_succ,Array.replicate_zero,List.push_toArray,List.append_toArray,List.nil_append,List.cons_append]
  gi_wp2_with first|(refine⟨trivial,?_⟩;gi_at_call 128;refine(callsIn_wide.2 cV).mono ?_;rintro e w1 ⟨rfl,hb1⟩;have hs1:=hb1.size)|(refine⟨trivial,?_⟩;gi_at_call 129;refine(callsIn_wide.2 (scalars_in l _)).mono ?_;rintro e w2 ⟨rfl,rfl⟩)
  have bO:=Boxed.new w1 32 (.slice none 0 0)
  have bN:=Boxed.new (w1.alloc (.cells #[.slice none 0 0] 32)) 9 (.string ⟨l.toArray⟩)
  rw [World.size_alloc] at bN
  have hB0:Below w.heap.size w ((w1.alloc (.cells #[.slice none 0 0] 32)).alloc (.cells #[.string ⟨l.toArray⟩] 9)):=(hb1.alloc hs1 _).alloc (by simp;omega) _
  refine wpIn_rangeFunc_ownG rfl (by omega) (gf:=169) (lb:=#[.pointer (some ⟨w1.heap.size+1,0,none⟩)]) rfl trivial (enters_of Tryz.func169 (by kernel_rfl) rfl)
    (scalars_stops 4 (by omega) (w1.heap.size+1) l zs hp _ (by simp) bN.cell) walksK_t walksK_b (Below.refl _ _) (fun _=>rfl)
    (fun pre W=>(∃ v,Boxed W w1.heap.size 32 v∧W.ownsRow w.heap.size 3 1 v pre.length (pre.map fun x=>.int .i64 x.2)∧True)∧Below w.heap.size w W)
    (fun _ _ _=>False)
    (OwnFrom.and (Own.from (holdsRow_own w.heap.size w1.heap.size 32 3 1 (fun pre:List (Int × Int)=>pre.length) (fun pre=>pre.map fun x=>Value.int .i64 x.2) (fun pre v=>True)) _) (ownFrom_below (Nat.le_refl _) (by simp;omega)))
    (fun _ _ _ _ _ hs _ _=>hs)
    ⟨⟨_,bO.alloc _,World.ownsRow_nil _ _ _ _,trivial⟩,hB0⟩
    (fun x=>{ tmps:=#[.string ⟨l.toArray⟩,undef,.slice none 0 0,.bool false,.pointer (some ⟨w1.heap.size,0,none⟩),undef,.int .i64 x.2,.string ⟨l.toArray⟩,.bool true,.bool false,.string ⟨l.toArray⟩,.func (.func 169) #[] #[.pointer (some ⟨w1.heap.size+1,0,none⟩)],.int .i64 x.1,.int .i64 x.2,undef,undef,undef,undef,undef],defers:=[] }) ?assign ?body ?done ?stop
  case assign=>
    intro l x W K hK
    dsimp only [enc2]
    gi_wp2
    exact hK
  case body=>
    rintro lv pre x W ⟨⟨v,hv,hrow,-⟩,hB⟩ hlt
    have hc:=hv.cell
    gi_wp2_with (gi_at_builtin;refine wpListIn_append_own _ rfl _ _ 32 rfl w.heap.size 3 i0 (.int .i64 0) 1 8 Tryz.underlying32 hi hz0 hz1 hz2 rfl (by decide) _ _ _ rfl (hrow.alloc _) ⟨W.heap.size,0,none⟩ 1 1 [.int .i64 x.2] rfl rfl (cell_one_new _ _ _) (by simp [Value.oneCell']) (by unfold maxLen;omega) (by omega) (by have:=hB.size;simp;omega) ?_;intro v' w1 hown' hgrow _;obtain⟨g',cap',rfl⟩:=ownsRow_succ hown';obtain⟨hv1,hv2,hr2,hk2,hb2⟩:=hv.appended (by decide) hrow hB.size (by omega) hown' hgrow;have hc1:=hv1.cell;have hf1:=hv1.frozen)
    exact⟨hk2.from _,hk2.walks,⟨_,hv2,by simpa using hr2,trivial⟩,hB.trans hb2⟩
  case done=>
    rintro D ys W hD hys ⟨⟨v,hv,hrow,-⟩,hB⟩ hK
    have hc:=hv.cell
    have hyl:ys.length=zs.length:=by have:=congrArg List.length hys;simpa using this
    have hyc:ys.map (fun x=>Value.int .i64 x.2)=zs.map fun(z:Nat)=>Value.int .i64 (z:Int):=by
      have:=congrArg (List.map (Value.int .i64)) hys
      simpa [Function.comp_def] using this
    gi_wp2
    refine⟨by simp,.inl ⟨_,_,rfl,run_takeDeferred hK,?_⟩⟩
    refine⟨_,results_tmp2 rfl _ _ _,v,rfl,?_,hB.trans (belowK_b (w:=w) (Nat.le_refl _) W D _ _ (by simp at hD;omega) hK rfl rfl)⟩
    rw [← hyl,← hyc]
    exact ownsRow_putObj hrow _ hK rfl
  case stop=>
    rintro D c pre W _ _ h _
    exact h.elim
theorem pPoints_none (l:List UInt8) (hl:l.length≤1048576) (hp:points l=none) (w:World) (hT:Tabs w) :
    Calls Tryz.prog 95 #[.string ⟨l.toArray⟩] w fun e w'=>e=.returned (.tuple #[.slice none 0 0,.bool false])∧Below w.heap.size w w':=by
  have hval:Lib.validD l=false:=by rw [← Hy _ l (Nat.le_refl _),hp];rfl
  have hsz:(ByteArray.mk l.toArray).size=l.length:=by simp [ByteArray.size]
  have cV:Calls Tryz.prog 128 #[.string ⟨l.toArray⟩] w _:=Any.utf8_ValidString Tryz.laysValid ⟨l.toArray⟩ w (by rw [hsz];omega) hT
  simp only [List.toList_toArray,hval] at cV
  refine callsIn_wide (n:=5) |>.1 ?_
  refine callsIn_of_wp_marks Tryz.func95 rfl trivial ?_ rfl
  simp only [Tryz.ntmps95,List.size_toArray,List.length_cons,List.length_nil,Nat.reduceAdd,Nat.reduceSub,Array.replicate_succ,Array.replicate_zero,List.push_toArray,List.append_toArray,List.nil_append,List.cons_append]
  gi_wp2_with (refine⟨trivial,?_⟩;gi_at_call 128;refine(callsIn_wide.2 cV).mono ?_;rintro e w1 ⟨rfl,hb1⟩;have hs1:=hb1.size)
  exact⟨_,results_tmp2 rfl _ _ _,rfl,hb1⟩
open Go.En in
theorem Iy (l:List UInt8) (hl:l.length≤1048576) (w:World) (hT:Tabs w):Calls Tryz.prog 95 #[str l] w (Rt (PointsR w (points l))):=by
  cases hp:points l with
  | none=>
    refine(pPoints_none l hl hp w hT).mono ?_
    rintro e w' ⟨rfl,hb⟩
    exact⟨_,rfl,hb,rfl⟩
  | some zs=>
    refine(pPoints_some l hl zs hp w hT).mono ?_
    rintro e w' ⟨v,rfl,ho,hb⟩
    exact⟨_,rfl,hb,v,rfl,ho⟩
end
section
open Go.RowKit Go.En Go.Pv
theorem Tabs.ext {w w':World} (h:Tabs w) (x:Ext w w'):Tabs w':=Utf8Tabs_below h x
theorem enc_ctl {z:Nat} (hz:z≤1114111):(encB z).any ctlB=ctlN z:=by
  unfold encB encN ctlN
  (repeat' split) <;> simp [ctlB,UInt8.toNat_ofNat'] <;>(try rw [Bool.eq_iff_iff]) <;>(try simp) <;> omega
theorem text_ctl {p:List UInt8} {zs:List Nat} (hp:points p=some zs):zs.any ctlN=p.any ctlB:=by
  have hs:=(Gc _ p zs (Nat.le_refl _) hp).2.1
  rw [← (Gc _ p zs (Nat.le_refl _) hp).2.2]
  clear hp
  induction zs with
  | nil=>rfl
  | cons z r ih=>
    rw [List.map_cons,List.flatten_cons,List.any_append,List.any_cons,ih (fun x hx=>hs x (by simp [hx])),enc_ctl (Di.1 (hs z (by simp))).1]
theorem any_no {s:List UInt8} {f:UInt8→Bool} (h:∀(j:Nat) (c:UInt8),j<s.length→s[j]?=some c→f c=false):s.any f=false:=by
  rw [List.any_eq_false]
  intro c hc
  obtain⟨j,hj⟩:=List.getElem?_of_mem hc
  rw [h j c (List.getElem?_eq_some_iff.1 hj).1 hj];simp
theorem any_yes {s:List UInt8} {f:UInt8→Bool} {j:Nat} {c:UInt8} (h:s[j]?=some c) (hc:f c=true):s.any f=true:=List.any_eq_true.2 ⟨c,List.mem_of_getElem? h,hc⟩
attribute [local irreducible] E EL K Val Enters Rt Calls bodyPost Code.wp RQ
theorem Of (s : List UInt8) (w : World) (hT : Tabs w) : Calls Tryz.prog 58 #[str s] w (Rt fun u w' => u = int (txtF s) ∧ Ext w w') := by
  refine A7 (n:=32) (args:=[str s]) Tryz.func58 rfl Tryz.ntmps58 (by simp) ?_
  by_cases h200:s.length≤200
  · have hf:=Iy s (by omega) w hT
    have ht0:txtF s=match points s with|none=>3|some zs=>if zs.any ctlN then 3 else 0:=by unfold txtF;rw [if_neg (by omega)];cases points s <;> rfl
    cases hp:points s with
    | none=>
      rw [hp] at hf ht0
      rw [ht0]
      (repeat' (first|(refine A9 Z Z (A3 Z Z en95) hf (fun vC wC hC=>?_);obtain⟨xC,hv⟩:=hC;obtain rfl:=hv)|refine Sy ?_|refine Dy (fun hh=>?_) fun hh=>?_))
      all_goals (first|(exfalso;omega)|skip)
      exact A5 Z Z ⟨rfl,xC⟩
    | some zs=>
      rw [hp] at hf ht0
      have ht1:txtF s=if zs.any ctlN then 3 else 0:=ht0
      rw [ht1,text_ctl hp]
      (repeat' ((fail_if_success (refine Ac (x:=(Code.region 6 _ _)) ?_));first|(refine A9 Z Z (A3 Z Z en95) hf (fun vC wC hC=>?_);obtain⟨xC,v,hv,hown⟩:=hC;obtain rfl:=hv)|refine Sy ?_|refine Dy (fun hh=>?_) fun hh=>?_))
      all_goals (first|(exfalso;omega)|skip)
      (repeat' (first|refine Sy ?_))
      refine Ae (ι:=Nat) (fun i=>[(0,str s),(17,int s.length),(18,int i)]) (fun i wr=>i≤s.length∧Ext wC wr∧∀(j:Nat) (c:UInt8),j<i→s[j]?=some c→ctlB c=false) (fun i=>s.length-i) 0
        ⟨rfl,rfl,rfl,trivial⟩ ⟨Nat.zero_le _,Ext.refl _,fun j c hj=>absurd hj (by omega)⟩ ?_
      rintro i wr ⟨hi,hx,hall⟩
      by_cases hlt:i<s.length
      · obtain⟨c,hc⟩:∃ c,s[i]?=some c:=⟨_,List.getElem?_eq_getElem hlt⟩
        (repeat' (first|refine eV Z Z (C2 Z Z Z Z hc) ?_|refine Sy ?_|refine Dy (fun hh=>?_) fun hh=>?_))
        all_goals (first|(exfalso;omega)|skip)
        all_goals first
          | (have hct : ctlB c = true := by unfold ctlB; simp; omega
             rw [any_yes hc hct]
             exact A5 Z Z ⟨rfl,xC.trans hx⟩)
          | (have hct : ctlB c = false := by unfold ctlB; simp; omega
             refine Ad (i+1) ⟨rfl,rfl,rfl,trivial⟩ ⟨by omega,hx,fun j c' hj hc'=>?_⟩ (by omega)
             by_cases e:j=i
             · subst e;rw [hc] at hc';cases hc';exact hct
             · exact hall j c' (by omega) hc')
      · rw [any_no (fun j c hj hc=>hall j c (by omega) hc)]
        (repeat' (first|refine Sy ?_|refine Dy (fun hh=>?_) fun hh=>?_))
        all_goals (first|(exfalso;omega)|skip)
        exact A5 Z Z ⟨rfl,xC.trans hx⟩
  · have:txtF s=5:=by unfold txtF;rw [if_pos (by omega)]
    rw [this]
    (repeat' (first|refine Sy ?_|refine Dy (fun hh=>?_) fun hh=>?_))
    all_goals (first|(exfalso;omega)|skip)
    exact A5 Z Z ⟨rfl,Ext.refl _⟩
theorem ctl94_any (c:UInt8) (w:World):Calls Tryz.prog 94 #[.int .u8 c.toNat] w (Rt fun u w'=>u=.bool (ctlB c)∧Ext w w'):=by
  refine A7 (n:=9) (args:=[.int .u8 c.toNat]) Tryz.func94 rfl Tryz.ntmps94 (by simp) ?_
  (repeat' (first|refine Sy ?_|refine Dy (fun hh=>?_) fun hh=>?_))
  all_goals first
    | (have hct : ctlB c = true := by unfold ctlB; simp; omega
       rw [hct]
       exact A5 Z Z ⟨rfl,Ext.refl _⟩)
    | (have hct : ctlB c = false := by unfold ctlB; simp; omega
       rw [hct]
       exact A5 Z Z ⟨rfl,Ext.refl _⟩)
theorem index127_any (s:List UInt8) (b cap:Nat) (w:World) (hcap:s.length≤cap) (hsl:s.length≤1000) (hat:At w b 0 (s.map fun c=>Value.int .u8 c.toNat)):Calls Tryz.prog 127 #[.slice (some ⟨b,0,none⟩) s.length cap,.func (.func 94) #[] #[] ] w (Rt fun u w'=>((s.any ctlB=true→∃ q:Nat,u=int q)∧(s.any ctlB=false→u=int (-1)))∧Ext w w'):=by
  refine A7 (n:=19) (args:=[.slice (some ⟨b,0,none⟩) s.length cap,.func (.func 94) #[] #[] ]) Tryz.func127 rfl Tryz.ntmps127 (by simp) ?_
  (repeat' (first|refine Sy ?_))
  refine Ae (ι:=Nat) (fun i=>[(0,.slice (some ⟨b,0,none⟩) s.length cap),(1,.func (.func 94) #[] #[]),(7,int s.length),(8,int i)])
    (fun i wr=>i≤s.length∧Ext w wr∧∀(j:Nat) (c:UInt8),j<i→s[j]?=some c→ctlB c=false) (fun i=>s.length-i) 0
    ⟨rfl,rfl,rfl,rfl,trivial⟩ ⟨Nat.zero_le _,Ext.refl _,fun j y hj=>absurd hj (by omega)⟩ ?_
  rintro i wr ⟨hi,hx,hall⟩
  by_cases hlt:i<s.length
  · obtain⟨c,hc⟩:∃ c,s[i]?=some c:=⟨_,List.getElem?_eq_getElem hlt⟩
    have hcell:wr.cell? ⟨b,0+i*1,none⟩=some (Value.int .u8 c.toNat):=(hat.ext hx).ith (f:=fun c=>Value.int .u8 c.toNat) hc
    have cF:=ctl94_any c wr
    cases hct:ctlB c with
    | true=>
      rw [hct] at cF
      have hy:=any_yes hc hct
      (repeat' (first|refine eV Z Z (A0 (m:=i) Z Z Z (by first|rfl|omega) (by omega)) ?_|(refine A9 Z Z (I5 (cap:=[]) Z Z Z en94) cF (fun vC wC hC=>?_);obtain⟨rfl,xC⟩:=hC;replace hx:=hx.trans xC)|refine Ly ?_|refine Dy (fun hh=>?_) fun hh=>?_))
      all_goals (try (exfalso;omega))
      exact A5 Z Z ⟨⟨fun _=>⟨i,rfl⟩,fun h=>by rw [hy] at h;cases h⟩,hx⟩
    | false=>
      rw [hct] at cF
      (repeat' (first|refine eV Z Z (A0 (m:=i) Z Z Z (by first|rfl|omega) (by omega)) ?_|(refine A9 Z Z (I5 (cap:=[]) Z Z Z en94) cF (fun vC wC hC=>?_);obtain⟨rfl,xC⟩:=hC;replace hx:=hx.trans xC)|refine Ly ?_|refine Dy (fun hh=>?_) fun hh=>?_))
      all_goals (try (exfalso;omega))
      refine Ad (i+1) ⟨rfl,rfl,rfl,rfl,trivial⟩ ⟨by omega,hx,fun j y hj hy=>?_⟩ (by omega)
      by_cases e:j=i
      · subst e;rw [hc] at hy;cases hy;exact hct
      · exact hall j y (by omega) hy
  · have hno:=any_no (fun j c hj hc=>hall j c (by omega) hc)
    (repeat' (first|refine Sy ?_|refine Dy (fun hh=>?_) fun hh=>?_))
    all_goals (try (exfalso;omega))
    exact A5 Z Z ⟨⟨fun h=>(by rw [hno] at h;cases h),fun _=>rfl⟩,hx⟩
theorem Gl (s:List UInt8) (b cap:Nat) (w:World) (hcap:s.length≤cap) (hsl:s.length≤1000) (hat:At w b 0 (s.map fun c=>Value.int .u8 c.toNat)):Calls Tryz.prog 93 #[.slice (some ⟨b,0,none⟩) s.length cap,.func (.func 94) #[] #[] ] w (Rt fun u w'=>u=.bool (s.any ctlB)∧Ext w w'):=by
  refine A7 (n:=9) (args:=[.slice (some ⟨b,0,none⟩) s.length cap,.func (.func 94) #[] #[] ]) Tryz.func93 rfl Tryz.ntmps93 (by simp) ?_
  have ci:=index127_any s b cap w hcap hsl hat
  cases hany:s.any ctlB with
  | true=>
    rw [hany] at ci
    (repeat' (first|(refine A9 Z Z (A3 Z Z en127) ci (fun vC wC hC=>?_);obtain⟨⟨h1,h2⟩,xC⟩:=hC;obtain⟨q,rfl⟩:=h1 rfl)|refine Sy ?_|refine Dy (fun hh=>?_) fun hh=>?_))
    all_goals (try (exfalso;omega))
    exact A5 Z Z ⟨rfl,xC⟩
  | false=>
    rw [hany] at ci
    (repeat' (first|(refine A9 Z Z (A3 Z Z en127) ci (fun vC wC hC=>?_);obtain⟨⟨h1,h2⟩,xC⟩:=hC;obtain rfl:=h2 rfl)|refine Sy ?_|refine Dy (fun hh=>?_) fun hh=>?_))
    all_goals (try (exfalso;omega))
    exact A5 Z Z ⟨rfl,xC⟩
theorem lab_not {s:List UInt8} (h:s.length=0∨32<s.length):labB s=false:=by
  unfold labB
  have:(decide (1≤s.length)&&decide (s.length≤32))=false:=by
    rcases h with h|h
    · rw [decide_eq_false (by omega)];rfl
    · rw [decide_eq_false (p:=s.length≤32) (by omega),Bool.and_false]
  rw [this,Bool.and_false,Bool.and_false]
theorem N1 (s : List UInt8) (w : World) (hT : Tabs w) : Calls Tryz.prog 57 #[str s] w (Rt fun u w' => u = .bool (labB s) ∧ Ext w w') := by
  refine A7 (n:=23) (args:=[str s]) Tryz.func57 rfl Tryz.ntmps57 (by simp) ?_
  by_cases h0:s=[]
  · subst h0
    rw [lab_not (.inl rfl)]
    (repeat' (first|refine Sy ?_|refine Dy (fun hh=>?_) fun hh=>?_))
    all_goals (try (exfalso;first|omega|contradiction))
    exact A5 Z Z ⟨rfl,Ext.refl _⟩
  · have hl0:0<s.length:=List.length_pos_iff.2 h0
    by_cases h32:s.length≤32
    · have hlab:labB s=(!(s.any ctlB)&&(points s).isSome):=by
        unfold labB;rw [decide_eq_true (show 1≤s.length by omega),decide_eq_true h32];simp
      rw [hlab]
      cases hany:s.any ctlB with
      | true=>
        (repeat' (first|(refine Qe Z Z Z Z (fun bB cB wB xB hbB hcB aB=>?_))|(refine cqC (Gl s _ _ _ hcB (by omega) aB) en93 fun wC xC=>?_;rw [hany])|refine Sy ?_|refine Dy (fun hh=>?_) fun hh=>?_))
        all_goals (try (exfalso;first|omega|contradiction))
        exact A5 Z Z ⟨rfl,xB.trans xC⟩
      | false=>
        cases hp:points s with
        | none=>
          (repeat' (first|(refine Qe Z Z Z Z (fun bB cB wB xB hbB hcB aB=>?_))|(refine cqC (Gl s _ _ _ hcB (by omega) aB) en93 fun wC xC=>?_;rw [hany];have hf:=Iy s (by omega) wC (hT.ext (xB.trans xC));rw [hp] at hf)|(refine A9 Z Z (A3 Z Z en95) hf (fun vD wD hD=>?_);obtain⟨xD,hv⟩:=hD;obtain rfl:=hv)|refine Sy ?_|refine Dy (fun hh=>?_) fun hh=>?_))
          all_goals (try (exfalso;first|omega|contradiction))
          exact A5 Z Z ⟨rfl,(xB.trans xC).trans xD⟩
        | some zs=>
          (repeat' (first|(refine Qe Z Z Z Z (fun bB cB wB xB hbB hcB aB=>?_))|(refine cqC (Gl s _ _ _ hcB (by omega) aB) en93 fun wC xC=>?_;rw [hany];have hf:=Iy s (by omega) wC (hT.ext (xB.trans xC));rw [hp] at hf)|(refine A9 Z Z (A3 Z Z en95) hf (fun vD wD hD=>?_);obtain⟨xD,v,hv,hown⟩:=hD;obtain rfl:=hv)|refine Sy ?_|refine Dy (fun hh=>?_) fun hh=>?_))
          all_goals (try (exfalso;first|omega|contradiction))
          exact A5 Z Z ⟨rfl,(xB.trans xC).trans xD⟩
    · rw [lab_not (.inr (by omega))]
      (repeat' (first|refine Sy ?_|refine Dy (fun hh=>?_) fun hh=>?_))
      all_goals (try (exfalso;first|omega|contradiction))
      exact A5 Z Z ⟨rfl,Ext.refl _⟩
end
end Go.Proofs.YtjicdgejhkgpgaaGreatDoor
namespace Go.En
open Go.RowKit
theorem Ds {H:Type} {P:Program} {ts:List TypeId} {ds:List (DataW H)} (h:(DataW.weightsEach P ts ds).all (·≤reachBytes)=true) {j:Nat} {t:TypeId} {d:DataW H} (ht:ts[j]?=some t) (hd:ds[j]?=some d):Bd P t d:=
  List.all_eq_true.2 fun n hn=>List.all_eq_true.1 h n (DataW.weights_mem_each ht hd n hn)
theorem Ht (s:ByteArray):Value.string s=str s.data.toList:=by cases s;simp [str]
end Go.En
namespace Go.Proofs.YtjicdgejhkgpgaaGreatDoor
section
open Go.RowKit Go.En
theorem I2 {α:Type} {l:List α} {i:Nat} {x:α} {f:Nat→α→Prop} (hx:l[i]?=some x) (hall:∀ j,j<i→∀ y,l[j]?=some y→f j y) (h:f i x):∀ j,j<i+1→∀ y,l[j]?=some y→f j y:=fun j hj y hy=>by
  by_cases hj2:j<i
  · exact hall j hj2 y hy
  · obtain rfl:j=i:=by omega
    rw [hx] at hy;cases hy;exact h
attribute [local irreducible] E EL K Val Enters Rt Calls bodyPost Code.wp RQ
theorem siblings_any (d:Dc) (v:Value) (t p:Int) (w:World) (hv:DcAt w v d) (hlen:d.notes.length≤1099511627776):Calls Tryz.prog 173 #[v,int t,int p] w (Rt fun u w'=>Ext w w'∧Sl w' u (sibs d.notes t p)):=by
  obtain⟨sv,tv,nv,rfl,_,_,hn⟩:=hv
  refine A7 (n:=44) (args:=[.agg #[int d.rid,str d.rname,int d.len,int d.day,sv,tv,nv],int t,int p]) Tryz.func173 rfl Tryz.ntmps173 (by simp) ?_
  have hn0:=hn
  obtain⟨a,cap,rfl,hc,hm,hp⟩:=hn.sl
  refine Ac ?_
  refine A8 ?_
  refine Aj Z Z Z Z (fun bB wB xB hbB rB=>?_)
  (repeat' (first|refine Sy ?_|refine eL Z Z Z Z Z Z Z Z (fun bS wS xS hbS rS=>?_)))
  refine Ae (ι:=Nat × Value) (fun x=>[(1,int t),(2,int p),(3,.pointer (some ⟨bB,0,none⟩)),(7,x.2),(8,int x.1)])
    (fun x wr=>x.1≤d.notes.length∧Ext wB wr∧wr.ownsRow wB.heap.size 80 7 x.2 (sibs (d.notes.take x.1) t p).length ((sibs (d.notes.take x.1) t p).map Be).flatten) (fun x=>d.notes.length-x.1) (0,_)
    ⟨rfl,rfl,rfl,rfl,rfl,trivial⟩ ⟨Nat.zero_le _,xS,Cq (n:=0) (size:=7) rS rfl (by omega) (by omega)⟩ ?_
  rintro⟨i,vO⟩ wr ⟨hi,hx,hown⟩
  dsimp only at hi hx hown ⊢
  have rBr:=rB.ext hx
  have hol:=Oj (d.notes.take i) t p
  rw [List.length_take] at hol
  by_cases hlt:i<d.notes.length
  · obtain⟨b,off,rfl⟩:=hp (by omega)
    obtain⟨q,hq⟩:∃ q,d.notes[i]?=some q:=⟨_,List.getElem?_eq_getElem hlt⟩
    have hat:=Ch (hn0.ext (xB.trans hx)) hq
    have htk:=sibs_take (t:=t) (p:=p) hq
    (repeat' (first|refine eV Z Z (A6 Z Z Z (rBr.cellAt rfl)) ?_|refine eV Z Z (A0 (m:=i) Z Z Z Z (by omega)) ?_|refine eV Z Z (A6 Z Z Z (hat.cellAt (j:=1) Z)) ?_|refine eV Z Z (A6 Z Z Z (hat.cellAt (j:=2) Z)) ?_|refine eV Z Z (Ab Z Z Z hat rfl) ?_|(refine Ay (news:=Be q) (Ak hown xS) (hx.trans xS) (fun _=>⟨_,_,rfl,rS.at⟩) Z Z Z Z Z Z Z Z Z (by omega) (by omega) (fun vJ wJ oJ xJ kJ hJ=>?_))|refine Sy ?_|refine Dy (fun hh=>?_) fun hh=>?_|refine eL Z Z Z Z Z Z Z Z (fun bS wS xS hbS rS=>?_)))
    all_goals (first|(exfalso;omega)|skip)
    · rw [if_pos ⟨by assumption,by assumption⟩] at htk
      refine Ad (i+1,vJ) ⟨rfl,rfl,rfl,rfl,rfl,trivial⟩ ⟨by dsimp only;omega,xJ,?_⟩ (by dsimp only;omega)
      dsimp only
      rw [htk]
      simpa using oJ
    all_goals
      rw [if_neg (by rintro⟨h1,h2⟩;first|exact absurd h1 ‹_› | exact absurd h2 ‹_›),List.append_nil] at htk
      refine Ad (i+1,vO) ⟨rfl,rfl,rfl,rfl,rfl,trivial⟩ ⟨by dsimp only;omega,hx,?_⟩ (by dsimp only;omega)
      dsimp only
      rw [htk]
      exact hown
  · rw [List.take_of_length_le (by omega)] at hown
    (repeat' (first|refine eV Z Z (A6 Z Z Z (rBr.cellAt rfl)) ?_|refine Sy ?_|refine Dy (fun hh=>?_) fun hh=>?_))
    all_goals (first|(exfalso;omega)|skip)
    exact A5 Z Z ⟨xB.trans hx,Ce hown (Md _ _) Z (by have:=Oj d.notes t p;omega)⟩
theorem spans_any (l:List Note) (v:Value) (w:World) (hv:Sl w v l) (hlen:l.length≤1099511627776):Calls Tryz.prog 177 #[v] w (Rt fun u w'=>Ext w w'∧Sl w' u (l.map fun n=>(⟨n.frm,n.til⟩:Spn))):=by
  refine A7 (n:=21) (args:=[v]) Tryz.func177 rfl Tryz.ntmps177 (by simp) ?_
  have hv0:=hv
  obtain⟨a,cap,rfl,hc,hm,hp⟩:=hv.sl
  (repeat' (first|refine Sy ?_|refine eL Z Z Z Z Z Z Z Z (fun bS wS xS hbS rS=>?_)))
  refine Ae (ι:=Nat × Value) (fun x=>[(0,.slice a l.length cap),(3,x.2),(4,int x.1)])
    (fun x wr=>x.1≤l.length∧Ext w wr∧wr.ownsRow w.heap.size 76 2 x.2 (l.take x.1).length ((l.take x.1).map fun n=>[int n.frm,int n.til]).flatten) (fun x=>l.length-x.1) (0,_)
    ⟨rfl,rfl,rfl,trivial⟩ ⟨Nat.zero_le _,xS,Cq (n:=0) (size:=2) rS rfl (by omega) (by omega)⟩ ?_
  rintro⟨i,vO⟩ wr ⟨hi,hx,hown⟩
  dsimp only at hi hx hown ⊢
  by_cases hlt:i<l.length
  · obtain⟨b,off,rfl⟩:=hp (by omega)
    obtain⟨q,hq⟩:∃ q,l[i]?=some q:=⟨_,List.getElem?_eq_getElem hlt⟩
    have hat:=Ch (hv0.ext hx) hq
    have hat2:At wr b (off+i*7+3) [int q.frm,int q.til]:=hat.seg 3 (n:=2)
    have htl:(l.take i).length=i:=by rw [List.length_take];omega
    (repeat' (first|refine eV Z Z (A0 (m:=i) Z Z Z Z (by omega)) ?_|refine eV Z Z (Ab Z Z Z hat2 rfl) ?_|(refine Ay (news:=[int q.frm,int q.til]) (Ak hown xS) (hx.trans xS) (fun _=>⟨_,_,rfl,rS.at⟩) Z Z Z Z Z Z Z Z Z (by omega) (by omega) (fun vJ wJ oJ xJ kJ hJ=>?_))|refine Sy ?_|refine Dy (fun hh=>?_) fun hh=>?_|refine eL Z Z Z Z Z Z Z Z (fun bS wS xS hbS rS=>?_)))
    all_goals (first|(exfalso;omega)|skip)
    refine Ad (i+1,vJ) ⟨rfl,rfl,rfl,trivial⟩ ⟨by dsimp only;omega,xJ,?_⟩ (by dsimp only;omega)
    dsimp only
    obtain⟨hi2,rfl⟩:=List.getElem?_eq_some_iff.1 hq
    rw [List.take_succ_eq_append_getElem hi2,List.map_append,List.flatten_append,List.length_append]
    exact oJ
  · rw [List.take_of_length_le (by omega)] at hown
    (repeat' (first|refine Sy ?_|refine Dy (fun hh=>?_) fun hh=>?_))
    all_goals (first|(exfalso;omega)|skip)
    exact A5 Z Z ⟨hx,Ce (css:=l.map fun n=>[int n.frm,int n.til]) hown (by have:=Hf (G:=Tt) wr (l.map fun n=>(⟨n.frm,n.til⟩:Spn));rw [List.map_map] at this;exact this) (by simp) (by simp;omega)⟩
theorem ranked_any (l : List Note) (v : Value) (w : World) (hv : Sl w v l) : Calls Tryz.prog 178 #[v] w (Rt fun u w' => (∃ b, u = .bool b ∧ (b = true → Ranked l)) ∧ Ext w w') := by
  refine A7 (n:=30) (args:=[v]) Tryz.func178 rfl Tryz.ntmps178 (by simp) ?_
  have hv0:=hv
  obtain⟨a,cap,rfl,hc,hm,hp⟩:=hv.sl
  (repeat' (first|refine Sy ?_))
  refine Ae (ι:=Nat) (fun i=>[(0,.slice a l.length cap),(3,int i)]) (fun i wr=>i≤l.length∧Ext w wr∧∀ m:Nat,m<i→∃ x∈l,x.rank=(m:Int)) (fun i=>l.length-i) 0
    ⟨rfl,rfl,trivial⟩ ⟨Nat.zero_le _,Ext.refl _,fun j hj=>by omega⟩ ?_
  rintro i wr ⟨hi,hx,hall⟩
  by_cases hlt:i<l.length
  · obtain⟨b,off,rfl⟩:=hp (by omega)
    (repeat' (first|refine Sy ?_|refine Dy (fun hh=>?_) fun hh=>?_))
    all_goals (first|(exfalso;omega)|skip)
    refine Ae (ι:=Nat × Bool) (fun x=>[(0,.slice (some ⟨b,off,none⟩) l.length cap),(3,int i),(4,.bool x.2),(5,int x.1)]) (fun x wr'=>x.1≤l.length∧Ext wr wr'∧(x.2=true→∃ y∈l,y.rank=(i:Int))) (fun x=>l.length-x.1) (0,false)
      ⟨rfl,rfl,rfl,rfl,trivial⟩ ⟨Nat.zero_le _,Ext.refl _,fun h=>by cases h⟩ ?_
    rintro⟨k,f⟩ wk ⟨hk,hxk,hf⟩
    dsimp only at hk hxk hf ⊢
    by_cases hklt:k<l.length
    · obtain⟨q,hq⟩:∃ q,l[k]?=some q:=⟨_,List.getElem?_eq_getElem hklt⟩
      have hat:=Ch (hv0.ext (hx.trans hxk)) hq
      cases f
      all_goals
        (repeat' (first|refine eV Z Z (A0 (m:=k) Z Z Z Z (by omega)) ?_|refine eV Z Z (A6 Z Z Z (hat.cellAt (j:=5) Z)) ?_|refine Sy ?_|refine Dy (fun hh=>?_) fun hh=>?_))
        all_goals (first|(exfalso;omega)|skip)
        all_goals refine Ad (k+1,_) ⟨rfl,rfl,rfl,rfl,trivial⟩ ⟨by dsimp only;omega,hxk,fun h=>?_⟩ (by dsimp only;omega)
        all_goals first
          | exact⟨q,List.mem_of_getElem? hq,by assumption⟩
          | exact hf h
          | (simp at h)
    · cases f
      · (repeat' (first|refine Sy ?_|refine Dy (fun hh=>?_) fun hh=>?_))
        all_goals (first|(exfalso;omega)|skip)
        exact A5 Z Z ⟨⟨_,rfl,fun h=>by cases h⟩,hx.trans hxk⟩
      · (repeat' (first|refine Sy ?_|refine Dy (fun hh=>?_) fun hh=>?_))
        all_goals (first|(exfalso;omega)|skip)
        refine Ad (i+1) ⟨rfl,rfl,trivial⟩ ⟨by omega,hx.trans hxk,fun m hmi=>?_⟩ (by omega)
        by_cases hmi2:m<i
        · exact hall m hmi2
        · obtain rfl:m=i:=by omega
          exact hf rfl
  · (repeat' (first|refine Sy ?_|refine Dy (fun hh=>?_) fun hh=>?_))
    all_goals (first|(exfalso;omega)|skip)
    exact A5 Z Z ⟨⟨_,rfl,fun _ m hml=>hall m (by omega)⟩,hx⟩
theorem overlap_any (l : List Note) (v : Value) (w : World) (hv : Sl w v l) : Calls Tryz.prog 175 #[v] w (Rt fun u w' => (∃ b, u = .bool b ∧ (b = false → NoOver l)) ∧ Ext w w') := by
  refine A7 (n:=44) (args:=[v]) Tryz.func175 rfl Tryz.ntmps175 (by simp) ?_
  have hv0:=hv
  obtain⟨a,cap,rfl,hc,hm,hp⟩:=hv.sl
  (repeat' (first|refine Sy ?_))
  refine Ae (ι:=Nat) (fun i=>[(0,.slice a l.length cap),(3,int i)]) (fun i wr=>i≤l.length∧Ext w wr∧∀ j,j<i→∀ x,l[j]?=some x→∀ k,k<j→∀ y,l[k]?=some y→¬ (x.frm<y.til∧y.frm<x.til)) (fun i=>l.length-i) 0
    ⟨rfl,rfl,trivial⟩ ⟨Nat.zero_le _,Ext.refl _,fun j hj=>by omega⟩ ?_
  rintro i wr ⟨hi,hx,hall⟩
  by_cases hlt:i<l.length
  · obtain⟨b,off,rfl⟩:=hp (by omega)
    obtain⟨x,hxi⟩:∃ x,l[i]?=some x:=⟨_,List.getElem?_eq_getElem hlt⟩
    (repeat' (first|refine Sy ?_|refine Dy (fun hh=>?_) fun hh=>?_))
    all_goals (first|(exfalso;omega)|skip)
    refine Ae (ι:=Nat) (fun k=>[(0,.slice (some ⟨b,off,none⟩) l.length cap),(3,int i),(4,int k)]) (fun k wr'=>k≤i∧Ext wr wr'∧∀ j,j<k→∀ y,l[j]?=some y→¬ (x.frm<y.til∧y.frm<x.til)) (fun k=>i-k) 0
      ⟨rfl,rfl,rfl,trivial⟩ ⟨Nat.zero_le _,Ext.refl _,fun j hj=>by omega⟩ ?_
    rintro k wk ⟨hk,hxk,hin⟩
    by_cases hklt:k<i
    · obtain⟨y,hyk⟩:∃ y,l[k]?=some y:=⟨_,List.getElem?_eq_getElem (by omega)⟩
      have hatx:=Ch (hv0.ext (hx.trans hxk)) hxi
      have haty:=Ch (hv0.ext (hx.trans hxk)) hyk
      (repeat' (first|refine yV Z Z (fun _ _ _=>A0 (m:=i) Z Z Z Z (by omega)) ?_|refine yV Z Z (fun _ _ _=>A0 (m:=k) Z Z Z Z (by omega)) ?_|refine yV Z Z (fun wq _ xq=>A6 Z Z Z ((hatx.ext xq).cellAt (j:=3) Z)) ?_|refine yV Z Z (fun wq _ xq=>A6 Z Z Z ((hatx.ext xq).cellAt (j:=4) Z)) ?_|refine yV Z Z (fun wq _ xq=>A6 Z Z Z ((haty.ext xq).cellAt (j:=3) Z)) ?_|refine yV Z Z (fun wq _ xq=>A6 Z Z Z ((haty.ext xq).cellAt (j:=4) Z)) ?_|refine Sy ?_|refine Dy (fun hh=>?_) fun hh=>?_|refine yqZ ?_|refine yqX (fun hh=>?_) fun hh=>?_|refine E_dq Aa (by kernel_rfl) Z ?_|refine yN Z (fun wq xq=>?_)|refine yO Z Z ?_))
      all_goals (first|(exfalso;omega)|skip)
      all_goals first
        | exact A5 Z Z ⟨⟨_,rfl,fun h=>by cases h⟩,(hx.trans hxk).trans xq⟩
        | exact Ad (k+1) ⟨rfl,rfl,rfl,trivial⟩ ⟨by omega,hxk.trans xq,I2 hyk hin (by omega)⟩ (by omega)
    · (repeat' (first|refine Sy ?_|refine Dy (fun hh=>?_) fun hh=>?_))
      all_goals (first|(exfalso;omega)|skip)
      exact Ad (i+1) ⟨rfl,rfl,trivial⟩ ⟨by omega,hx.trans hxk,I2 (f:=fun j x=>∀ k,k<j→∀ y,l[k]?=some y→¬ (x.frm<y.til∧y.frm<x.til)) hxi hall (fun k hk' y hy=>hin k (by omega) y hy)⟩ (by omega)
  · (repeat' (first|refine Sy ?_|refine Dy (fun hh=>?_) fun hh=>?_))
    all_goals (first|(exfalso;omega)|skip)
    exact A5 Z Z ⟨⟨_,rfl,fun _ j k x y hkj hxj hyk=>hall j (by have:=(List.getElem?_eq_some_iff.1 hxj).1;omega) x hxj k hkj y hyk⟩,hx⟩
end
end Go.Proofs.YtjicdgejhkgpgaaGreatDoor