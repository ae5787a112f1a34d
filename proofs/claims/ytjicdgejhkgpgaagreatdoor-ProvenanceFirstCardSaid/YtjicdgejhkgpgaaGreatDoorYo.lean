/-
  Walks of the layers runes and pattern. Walks: the program's labels and texts. Arguments of a row: structs opened.
-/
import Derived.Test.YtjicdgejhkgpgaaGreatDoorYn
import Derived.Test.YtjicdgejhkgpgaaGreatDoorYb
set_option linter.all false
namespace Go.Proofs.YtjicdgejhkgpgaaGreatDoor
open Go.RowKit Go.Shelf Go.Lib
attribute [local go_sem] Oper.semAt_some
def Tabs (w:World):Prop:=Lib.Utf8Tabs (Tryz.laysValid_ren.g 3) (Tryz.laysValid_ren.g 4) w
theorem info3:(Tryz.prog.info? 3).map (fun i=>(i.zero,i.size,i.bytes))=some (some (.int .i64 0),1,8):=by kernel_rfl
set_option maxRecDepth 100000 in
set_option maxHeartbeats 4000000 in
theorem pPoints_some (l:List UInt8) (hl:l.length≤1048576) (zs:List Nat) (hp:points l=some zs) (w:World) (hT:Tabs w) :
    Calls Tryz.prog 95 #[.string ⟨l.toArray⟩] w fun e w'=>∃ v,e=.returned (.tuple #[v,.bool true])∧w'.ownsRow w.heap.size 3 1 v zs.length (zs.map fun(z:Nat)=>.int .i64 (z:Int))∧Below w.heap.size w w':=by
  have hzl:=(points_len _ l zs (Nat.le_refl _) hp).1
  have hval:Lib.validD l=true:=by rw [← points_valid _ l (Nat.le_refl _),hp];rfl
  have hsz:(ByteArray.mk l.toArray).size=l.length:=by simp [ByteArray.size]
  have cV:Calls Tryz.prog 128 #[.string ⟨l.toArray⟩] w _:=Any.utf8_ValidString Tryz.laysValid ⟨l.toArray⟩ w (by rw [hsz];omega) hT
  simp only [List.toList_toArray,hval] at cV
  obtain⟨i0,hi,hz0,hz1,hz2⟩:=info_parts info3
  refine callsIn_wide (n:=5) |>.1 ?_
  refine callsIn_of_wp_marks Tryz.func95 rfl trivial ?_ rfl
  simp only [Tryz.ntmps95,List.size_toArray,List.length_cons,List.length_nil,Nat.reduceAdd,Nat.reduceSub,Array.replicate_succ,Array.replicate_zero,List.push_toArray,List.append_toArray,List.nil_append,List.cons_append]
  gi_wp2_with first|(refine⟨trivial,?_⟩;gi_at_call 128;refine(callsIn_wide.2 cV).mono ?_;rintro e w1 ⟨rfl,hb1⟩;have hs1:=hb1.size)|(refine⟨trivial,?_⟩;gi_at_call 129;refine(callsIn_wide.2 (scalars_in l _)).mono ?_;rintro e w2 ⟨rfl,rfl⟩)
  have bO:=Boxed.new w1 32 (.slice none 0 0)
  have bN:=Boxed.new (w1.alloc (.cells #[.slice none 0 0] 32)) 9 (.string ⟨l.toArray⟩)
  rw [World.size_alloc] at bN
  have hB0:Below w.heap.size w ((w1.alloc (.cells #[.slice none 0 0] 32)).alloc (.cells #[.string ⟨l.toArray⟩] 9)):=(hb1.alloc hs1 _).alloc (by simp;omega) _
  refine wpIn_rangeFunc_ownG rfl (by omega) (gf:=169) (lb:=#[.pointer (some ⟨w1.heap.size+1,0,none⟩)]) rfl trivial (enters_of Tryz.func169 (by kernel_rfl) rfl)
    (scalars_stops 4 (by omega) (w1.heap.size+1) l zs hp _ (by simp) bN.cell) walksK_t walksK_b (Below.refl _ _) (fun _=>rfl)
    (fun pre W=>(∃ v,Boxed W w1.heap.size 32 v∧W.ownsRow w.heap.size 3 1 v pre.length (pre.map fun x=>.int .i64 x.2)∧True)∧Below w.heap.size w W)
    (fun _ _ _=>False)
    (OwnFrom.and (Own.from (holdsRow_own w.heap.size w1.heap.size 32 3 1 (fun pre:List (Int × Int)=>pre.length) (fun pre=>pre.map fun x=>Value.int .i64 x.2) (fun pre v=>True)) _) (ownFrom_below (Nat.le_refl _) (by simp;omega)))
    (fun _ _ _ _ _ hs _ _=>hs)
    ⟨⟨_,bO.alloc _,World.ownsRow_nil _ _ _ _,trivial⟩,hB0⟩
    (fun x=>{ tmps:=#[.string ⟨l.toArray⟩,undef,.slice none 0 0,.bool false,.pointer (some ⟨w1.heap.size,0,none⟩),undef,.int .i64 x.2,.string ⟨l.toArray⟩,.bool true,.bool false,.string ⟨l.toArray⟩,.func (.func 169) #[] #[.pointer (some ⟨w1.heap.size+1,0,none⟩)],.int .i64 x.1,.int .i64 x.2,undef,undef,undef,undef,undef],defers:=[] }) ?assign ?body ?done ?stop
  case assign=>
    intro l x W K hK
    dsimp only [enc2]
    gi_wp2
    exact hK
  case body=>
    rintro lv pre x W ⟨⟨v,hv,hrow,-⟩,hB⟩ hlt
    have hc:=hv.cell
    gi_wp2_with (gi_at_builtin;refine wpListIn_append_own _ rfl _ _ 32 rfl w.heap.size 3 i0 (.int .i64 0) 1 8 Tryz.underlying32 hi hz0 hz1 hz2 rfl (by decide) _ _ _ rfl (hrow.alloc _) ⟨W.heap.size,0,none⟩ 1 1 [.int .i64 x.2] rfl rfl (cell_one_new _ _ _) (by simp [Value.oneCell']) (by unfold maxLen;omega) (by omega) (by have:=hB.size;simp;omega) ?_;intro v' w1 hown' hgrow _;obtain⟨g',cap',rfl⟩:=ownsRow_succ hown';obtain⟨hv1,hv2,hr2,hk2,hb2⟩:=hv.appended (by decide) hrow hB.size (by omega) hown' hgrow;have hc1:=hv1.cell;have hf1:=hv1.frozen)
    exact⟨hk2.from _,hk2.walks,⟨_,hv2,by simpa using hr2,trivial⟩,hB.trans hb2⟩
  case done=>
    rintro D ys W hD hys ⟨⟨v,hv,hrow,-⟩,hB⟩ hK
    have hc:=hv.cell
    have hyl:ys.length=zs.length:=by have:=congrArg List.length hys;simpa using this
    have hyc:ys.map (fun x=>Value.int .i64 x.2)=zs.map fun(z:Nat)=>Value.int .i64 (z:Int):=by
      have:=congrArg (List.map (Value.int .i64)) hys
      simpa [Function.comp_def] using this
    gi_wp2
    refine⟨by simp,.inl ⟨_,_,rfl,run_takeDeferred hK,?_⟩⟩
    refine⟨_,results_tmp2 rfl _ _ _,v,rfl,?_,hB.trans (belowK_b (w:=w) (Nat.le_refl _) W D _ _ (by simp at hD;omega) hK rfl rfl)⟩
    rw [← hyl,← hyc]
    exact ownsRow_putObj hrow _ hK rfl
  case stop=>
    rintro D c pre W _ _ h _
    exact h.elim
set_option maxRecDepth 100000 in
set_option maxHeartbeats 4000000 in
theorem pPoints_none (l:List UInt8) (hl:l.length≤1048576) (hp:points l=none) (w:World) (hT:Tabs w) :
    Calls Tryz.prog 95 #[.string ⟨l.toArray⟩] w fun e w'=>e=.returned (.tuple #[.slice none 0 0,.bool false])∧Below w.heap.size w w':=by
  have hval:Lib.validD l=false:=by rw [← points_valid _ l (Nat.le_refl _),hp];rfl
  have hsz:(ByteArray.mk l.toArray).size=l.length:=by simp [ByteArray.size]
  have cV:Calls Tryz.prog 128 #[.string ⟨l.toArray⟩] w _:=Any.utf8_ValidString Tryz.laysValid ⟨l.toArray⟩ w (by rw [hsz];omega) hT
  simp only [List.toList_toArray,hval] at cV
  refine callsIn_wide (n:=5) |>.1 ?_
  refine callsIn_of_wp_marks Tryz.func95 rfl trivial ?_ rfl
  simp only [Tryz.ntmps95,List.size_toArray,List.length_cons,List.length_nil,Nat.reduceAdd,Nat.reduceSub,Array.replicate_succ,Array.replicate_zero,List.push_toArray,List.append_toArray,List.nil_append,List.cons_append]
  gi_wp2_with (refine⟨trivial,?_⟩;gi_at_call 128;refine(callsIn_wide.2 cV).mono ?_;rintro e w1 ⟨rfl,hb1⟩;have hs1:=hb1.size)
  exact⟨_,results_tmp2 rfl _ _ _,rfl,hb1⟩
open Go.En in
theorem pPoints_any (l:List UInt8) (hl:l.length≤1048576) (w:World) (hT:Tabs w):Calls Tryz.prog 95 #[str l] w (Rt (PointsR w (points l))):=by
  cases hp:points l with
  | none=>
    refine(pPoints_none l hl hp w hT).mono ?_
    rintro e w' ⟨rfl,hb⟩
    exact⟨_,rfl,hb,rfl⟩
  | some zs=>
    refine(pPoints_some l hl zs hp w hT).mono ?_
    rintro e w' ⟨v,rfl,ho,hb⟩
    exact⟨_,rfl,hb,v,rfl,ho⟩
end Go.Proofs.YtjicdgejhkgpgaaGreatDoor
namespace Go.Proofs.YtjicdgejhkgpgaaGreatDoor
open Go.RowKit Go.En Go.Pv
theorem Tabs.ext {w w':World} (h:Tabs w) (x:Ext w w'):Tabs w':=Utf8Tabs_below h x
theorem enc_ctl {z:Nat} (hz:z≤1114111):(encB z).any ctlB=ctlN z:=by
  unfold encB encN ctlN
  (repeat' split) <;> simp [ctlB,UInt8.toNat_ofNat'] <;>(try rw [Bool.eq_iff_iff]) <;>(try simp) <;> omega
theorem text_ctl {p:List UInt8} {zs:List Nat} (hp:points p=some zs):zs.any ctlN=p.any ctlB:=by
  have hs:=(points_len _ p zs (Nat.le_refl _) hp).2.1
  rw [← (points_len _ p zs (Nat.le_refl _) hp).2.2]
  clear hp
  induction zs with
  | nil=>rfl
  | cons z r ih=>
    rw [List.map_cons,List.flatten_cons,List.any_append,List.any_cons,ih (fun x hx=>hs x (by simp [hx])),enc_ctl (scal_iff.1 (hs z (by simp))).1]
theorem any_no {s:List UInt8} {f:UInt8→Bool} (h:∀(j:Nat) (c:UInt8),j<s.length→s[j]?=some c→f c=false):s.any f=false:=by
  rw [List.any_eq_false]
  intro c hc
  obtain⟨j,hj⟩:=List.getElem?_of_mem hc
  rw [h j c (List.getElem?_eq_some_iff.1 hj).1 hj];simp
theorem any_yes {s:List UInt8} {f:UInt8→Bool} {j:Nat} {c:UInt8} (h:s[j]?=some c) (hc:f c=true):s.any f=true:=List.any_eq_true.2 ⟨c,List.mem_of_getElem? h,hc⟩
attribute [local irreducible] E EL K Val Enters Rt Calls bodyPost Code.wp RQ
set_option maxHeartbeats 4000000 in
set_option maxRecDepth 8000 in
theorem text58_val (s : List UInt8) (w : World) (hT : Tabs w) : Calls Tryz.prog 58 #[str s] w (Rt fun u w' => u = int (txtF s) ∧ Ext w w') := by
  refine calls_E (n:=32) (args:=[str s]) Tryz.func58 rfl Tryz.ntmps58 (by simp) ?_
  by_cases h200:s.length≤200
  · have hf:=pPoints_any s (by omega) w hT
    have ht0:txtF s=match points s with|none=>3|some zs=>if zs.any ctlN then 3 else 0:=by unfold txtF;rw [if_neg (by omega)];cases points s <;> rfl
    cases hp:points s with
    | none=>
      rw [hp] at hf ht0
      rw [ht0]
      (repeat' (first|(refine EL_call Z Z (entersF Z Z en95) hf (fun vC wC hC=>?_);obtain⟨xC,hv⟩:=hC;obtain rfl:=hv)|(refine at_EL ?_;first|refine eN ?_|refine eV Z Z (zA Z Z) ?_|refine eV Z Z (zB Z Z) ?_|(refine at_bin ?_;first|refine eD Z Z (zO Z Z Z) (fun hh=>?_) (fun hh=>?_))|(refine at_call ?_;first|refine eV Z Z (zJ Z Z) ?_)|refine eV Z Z (zE Z Z) ?_|refine eV Z Z (zF Z Z Z) ?_)|(refine at_K ?_;first|refine K_then ?_|refine K_then_ret ?_)|(refine at_E ?_;first|refine E_seq ?_|refine E_region ?_|refine E_cond_t Z ?_|refine E_cond_f Z ?_|refine E_skip ?_|refine E_ret ?_)))
      all_goals (first|(exfalso;omega)|skip)
      exact ret_1 Z Z ⟨rfl,xC⟩
    | some zs=>
      rw [hp] at hf ht0
      have ht1:txtF s=if zs.any ctlN then 3 else 0:=ht0
      rw [ht1,text_ctl hp]
      (repeat' ((fail_if_success (refine E_seq (x:=(Code.region 6 _ _)) ?_));first|(refine EL_call Z Z (entersF Z Z en95) hf (fun vC wC hC=>?_);obtain⟨xC,v,hv,hown⟩:=hC;obtain rfl:=hv)|(refine at_EL ?_;first|refine eN ?_|refine eV Z Z (zA Z Z) ?_|refine eV Z Z (zB Z Z) ?_|(refine at_bin ?_;first|refine eD Z Z (zO Z Z Z) (fun hh=>?_) (fun hh=>?_))|(refine at_call ?_;first|refine eV Z Z (zJ Z Z) ?_)|refine eV Z Z (zE Z Z) ?_|refine eV Z Z (zF Z Z Z) ?_)|(refine at_K ?_;first|refine K_then ?_|refine K_then_ret ?_)|(refine at_E ?_;first|refine E_seq ?_|refine E_region ?_|refine E_cond_t Z ?_|refine E_cond_f Z ?_|refine E_skip ?_|refine E_ret ?_)))
      all_goals (first|(exfalso;omega)|skip)
      (repeat' (first|(refine at_EL ?_;first|refine eN ?_|refine eV Z Z (zA Z Z) ?_|(refine at_call ?_;first|refine eV Z Z (zJ Z Z) ?_))|(refine at_K ?_;first|refine K_then ?_)|(refine at_E ?_;first|refine E_seq ?_|refine E_region ?_|refine E_block ?_)))
      refine E_loop (ι:=Nat) (fun i=>[(0,str s),(17,int s.length),(18,int i)]) (fun i wr=>i≤s.length∧Ext wC wr∧∀(j:Nat) (c:UInt8),j<i→s[j]?=some c→ctlB c=false) (fun i=>s.length-i) 0
        ⟨rfl,rfl,rfl,trivial⟩ ⟨Nat.zero_le _,Ext.refl _,fun j c hj=>absurd hj (by omega)⟩ ?_
      rintro i wr ⟨hi,hx,hall⟩
      by_cases hlt:i<s.length
      · obtain⟨c,hc⟩:∃ c,s[i]?=some c:=⟨_,List.getElem?_eq_getElem hlt⟩
        (repeat' (first|refine eV Z Z (val_index_str Z Z Z Z hc) ?_|(refine at_EL ?_;first|refine eN ?_|refine eO Z Z ?_|refine eV Z Z (zA Z Z) ?_|refine eV Z Z (zB Z Z) ?_|(refine at_bin ?_;first|refine eD Z Z (zL Z Z Z) (fun hh=>?_) (fun hh=>?_)|refine eD Z Z (zM Z Z Z) (fun hh=>?_) (fun hh=>?_)|refine eV Z Z (zU Z Z Z (by omega) (by omega)) ?_)|refine eV Z Z (zC Z Z Z) ?_|refine eV Z Z (zD Z Z Z) ?_)|(refine at_K ?_;first|refine K_then ?_|refine K_in ?_|refine K_then_ret ?_|refine K_then_exit ?_|refine K_in_ret ?_|refine K_in_exit ?_)|(refine at_E ?_;first|refine E_seq ?_|refine E_region ?_|refine E_cond_t Z ?_|refine E_cond_f Z ?_|refine E_block ?_|refine E_skip ?_|refine E_ret ?_|refine E_exit ?_)))
        all_goals (first|(exfalso;omega)|skip)
        all_goals first
          | (have hct : ctlB c = true := by unfold ctlB; simp; omega
             rw [any_yes hc hct]
             exact ret_1 Z Z ⟨rfl,xC.trans hx⟩)
          | (have hct : ctlB c = false := by unfold ctlB; simp; omega
             refine K_rnd (i+1) ⟨rfl,rfl,rfl,trivial⟩ ⟨by omega,hx,fun j c' hj hc'=>?_⟩ (by omega)
             by_cases e:j=i
             · subst e;rw [hc] at hc';cases hc';exact hct
             · exact hall j c' (by omega) hc')
      · rw [any_no (fun j c hj hc=>hall j c (by omega) hc)]
        (repeat' (first|(refine at_EL ?_;first|refine eN ?_|refine eV Z Z (zA Z Z) ?_|refine eV Z Z (zB Z Z) ?_|(refine at_bin ?_;first|refine eD Z Z (zL Z Z Z) (fun hh=>?_) (fun hh=>?_)))|(refine at_K ?_;first|refine K_then ?_|refine K_then_exit ?_|refine K_in_exit ?_)|(refine at_E ?_;first|refine E_seq ?_|refine E_region ?_|refine E_cond_t Z ?_|refine E_cond_f Z ?_|refine E_block ?_|refine E_skip ?_|refine E_ret ?_|refine E_exit ?_)))
        all_goals (first|(exfalso;omega)|skip)
        exact ret_1 Z Z ⟨rfl,xC.trans hx⟩
  · have:txtF s=5:=by unfold txtF;rw [if_pos (by omega)]
    rw [this]
    (repeat' (first|(refine at_EL ?_;first|refine eN ?_|refine eV Z Z (zA Z Z) ?_|refine eV Z Z (zB Z Z) ?_|(refine at_bin ?_;first|refine eD Z Z (zO Z Z Z) (fun hh=>?_) (fun hh=>?_))|(refine at_call ?_;first|refine eV Z Z (zJ Z Z) ?_))|(refine at_K ?_;first|refine K_then ?_|refine K_then_ret ?_)|(refine at_E ?_;first|refine E_seq ?_|refine E_region ?_|refine E_cond_t Z ?_|refine E_cond_f Z ?_|refine E_skip ?_|refine E_ret ?_)))
    all_goals (first|(exfalso;omega)|skip)
    exact ret_1 Z Z ⟨rfl,Ext.refl _⟩
set_option maxHeartbeats 4000000 in
set_option maxRecDepth 8000 in
theorem ctl94_any (c:UInt8) (w:World):Calls Tryz.prog 94 #[.int .u8 c.toNat] w (Rt fun u w'=>u=.bool (ctlB c)∧Ext w w'):=by
  refine calls_E (n:=9) (args:=[.int .u8 c.toNat]) Tryz.func94 rfl Tryz.ntmps94 (by simp) ?_
  (repeat' (first|(refine at_EL ?_;first|refine eN ?_|refine eO Z Z ?_|refine eV Z Z (zA Z Z) ?_|refine eV Z Z (zB Z Z) ?_|(refine at_bin ?_;first|refine eD Z Z (zL Z Z Z) (fun hh=>?_) (fun hh=>?_)|refine eD Z Z (zM Z Z Z) (fun hh=>?_) (fun hh=>?_))|refine eV Z Z (zC Z Z Z) ?_|refine eV Z Z (zD Z Z Z) ?_)|(refine at_K ?_;first|refine K_then ?_)|(refine at_E ?_;first|refine E_seq ?_|refine E_region ?_|refine E_ret ?_)))
  all_goals first
    | (have hct : ctlB c = true := by unfold ctlB; simp; omega
       rw [hct]
       exact ret_1 Z Z ⟨rfl,Ext.refl _⟩)
    | (have hct : ctlB c = false := by unfold ctlB; simp; omega
       rw [hct]
       exact ret_1 Z Z ⟨rfl,Ext.refl _⟩)
set_option maxHeartbeats 4000000 in
set_option maxRecDepth 8000 in
theorem index127_any (s:List UInt8) (b cap:Nat) (w:World) (hcap:s.length≤cap) (hsl:s.length≤1000) (hat:At w b 0 (s.map fun c=>Value.int .u8 c.toNat)):Calls Tryz.prog 127 #[.slice (some ⟨b,0,none⟩) s.length cap,.func (.func 94) #[] #[] ] w (Rt fun u w'=>((s.any ctlB=true→∃ q:Nat,u=int q)∧(s.any ctlB=false→u=int (-1)))∧Ext w w'):=by
  refine calls_E (n:=19) (args:=[.slice (some ⟨b,0,none⟩) s.length cap,.func (.func 94) #[] #[] ]) Tryz.func127 rfl Tryz.ntmps127 (by simp) ?_
  (repeat' (first|(refine at_EL ?_;first|refine eN ?_|refine eV Z Z (zA Z Z) ?_|refine eV Z Z (zB Z Z) ?_|(refine at_call ?_;first|refine eV Z Z (zK Z Z) ?_))|(refine at_K ?_;first|refine K_then ?_)|(refine at_E ?_;first|refine E_seq ?_|refine E_region ?_|refine E_block ?_)))
  refine E_loop (ι:=Nat) (fun i=>[(0,.slice (some ⟨b,0,none⟩) s.length cap),(1,.func (.func 94) #[] #[]),(7,int s.length),(8,int i)])
    (fun i wr=>i≤s.length∧Ext w wr∧∀(j:Nat) (c:UInt8),j<i→s[j]?=some c→ctlB c=false) (fun i=>s.length-i) 0
    ⟨rfl,rfl,rfl,rfl,trivial⟩ ⟨Nat.zero_le _,Ext.refl _,fun j y hj=>absurd hj (by omega)⟩ ?_
  rintro i wr ⟨hi,hx,hall⟩
  by_cases hlt:i<s.length
  · obtain⟨c,hc⟩:∃ c,s[i]?=some c:=⟨_,List.getElem?_eq_getElem hlt⟩
    have hcell:wr.cell? ⟨b,0+i*1,none⟩=some (Value.int .u8 c.toNat):=(hat.ext hx).ith (f:=fun c=>Value.int .u8 c.toNat) hc
    have cF:=ctl94_any c wr
    cases hct:ctlB c with
    | true=>
      rw [hct] at cF
      have hy:=any_yes hc hct
      (repeat' (first|refine eV Z Z (val_load Z Z Z (by assumption)) ?_|refine eV Z Z (val_indexAddr (m:=i) Z Z Z (by first|rfl|omega) (by omega)) ?_|(refine EL_call Z Z (entersC (cap:=[]) Z Z Z en94) cF (fun vC wC hC=>?_);obtain⟨rfl,xC⟩:=hC;replace hx:=hx.trans xC)|(refine at_EL ?_;first|refine eN ?_|refine eV Z Z (zA Z Z) ?_|refine eV Z Z (zB Z Z) ?_|(refine at_bin ?_;first|refine eD Z Z (zL Z Z Z) (fun hh=>?_) (fun hh=>?_)))|(refine at_K ?_;first|refine K_then ?_|refine K_then_ret ?_|refine K_then_exit ?_|refine K_in_ret ?_|refine K_in_exit ?_)|(refine at_E ?_;first|refine E_seq ?_|refine E_region ?_|refine E_cond_t Z ?_|refine E_cond_f Z ?_|refine E_block ?_|refine E_skip ?_|refine E_ret ?_|refine E_exit ?_)))
      all_goals (try (exfalso;omega))
      exact ret_1 Z Z ⟨⟨fun _=>⟨i,rfl⟩,fun h=>by rw [hy] at h;cases h⟩,hx⟩
    | false=>
      rw [hct] at cF
      (repeat' (first|refine eV Z Z (val_load Z Z Z (by assumption)) ?_|refine eV Z Z (val_indexAddr (m:=i) Z Z Z (by first|rfl|omega) (by omega)) ?_|(refine EL_call Z Z (entersC (cap:=[]) Z Z Z en94) cF (fun vC wC hC=>?_);obtain⟨rfl,xC⟩:=hC;replace hx:=hx.trans xC)|(refine at_EL ?_;first|refine eN ?_|refine eV Z Z (zA Z Z) ?_|refine eV Z Z (zB Z Z) ?_|(refine at_bin ?_;first|refine eD Z Z (zL Z Z Z) (fun hh=>?_) (fun hh=>?_)|refine eV Z Z (zU Z Z Z (by omega) (by omega)) ?_))|(refine at_K ?_;first|refine K_then ?_|refine K_in ?_|refine K_then_exit ?_|refine K_in_exit ?_)|(refine at_E ?_;first|refine E_seq ?_|refine E_region ?_|refine E_cond_t Z ?_|refine E_cond_f Z ?_|refine E_block ?_|refine E_skip ?_|refine E_ret ?_|refine E_exit ?_)))
      all_goals (try (exfalso;omega))
      refine K_rnd (i+1) ⟨rfl,rfl,rfl,rfl,trivial⟩ ⟨by omega,hx,fun j y hj hy=>?_⟩ (by omega)
      by_cases e:j=i
      · subst e;rw [hc] at hy;cases hy;exact hct
      · exact hall j y (by omega) hy
  · have hno:=any_no (fun j c hj hc=>hall j c (by omega) hc)
    (repeat' (first|(refine at_EL ?_;first|refine eN ?_|refine eV Z Z (zA Z Z) ?_|refine eV Z Z (zB Z Z) ?_|(refine at_bin ?_;first|refine eD Z Z (zL Z Z Z) (fun hh=>?_) (fun hh=>?_)))|(refine at_K ?_;first|refine K_then ?_|refine K_then_exit ?_|refine K_in_exit ?_)|(refine at_E ?_;first|refine E_seq ?_|refine E_region ?_|refine E_cond_t Z ?_|refine E_cond_f Z ?_|refine E_block ?_|refine E_skip ?_|refine E_ret ?_|refine E_exit ?_)))
    all_goals (try (exfalso;omega))
    exact ret_1 Z Z ⟨⟨fun h=>(by rw [hno] at h;cases h),fun _=>rfl⟩,hx⟩
set_option maxHeartbeats 4000000 in
set_option maxRecDepth 8000 in
theorem contains93_any (s:List UInt8) (b cap:Nat) (w:World) (hcap:s.length≤cap) (hsl:s.length≤1000) (hat:At w b 0 (s.map fun c=>Value.int .u8 c.toNat)):Calls Tryz.prog 93 #[.slice (some ⟨b,0,none⟩) s.length cap,.func (.func 94) #[] #[] ] w (Rt fun u w'=>u=.bool (s.any ctlB)∧Ext w w'):=by
  refine calls_E (n:=9) (args:=[.slice (some ⟨b,0,none⟩) s.length cap,.func (.func 94) #[] #[] ]) Tryz.func93 rfl Tryz.ntmps93 (by simp) ?_
  have ci:=index127_any s b cap w hcap hsl hat
  cases hany:s.any ctlB with
  | true=>
    rw [hany] at ci
    (repeat' (first|(refine EL_call Z Z (entersF Z Z en127) ci (fun vC wC hC=>?_);obtain⟨⟨h1,h2⟩,xC⟩:=hC;obtain⟨q,rfl⟩:=h1 rfl)|(refine at_EL ?_;first|refine eN ?_|refine eV Z Z (zA Z Z) ?_|refine eV Z Z (zB Z Z) ?_|(refine at_bin ?_;first|refine eD Z Z (zP Z Z Z) (fun hh=>?_) (fun hh=>?_)))|(refine at_K ?_;first|refine K_then ?_)|(refine at_E ?_;first|refine E_seq ?_|refine E_region ?_|refine E_ret ?_)))
    all_goals (try (exfalso;omega))
    exact ret_1 Z Z ⟨rfl,xC⟩
  | false=>
    rw [hany] at ci
    (repeat' (first|(refine EL_call Z Z (entersF Z Z en127) ci (fun vC wC hC=>?_);obtain⟨⟨h1,h2⟩,xC⟩:=hC;obtain rfl:=h2 rfl)|(refine at_EL ?_;first|refine eN ?_|refine eV Z Z (zA Z Z) ?_|refine eV Z Z (zB Z Z) ?_|(refine at_bin ?_;first|refine eD Z Z (zP Z Z Z) (fun hh=>?_) (fun hh=>?_)))|(refine at_K ?_;first|refine K_then ?_)|(refine at_E ?_;first|refine E_seq ?_|refine E_region ?_|refine E_ret ?_)))
    all_goals (try (exfalso;omega))
    exact ret_1 Z Z ⟨rfl,xC⟩
theorem lab_not {s:List UInt8} (h:s.length=0∨32<s.length):labB s=false:=by
  unfold labB
  have:(decide (1≤s.length)&&decide (s.length≤32))=false:=by
    rcases h with h|h
    · rw [decide_eq_false (by omega)];rfl
    · rw [decide_eq_false (p:=s.length≤32) (by omega),Bool.and_false]
  rw [this,Bool.and_false,Bool.and_false]
set_option maxHeartbeats 4000000 in
set_option maxRecDepth 8000 in
theorem label57_any (s : List UInt8) (w : World) (hT : Tabs w) : Calls Tryz.prog 57 #[str s] w (Rt fun u w' => u = .bool (labB s) ∧ Ext w w') := by
  refine calls_E (n:=23) (args:=[str s]) Tryz.func57 rfl Tryz.ntmps57 (by simp) ?_
  by_cases h0:s=[]
  · subst h0
    rw [lab_not (.inl rfl)]
    (repeat' (first|(refine at_EL ?_;first|refine eN ?_|refine eO Z Z ?_|refine eV Z Z (zA Z Z) ?_|refine eV Z Z (zB Z Z) ?_|(refine at_bin ?_;first|refine eD Z Z (zO Z Z Z) (fun hh=>?_) (fun hh=>?_)|refine eD Z Z (zR Z Z Z) (fun hh=>?_) (fun hh=>?_))|(refine at_call ?_;first|refine eV Z Z (zJ Z Z) ?_)|refine eV Z Z (zC Z Z Z) ?_|refine eV Z Z (zD Z Z Z) ?_)|(refine at_K ?_;first|refine K_then ?_|refine K_then_ret ?_)|(refine at_E ?_;first|refine E_seq ?_|refine E_region ?_|refine E_cond_t Z ?_|refine E_ret ?_)))
    all_goals (try (exfalso;first|omega|contradiction))
    exact ret_1 Z Z ⟨rfl,Ext.refl _⟩
  · have hl0:0<s.length:=List.length_pos_iff.2 h0
    by_cases h32:s.length≤32
    · have hlab:labB s=(!(s.any ctlB)&&(points s).isSome):=by
        unfold labB;rw [decide_eq_true (show 1≤s.length by omega),decide_eq_true h32];simp
      rw [hlab]
      cases hany:s.any ctlB with
      | true=>
        (repeat' (first|(refine EL_bytes Z Z Z Z (fun bB cB wB xB hbB hcB aB=>?_))|(refine EL_call Z Z (entersF Z Z en93) (contains93_any s _ _ _ hcB (by omega) aB) (fun vC wC hC=>?_);obtain⟨rfl,xC⟩:=hC;rw [hany])|(refine at_EL ?_;first|refine eN ?_|refine eO Z Z ?_|refine eV Z Z (zA Z Z) ?_|refine eV Z Z (zB Z Z) ?_|(refine at_bin ?_;first|refine eD Z Z (zO Z Z Z) (fun hh=>?_) (fun hh=>?_)|refine eD Z Z (zR Z Z Z) (fun hh=>?_) (fun hh=>?_))|(refine at_call ?_;first|refine eV Z Z (zJ Z Z) ?_)|refine eV Z Z (zC Z Z Z) ?_|refine eV Z Z (zD Z Z Z) ?_)|(refine at_K ?_;first|refine K_then ?_|refine K_then_ret ?_)|(refine at_E ?_;first|refine E_seq ?_|refine E_region ?_|refine E_cond_t Z ?_|refine E_ret ?_)))
        all_goals (try (exfalso;first|omega|contradiction))
        exact ret_1 Z Z ⟨rfl,xB.trans xC⟩
      | false=>
        cases hp:points s with
        | none=>
          (repeat' (first|(refine EL_bytes Z Z Z Z (fun bB cB wB xB hbB hcB aB=>?_))|(refine EL_call Z Z (entersF Z Z en93) (contains93_any s _ _ _ hcB (by omega) aB) (fun vC wC hC=>?_);obtain⟨rfl,xC⟩:=hC;rw [hany];have hf:=pPoints_any s (by omega) wC (hT.ext (xB.trans xC));rw [hp] at hf)|(refine EL_call Z Z (entersF Z Z en95) hf (fun vD wD hD=>?_);obtain⟨xD,hv⟩:=hD;obtain rfl:=hv)|(refine at_EL ?_;first|refine eN ?_|refine eO Z Z ?_|refine eV Z Z (zA Z Z) ?_|refine eV Z Z (zB Z Z) ?_|(refine at_bin ?_;first|refine eD Z Z (zO Z Z Z) (fun hh=>?_) (fun hh=>?_)|refine eD Z Z (zR Z Z Z) (fun hh=>?_) (fun hh=>?_))|(refine at_call ?_;first|refine eV Z Z (zJ Z Z) ?_)|refine eV Z Z (zC Z Z Z) ?_|refine eV Z Z (zD Z Z Z) ?_|refine eV Z Z (zF Z Z Z) ?_)|(refine at_K ?_;first|refine K_then ?_|refine K_then_ret ?_)|(refine at_E ?_;first|refine E_seq ?_|refine E_region ?_|refine E_cond_t Z ?_|refine E_cond_f Z ?_|refine E_skip ?_|refine E_ret ?_)))
          all_goals (try (exfalso;first|omega|contradiction))
          exact ret_1 Z Z ⟨rfl,(xB.trans xC).trans xD⟩
        | some zs=>
          (repeat' (first|(refine EL_bytes Z Z Z Z (fun bB cB wB xB hbB hcB aB=>?_))|(refine EL_call Z Z (entersF Z Z en93) (contains93_any s _ _ _ hcB (by omega) aB) (fun vC wC hC=>?_);obtain⟨rfl,xC⟩:=hC;rw [hany];have hf:=pPoints_any s (by omega) wC (hT.ext (xB.trans xC));rw [hp] at hf)|(refine EL_call Z Z (entersF Z Z en95) hf (fun vD wD hD=>?_);obtain⟨xD,v,hv,hown⟩:=hD;obtain rfl:=hv)|(refine at_EL ?_;first|refine eN ?_|refine eO Z Z ?_|refine eV Z Z (zA Z Z) ?_|refine eV Z Z (zB Z Z) ?_|(refine at_bin ?_;first|refine eD Z Z (zO Z Z Z) (fun hh=>?_) (fun hh=>?_)|refine eD Z Z (zR Z Z Z) (fun hh=>?_) (fun hh=>?_))|(refine at_call ?_;first|refine eV Z Z (zJ Z Z) ?_)|refine eV Z Z (zC Z Z Z) ?_|refine eV Z Z (zD Z Z Z) ?_|refine eV Z Z (zF Z Z Z) ?_)|(refine at_K ?_;first|refine K_then ?_|refine K_then_ret ?_)|(refine at_E ?_;first|refine E_seq ?_|refine E_region ?_|refine E_cond_t Z ?_|refine E_cond_f Z ?_|refine E_skip ?_|refine E_ret ?_)))
          all_goals (try (exfalso;first|omega|contradiction))
          exact ret_1 Z Z ⟨rfl,(xB.trans xC).trans xD⟩
    · rw [lab_not (.inr (by omega))]
      (repeat' (first|(refine at_EL ?_;first|refine eN ?_|refine eO Z Z ?_|refine eV Z Z (zA Z Z) ?_|refine eV Z Z (zB Z Z) ?_|(refine at_bin ?_;first|refine eD Z Z (zO Z Z Z) (fun hh=>?_) (fun hh=>?_)|refine eD Z Z (zR Z Z Z) (fun hh=>?_) (fun hh=>?_))|(refine at_call ?_;first|refine eV Z Z (zJ Z Z) ?_)|refine eV Z Z (zC Z Z Z) ?_|refine eV Z Z (zD Z Z Z) ?_)|(refine at_K ?_;first|refine K_then ?_|refine K_then_ret ?_)|(refine at_E ?_;first|refine E_seq ?_|refine E_region ?_|refine E_cond_t Z ?_|refine E_ret ?_)))
      all_goals (try (exfalso;first|omega|contradiction))
      exact ret_1 Z Z ⟨rfl,Ext.refl _⟩
end Go.Proofs.YtjicdgejhkgpgaaGreatDoor
namespace Go.En
open Go.RowKit
theorem bd_each {H:Type} {P:Program} {ts:List TypeId} {ds:List (DataW H)} (h:(DataW.weightsEach P ts ds).all (·≤reachBytes)=true) {j:Nat} {t:TypeId} {d:DataW H} (ht:ts[j]?=some t) (hd:ds[j]?=some d):Bd P t d:=
  List.all_eq_true.2 fun n hn=>List.all_eq_true.1 h n (DataW.weights_mem_each ht hd n hn)
theorem str_of (s:ByteArray):Value.string s=str s.data.toList:=by cases s;simp [str]
end Go.En
