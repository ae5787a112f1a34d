/-
  Walks: the program's labels and texts. Arguments of a row: structs opened. Walks: the reference's siblings, overlap, spans, ranked. Walks: the reference's placed, noteError. Walks: the reference's lists of spans (insert, without, Union, Minus, Covers): they come to an end. Walks: the reference's noteError, tierError. Walks: the reference's tier, Check of tiers. Walks: the reference's Check of tiers, Check, Light, Copy of documents. Walks: the reference's check of the words of an entry. Structs of numbers compared. Walks: the reference's links: what is reached by them. Walks: what the reference's links reach. Walks: the reference's check of links and of variants.
-/
import Derived.Test.YtjicdgejhkgpgaaGreatDoorYm
import Derived.Test.YtjicdgejhkgpgaaGreatDoorYn
import Derived.Test.YtjicdgejhkgpgaaGreatDoorG
import Derived.Test.YtjicdgejhkgpgaaGreatDoorYg
import Derived.Test.YtjicdgejhkgpgaaGreatDoorYh
import Derived.Test.YtjicdgejhkgpgaaGreatDoorYe
import Derived.Test.YtjicdgejhkgpgaaGreatDoorYi
import Derived.Test.YtjicdgejhkgpgaaGreatDoorYj
set_option linter.all false
namespace Go.Proofs.YtjicdgejhkgpgaaGreatDoor
open Go.RowKit Go.En Go.Pv
theorem Tabs.ext {w w':World} (h:Tabs w) (x:Ext w w'):Tabs w':=Utf8Tabs_below h x
theorem enc_ctl {z:Nat} (hz:z≤1114111):(encB z).any ctlB=ctlN z:=by
  unfold encB encN ctlN
  (repeat' split) <;> simp [ctlB,UInt8.toNat_ofNat'] <;>(try rw [Bool.eq_iff_iff]) <;>(try simp) <;> omega
theorem text_ctl {p:List UInt8} {zs:List Nat} (hp:points p=some zs):zs.any ctlN=p.any ctlB:=by
  have hs:=(points_len _ p zs (Nat.le_refl _) hp).2.1
  rw [← (points_len _ p zs (Nat.le_refl _) hp).2.2]
  clear hp
  induction zs with
  | nil=>rfl
  | cons z r ih=>
    rw [List.map_cons,List.flatten_cons,List.any_append,List.any_cons,ih (fun x hx=>hs x (by simp [hx])),enc_ctl (scal_iff.1 (hs z (by simp))).1]
theorem any_no {s:List UInt8} {f:UInt8→Bool} (h:∀(j:Nat) (c:UInt8),j<s.length→s[j]?=some c→f c=false):s.any f=false:=by
  rw [List.any_eq_false]
  intro c hc
  obtain⟨j,hj⟩:=List.getElem?_of_mem hc
  rw [h j c (List.getElem?_eq_some_iff.1 hj).1 hj];simp
theorem any_yes {s:List UInt8} {f:UInt8→Bool} {j:Nat} {c:UInt8} (h:s[j]?=some c) (hc:f c=true):s.any f=true:=List.any_eq_true.2 ⟨c,List.mem_of_getElem? h,hc⟩
attribute [local irreducible] E EL K Val Enters Rt Calls bodyPost Code.wp RQ
set_option maxHeartbeats 4000000 in
set_option maxRecDepth 8000 in
theorem text58_val (s : List UInt8) (w : World) (hT : Tabs w) : Calls Tryz.prog 58 #[str s] w (Rt fun u w' => u = int (txtF s) ∧ Ext w w') := by
  refine calls_E (n:=32) (args:=[str s]) Tryz.func58 rfl Tryz.ntmps58 (by simp) ?_
  by_cases h200:s.length≤200
  · have hf:=pPoints_any s (by omega) w hT
    have ht0:txtF s=match points s with|none=>3|some zs=>if zs.any ctlN then 3 else 0:=by unfold txtF;rw [if_neg (by omega)];cases points s <;> rfl
    cases hp:points s with
    | none=>
      rw [hp] at hf ht0
      rw [ht0]
      (repeat' (first|(refine EL_call Z Z (entersF Z Z en95) hf (fun vC wC hC=>?_);obtain⟨xC,hv⟩:=hC;obtain rfl:=hv)|(refine at_EL ?_;first|refine eN ?_|refine eV Z Z (zA Z Z) ?_|refine eV Z Z (zB Z Z) ?_|(refine at_bin ?_;first|refine eD Z Z (zO Z Z Z) (fun hh=>?_) (fun hh=>?_))|(refine at_call ?_;first|refine eV Z Z (zJ Z Z) ?_)|refine eV Z Z (zE Z Z) ?_|refine eV Z Z (zF Z Z Z) ?_)|(refine at_K ?_;first|refine K_then ?_|refine K_then_ret ?_)|(refine at_E ?_;first|refine E_seq ?_|refine E_region ?_|refine E_cond_t Z ?_|refine E_cond_f Z ?_|refine E_skip ?_|refine E_ret ?_)))
      all_goals (first|(exfalso;omega)|skip)
      exact ret_1 Z Z ⟨rfl,xC⟩
    | some zs=>
      rw [hp] at hf ht0
      have ht1:txtF s=if zs.any ctlN then 3 else 0:=ht0
      rw [ht1,text_ctl hp]
      (repeat' ((fail_if_success (refine E_seq (x:=(Code.region 6 _ _)) ?_));first|(refine EL_call Z Z (entersF Z Z en95) hf (fun vC wC hC=>?_);obtain⟨xC,v,hv,hown⟩:=hC;obtain rfl:=hv)|(refine at_EL ?_;first|refine eN ?_|refine eV Z Z (zA Z Z) ?_|refine eV Z Z (zB Z Z) ?_|(refine at_bin ?_;first|refine eD Z Z (zO Z Z Z) (fun hh=>?_) (fun hh=>?_))|(refine at_call ?_;first|refine eV Z Z (zJ Z Z) ?_)|refine eV Z Z (zE Z Z) ?_|refine eV Z Z (zF Z Z Z) ?_)|(refine at_K ?_;first|refine K_then ?_|refine K_then_ret ?_)|(refine at_E ?_;first|refine E_seq ?_|refine E_region ?_|refine E_cond_t Z ?_|refine E_cond_f Z ?_|refine E_skip ?_|refine E_ret ?_)))
      all_goals (first|(exfalso;omega)|skip)
      (repeat' (first|(refine at_EL ?_;first|refine eN ?_|refine eV Z Z (zA Z Z) ?_|(refine at_call ?_;first|refine eV Z Z (zJ Z Z) ?_))|(refine at_K ?_;first|refine K_then ?_)|(refine at_E ?_;first|refine E_seq ?_|refine E_region ?_|refine E_block ?_)))
      refine E_loop (ι:=Nat) (fun i=>[(0,str s),(17,int s.length),(18,int i)]) (fun i wr=>i≤s.length∧Ext wC wr∧∀(j:Nat) (c:UInt8),j<i→s[j]?=some c→ctlB c=false) (fun i=>s.length-i) 0
        ⟨rfl,rfl,rfl,trivial⟩ ⟨Nat.zero_le _,Ext.refl _,fun j c hj=>absurd hj (by omega)⟩ ?_
      rintro i wr ⟨hi,hx,hall⟩
      by_cases hlt:i<s.length
      · obtain⟨c,hc⟩:∃ c,s[i]?=some c:=⟨_,List.getElem?_eq_getElem hlt⟩
        (repeat' (first|refine eV Z Z (val_index_str Z Z Z Z hc) ?_|(refine at_EL ?_;first|refine eN ?_|refine eO Z Z ?_|refine eV Z Z (zA Z Z) ?_|refine eV Z Z (zB Z Z) ?_|(refine at_bin ?_;first|refine eD Z Z (zL Z Z Z) (fun hh=>?_) (fun hh=>?_)|refine eD Z Z (zM Z Z Z) (fun hh=>?_) (fun hh=>?_)|refine eV Z Z (zU Z Z Z (by omega) (by omega)) ?_)|refine eV Z Z (zC Z Z Z) ?_|refine eV Z Z (zD Z Z Z) ?_)|(refine at_K ?_;first|refine K_then ?_|refine K_in ?_|refine K_then_ret ?_|refine K_then_exit ?_|refine K_in_ret ?_|refine K_in_exit ?_)|(refine at_E ?_;first|refine E_seq ?_|refine E_region ?_|refine E_cond_t Z ?_|refine E_cond_f Z ?_|refine E_block ?_|refine E_skip ?_|refine E_ret ?_|refine E_exit ?_)))
        all_goals (first|(exfalso;omega)|skip)
        all_goals first
          | (have hct : ctlB c = true := by unfold ctlB; simp; omega
             rw [any_yes hc hct]
             exact ret_1 Z Z ⟨rfl,xC.trans hx⟩)
          | (have hct : ctlB c = false := by unfold ctlB; simp; omega
             refine K_rnd (i+1) ⟨rfl,rfl,rfl,trivial⟩ ⟨by omega,hx,fun j c' hj hc'=>?_⟩ (by omega)
             by_cases e:j=i
             · subst e;rw [hc] at hc';cases hc';exact hct
             · exact hall j c' (by omega) hc')
      · rw [any_no (fun j c hj hc=>hall j c (by omega) hc)]
        (repeat' (first|(refine at_EL ?_;first|refine eN ?_|refine eV Z Z (zA Z Z) ?_|refine eV Z Z (zB Z Z) ?_|(refine at_bin ?_;first|refine eD Z Z (zL Z Z Z) (fun hh=>?_) (fun hh=>?_)))|(refine at_K ?_;first|refine K_then ?_|refine K_then_exit ?_|refine K_in_exit ?_)|(refine at_E ?_;first|refine E_seq ?_|refine E_region ?_|refine E_cond_t Z ?_|refine E_cond_f Z ?_|refine E_block ?_|refine E_skip ?_|refine E_ret ?_|refine E_exit ?_)))
        all_goals (first|(exfalso;omega)|skip)
        exact ret_1 Z Z ⟨rfl,xC.trans hx⟩
  · have:txtF s=5:=by unfold txtF;rw [if_pos (by omega)]
    rw [this]
    (repeat' (first|(refine at_EL ?_;first|refine eN ?_|refine eV Z Z (zA Z Z) ?_|refine eV Z Z (zB Z Z) ?_|(refine at_bin ?_;first|refine eD Z Z (zO Z Z Z) (fun hh=>?_) (fun hh=>?_))|(refine at_call ?_;first|refine eV Z Z (zJ Z Z) ?_))|(refine at_K ?_;first|refine K_then ?_|refine K_then_ret ?_)|(refine at_E ?_;first|refine E_seq ?_|refine E_region ?_|refine E_cond_t Z ?_|refine E_cond_f Z ?_|refine E_skip ?_|refine E_ret ?_)))
    all_goals (first|(exfalso;omega)|skip)
    exact ret_1 Z Z ⟨rfl,Ext.refl _⟩
set_option maxHeartbeats 4000000 in
set_option maxRecDepth 8000 in
theorem ctl94_any (c:UInt8) (w:World):Calls Tryz.prog 94 #[.int .u8 c.toNat] w (Rt fun u w'=>u=.bool (ctlB c)∧Ext w w'):=by
  refine calls_E (n:=9) (args:=[.int .u8 c.toNat]) Tryz.func94 rfl Tryz.ntmps94 (by simp) ?_
  (repeat' (first|(refine at_EL ?_;first|refine eN ?_|refine eO Z Z ?_|refine eV Z Z (zA Z Z) ?_|refine eV Z Z (zB Z Z) ?_|(refine at_bin ?_;first|refine eD Z Z (zL Z Z Z) (fun hh=>?_) (fun hh=>?_)|refine eD Z Z (zM Z Z Z) (fun hh=>?_) (fun hh=>?_))|refine eV Z Z (zC Z Z Z) ?_|refine eV Z Z (zD Z Z Z) ?_)|(refine at_K ?_;first|refine K_then ?_)|(refine at_E ?_;first|refine E_seq ?_|refine E_region ?_|refine E_ret ?_)))
  all_goals first
    | (have hct : ctlB c = true := by unfold ctlB; simp; omega
       rw [hct]
       exact ret_1 Z Z ⟨rfl,Ext.refl _⟩)
    | (have hct : ctlB c = false := by unfold ctlB; simp; omega
       rw [hct]
       exact ret_1 Z Z ⟨rfl,Ext.refl _⟩)
set_option maxHeartbeats 4000000 in
set_option maxRecDepth 8000 in
theorem index127_any (s:List UInt8) (b cap:Nat) (w:World) (hcap:s.length≤cap) (hsl:s.length≤1000) (hat:At w b 0 (s.map fun c=>Value.int .u8 c.toNat)):Calls Tryz.prog 127 #[.slice (some ⟨b,0,none⟩) s.length cap,.func (.func 94) #[] #[] ] w (Rt fun u w'=>((s.any ctlB=true→∃ q:Nat,u=int q)∧(s.any ctlB=false→u=int (-1)))∧Ext w w'):=by
  refine calls_E (n:=19) (args:=[.slice (some ⟨b,0,none⟩) s.length cap,.func (.func 94) #[] #[] ]) Tryz.func127 rfl Tryz.ntmps127 (by simp) ?_
  (repeat' (first|(refine at_EL ?_;first|refine eN ?_|refine eV Z Z (zA Z Z) ?_|refine eV Z Z (zB Z Z) ?_|(refine at_call ?_;first|refine eV Z Z (zK Z Z) ?_))|(refine at_K ?_;first|refine K_then ?_)|(refine at_E ?_;first|refine E_seq ?_|refine E_region ?_|refine E_block ?_)))
  refine E_loop (ι:=Nat) (fun i=>[(0,.slice (some ⟨b,0,none⟩) s.length cap),(1,.func (.func 94) #[] #[]),(7,int s.length),(8,int i)])
    (fun i wr=>i≤s.length∧Ext w wr∧∀(j:Nat) (c:UInt8),j<i→s[j]?=some c→ctlB c=false) (fun i=>s.length-i) 0
    ⟨rfl,rfl,rfl,rfl,trivial⟩ ⟨Nat.zero_le _,Ext.refl _,fun j y hj=>absurd hj (by omega)⟩ ?_
  rintro i wr ⟨hi,hx,hall⟩
  by_cases hlt:i<s.length
  · obtain⟨c,hc⟩:∃ c,s[i]?=some c:=⟨_,List.getElem?_eq_getElem hlt⟩
    have hcell:wr.cell? ⟨b,0+i*1,none⟩=some (Value.int .u8 c.toNat):=(hat.ext hx).ith (f:=fun c=>Value.int .u8 c.toNat) hc
    have cF:=ctl94_any c wr
    cases hct:ctlB c with
    | true=>
      rw [hct] at cF
      have hy:=any_yes hc hct
      (repeat' (first|refine eV Z Z (val_load Z Z Z (by assumption)) ?_|refine eV Z Z (val_indexAddr (m:=i) Z Z Z (by first|rfl|omega) (by omega)) ?_|(refine EL_call Z Z (entersC (cap:=[]) Z Z Z en94) cF (fun vC wC hC=>?_);obtain⟨rfl,xC⟩:=hC;replace hx:=hx.trans xC)|(refine at_EL ?_;first|refine eN ?_|refine eV Z Z (zA Z Z) ?_|refine eV Z Z (zB Z Z) ?_|(refine at_bin ?_;first|refine eD Z Z (zL Z Z Z) (fun hh=>?_) (fun hh=>?_)))|(refine at_K ?_;first|refine K_then ?_|refine K_then_ret ?_|refine K_then_exit ?_|refine K_in_ret ?_|refine K_in_exit ?_)|(refine at_E ?_;first|refine E_seq ?_|refine E_region ?_|refine E_cond_t Z ?_|refine E_cond_f Z ?_|refine E_block ?_|refine E_skip ?_|refine E_ret ?_|refine E_exit ?_)))
      all_goals (try (exfalso;omega))
      exact ret_1 Z Z ⟨⟨fun _=>⟨i,rfl⟩,fun h=>by rw [hy] at h;cases h⟩,hx⟩
    | false=>
      rw [hct] at cF
      (repeat' (first|refine eV Z Z (val_load Z Z Z (by assumption)) ?_|refine eV Z Z (val_indexAddr (m:=i) Z Z Z (by first|rfl|omega) (by omega)) ?_|(refine EL_call Z Z (entersC (cap:=[]) Z Z Z en94) cF (fun vC wC hC=>?_);obtain⟨rfl,xC⟩:=hC;replace hx:=hx.trans xC)|(refine at_EL ?_;first|refine eN ?_|refine eV Z Z (zA Z Z) ?_|refine eV Z Z (zB Z Z) ?_|(refine at_bin ?_;first|refine eD Z Z (zL Z Z Z) (fun hh=>?_) (fun hh=>?_)|refine eV Z Z (zU Z Z Z (by omega) (by omega)) ?_))|(refine at_K ?_;first|refine K_then ?_|refine K_in ?_|refine K_then_exit ?_|refine K_in_exit ?_)|(refine at_E ?_;first|refine E_seq ?_|refine E_region ?_|refine E_cond_t Z ?_|refine E_cond_f Z ?_|refine E_block ?_|refine E_skip ?_|refine E_ret ?_|refine E_exit ?_)))
      all_goals (try (exfalso;omega))
      refine K_rnd (i+1) ⟨rfl,rfl,rfl,rfl,trivial⟩ ⟨by omega,hx,fun j y hj hy=>?_⟩ (by omega)
      by_cases e:j=i
      · subst e;rw [hc] at hy;cases hy;exact hct
      · exact hall j y (by omega) hy
  · have hno:=any_no (fun j c hj hc=>hall j c (by omega) hc)
    (repeat' (first|(refine at_EL ?_;first|refine eN ?_|refine eV Z Z (zA Z Z) ?_|refine eV Z Z (zB Z Z) ?_|(refine at_bin ?_;first|refine eD Z Z (zL Z Z Z) (fun hh=>?_) (fun hh=>?_)))|(refine at_K ?_;first|refine K_then ?_|refine K_then_exit ?_|refine K_in_exit ?_)|(refine at_E ?_;first|refine E_seq ?_|refine E_region ?_|refine E_cond_t Z ?_|refine E_cond_f Z ?_|refine E_block ?_|refine E_skip ?_|refine E_ret ?_|refine E_exit ?_)))
    all_goals (try (exfalso;omega))
    exact ret_1 Z Z ⟨⟨fun h=>(by rw [hno] at h;cases h),fun _=>rfl⟩,hx⟩
set_option maxHeartbeats 4000000 in
set_option maxRecDepth 8000 in
theorem contains93_any (s:List UInt8) (b cap:Nat) (w:World) (hcap:s.length≤cap) (hsl:s.length≤1000) (hat:At w b 0 (s.map fun c=>Value.int .u8 c.toNat)):Calls Tryz.prog 93 #[.slice (some ⟨b,0,none⟩) s.length cap,.func (.func 94) #[] #[] ] w (Rt fun u w'=>u=.bool (s.any ctlB)∧Ext w w'):=by
  refine calls_E (n:=9) (args:=[.slice (some ⟨b,0,none⟩) s.length cap,.func (.func 94) #[] #[] ]) Tryz.func93 rfl Tryz.ntmps93 (by simp) ?_
  have ci:=index127_any s b cap w hcap hsl hat
  cases hany:s.any ctlB with
  | true=>
    rw [hany] at ci
    (repeat' (first|(refine EL_call Z Z (entersF Z Z en127) ci (fun vC wC hC=>?_);obtain⟨⟨h1,h2⟩,xC⟩:=hC;obtain⟨q,rfl⟩:=h1 rfl)|(refine at_EL ?_;first|refine eN ?_|refine eV Z Z (zA Z Z) ?_|refine eV Z Z (zB Z Z) ?_|(refine at_bin ?_;first|refine eD Z Z (zP Z Z Z) (fun hh=>?_) (fun hh=>?_)))|(refine at_K ?_;first|refine K_then ?_)|(refine at_E ?_;first|refine E_seq ?_|refine E_region ?_|refine E_ret ?_)))
    all_goals (try (exfalso;omega))
    exact ret_1 Z Z ⟨rfl,xC⟩
  | false=>
    rw [hany] at ci
    (repeat' (first|(refine EL_call Z Z (entersF Z Z en127) ci (fun vC wC hC=>?_);obtain⟨⟨h1,h2⟩,xC⟩:=hC;obtain rfl:=h2 rfl)|(refine at_EL ?_;first|refine eN ?_|refine eV Z Z (zA Z Z) ?_|refine eV Z Z (zB Z Z) ?_|(refine at_bin ?_;first|refine eD Z Z (zP Z Z Z) (fun hh=>?_) (fun hh=>?_)))|(refine at_K ?_;first|refine K_then ?_)|(refine at_E ?_;first|refine E_seq ?_|refine E_region ?_|refine E_ret ?_)))
    all_goals (try (exfalso;omega))
    exact ret_1 Z Z ⟨rfl,xC⟩
theorem lab_not {s:List UInt8} (h:s.length=0∨32<s.length):labB s=false:=by
  unfold labB
  have:(decide (1≤s.length)&&decide (s.length≤32))=false:=by
    rcases h with h|h
    · rw [decide_eq_false (by omega)];rfl
    · rw [decide_eq_false (p:=s.length≤32) (by omega),Bool.and_false]
  rw [this,Bool.and_false,Bool.and_false]
set_option maxHeartbeats 4000000 in
set_option maxRecDepth 8000 in
theorem label57_any (s : List UInt8) (w : World) (hT : Tabs w) : Calls Tryz.prog 57 #[str s] w (Rt fun u w' => u = .bool (labB s) ∧ Ext w w') := by
  refine calls_E (n:=23) (args:=[str s]) Tryz.func57 rfl Tryz.ntmps57 (by simp) ?_
  by_cases h0:s=[]
  · subst h0
    rw [lab_not (.inl rfl)]
    (repeat' (first|(refine at_EL ?_;first|refine eN ?_|refine eO Z Z ?_|refine eV Z Z (zA Z Z) ?_|refine eV Z Z (zB Z Z) ?_|(refine at_bin ?_;first|refine eD Z Z (zO Z Z Z) (fun hh=>?_) (fun hh=>?_)|refine eD Z Z (zR Z Z Z) (fun hh=>?_) (fun hh=>?_))|(refine at_call ?_;first|refine eV Z Z (zJ Z Z) ?_)|refine eV Z Z (zC Z Z Z) ?_|refine eV Z Z (zD Z Z Z) ?_)|(refine at_K ?_;first|refine K_then ?_|refine K_then_ret ?_)|(refine at_E ?_;first|refine E_seq ?_|refine E_region ?_|refine E_cond_t Z ?_|refine E_ret ?_)))
    all_goals (try (exfalso;first|omega|contradiction))
    exact ret_1 Z Z ⟨rfl,Ext.refl _⟩
  · have hl0:0<s.length:=List.length_pos_iff.2 h0
    by_cases h32:s.length≤32
    · have hlab:labB s=(!(s.any ctlB)&&(points s).isSome):=by
        unfold labB;rw [decide_eq_true (show 1≤s.length by omega),decide_eq_true h32];simp
      rw [hlab]
      cases hany:s.any ctlB with
      | true=>
        (repeat' (first|(refine EL_bytes Z Z Z Z (fun bB cB wB xB hbB hcB aB=>?_))|(refine EL_call Z Z (entersF Z Z en93) (contains93_any s _ _ _ hcB (by omega) aB) (fun vC wC hC=>?_);obtain⟨rfl,xC⟩:=hC;rw [hany])|(refine at_EL ?_;first|refine eN ?_|refine eO Z Z ?_|refine eV Z Z (zA Z Z) ?_|refine eV Z Z (zB Z Z) ?_|(refine at_bin ?_;first|refine eD Z Z (zO Z Z Z) (fun hh=>?_) (fun hh=>?_)|refine eD Z Z (zR Z Z Z) (fun hh=>?_) (fun hh=>?_))|(refine at_call ?_;first|refine eV Z Z (zJ Z Z) ?_)|refine eV Z Z (zC Z Z Z) ?_|refine eV Z Z (zD Z Z Z) ?_)|(refine at_K ?_;first|refine K_then ?_|refine K_then_ret ?_)|(refine at_E ?_;first|refine E_seq ?_|refine E_region ?_|refine E_cond_t Z ?_|refine E_ret ?_)))
        all_goals (try (exfalso;first|omega|contradiction))
        exact ret_1 Z Z ⟨rfl,xB.trans xC⟩
      | false=>
        cases hp:points s with
        | none=>
          (repeat' (first|(refine EL_bytes Z Z Z Z (fun bB cB wB xB hbB hcB aB=>?_))|(refine EL_call Z Z (entersF Z Z en93) (contains93_any s _ _ _ hcB (by omega) aB) (fun vC wC hC=>?_);obtain⟨rfl,xC⟩:=hC;rw [hany];have hf:=pPoints_any s (by omega) wC (hT.ext (xB.trans xC));rw [hp] at hf)|(refine EL_call Z Z (entersF Z Z en95) hf (fun vD wD hD=>?_);obtain⟨xD,hv⟩:=hD;obtain rfl:=hv)|(refine at_EL ?_;first|refine eN ?_|refine eO Z Z ?_|refine eV Z Z (zA Z Z) ?_|refine eV Z Z (zB Z Z) ?_|(refine at_bin ?_;first|refine eD Z Z (zO Z Z Z) (fun hh=>?_) (fun hh=>?_)|refine eD Z Z (zR Z Z Z) (fun hh=>?_) (fun hh=>?_))|(refine at_call ?_;first|refine eV Z Z (zJ Z Z) ?_)|refine eV Z Z (zC Z Z Z) ?_|refine eV Z Z (zD Z Z Z) ?_|refine eV Z Z (zF Z Z Z) ?_)|(refine at_K ?_;first|refine K_then ?_|refine K_then_ret ?_)|(refine at_E ?_;first|refine E_seq ?_|refine E_region ?_|refine E_cond_t Z ?_|refine E_cond_f Z ?_|refine E_skip ?_|refine E_ret ?_)))
          all_goals (try (exfalso;first|omega|contradiction))
          exact ret_1 Z Z ⟨rfl,(xB.trans xC).trans xD⟩
        | some zs=>
          (repeat' (first|(refine EL_bytes Z Z Z Z (fun bB cB wB xB hbB hcB aB=>?_))|(refine EL_call Z Z (entersF Z Z en93) (contains93_any s _ _ _ hcB (by omega) aB) (fun vC wC hC=>?_);obtain⟨rfl,xC⟩:=hC;rw [hany];have hf:=pPoints_any s (by omega) wC (hT.ext (xB.trans xC));rw [hp] at hf)|(refine EL_call Z Z (entersF Z Z en95) hf (fun vD wD hD=>?_);obtain⟨xD,v,hv,hown⟩:=hD;obtain rfl:=hv)|(refine at_EL ?_;first|refine eN ?_|refine eO Z Z ?_|refine eV Z Z (zA Z Z) ?_|refine eV Z Z (zB Z Z) ?_|(refine at_bin ?_;first|refine eD Z Z (zO Z Z Z) (fun hh=>?_) (fun hh=>?_)|refine eD Z Z (zR Z Z Z) (fun hh=>?_) (fun hh=>?_))|(refine at_call ?_;first|refine eV Z Z (zJ Z Z) ?_)|refine eV Z Z (zC Z Z Z) ?_|refine eV Z Z (zD Z Z Z) ?_|refine eV Z Z (zF Z Z Z) ?_)|(refine at_K ?_;first|refine K_then ?_|refine K_then_ret ?_)|(refine at_E ?_;first|refine E_seq ?_|refine E_region ?_|refine E_cond_t Z ?_|refine E_cond_f Z ?_|refine E_skip ?_|refine E_ret ?_)))
          all_goals (try (exfalso;first|omega|contradiction))
          exact ret_1 Z Z ⟨rfl,(xB.trans xC).trans xD⟩
    · rw [lab_not (.inr (by omega))]
      (repeat' (first|(refine at_EL ?_;first|refine eN ?_|refine eO Z Z ?_|refine eV Z Z (zA Z Z) ?_|refine eV Z Z (zB Z Z) ?_|(refine at_bin ?_;first|refine eD Z Z (zO Z Z Z) (fun hh=>?_) (fun hh=>?_)|refine eD Z Z (zR Z Z Z) (fun hh=>?_) (fun hh=>?_))|(refine at_call ?_;first|refine eV Z Z (zJ Z Z) ?_)|refine eV Z Z (zC Z Z Z) ?_|refine eV Z Z (zD Z Z Z) ?_)|(refine at_K ?_;first|refine K_then ?_|refine K_then_ret ?_)|(refine at_E ?_;first|refine E_seq ?_|refine E_region ?_|refine E_cond_t Z ?_|refine E_ret ?_)))
      all_goals (try (exfalso;first|omega|contradiction))
      exact ret_1 Z Z ⟨rfl,Ext.refl _⟩
end Go.Proofs.YtjicdgejhkgpgaaGreatDoor
namespace Go.En
open Go.RowKit
theorem bd_each {H:Type} {P:Program} {ts:List TypeId} {ds:List (DataW H)} (h:(DataW.weightsEach P ts ds).all (·≤reachBytes)=true) {j:Nat} {t:TypeId} {d:DataW H} (ht:ts[j]?=some t) (hd:ds[j]?=some d):Bd P t d:=
  List.all_eq_true.2 fun n hn=>List.all_eq_true.1 h n (DataW.weights_mem_each ht hd n hn)
theorem str_of (s:ByteArray):Value.string s=str s.data.toList:=by cases s;simp [str]
end Go.En
namespace Go.Proofs.YtjicdgejhkgpgaaGreatDoor
open Go.RowKit Go.En
attribute [local irreducible] E EL K Val Enters Rt Calls bodyPost Code.wp RQ
end Go.Proofs.YtjicdgejhkgpgaaGreatDoor
namespace Go.Proofs.YtjicdgejhkgpgaaGreatDoor
open Go.RowKit Go.En
attribute [local irreducible] E EL K Val Enters Rt Calls bodyPost Code.wp RQ
end Go.Proofs.YtjicdgejhkgpgaaGreatDoor
namespace Go.Proofs.YtjicdgejhkgpgaaGreatDoor
open Go.RowKit Go.En
def Sep (u v:Value):Prop:=∀ b,u.ownBlock=some b→v.ownBlock≠some b
theorem Sep.symm {u v:Value} (h:Sep u v):Sep v u:=fun b h1 h2=>h b h2 h1
theorem Sep.kept {u v:Value} (h:Sep u v):u.ownBlock=none∨u.ownBlock≠v.ownBlock:=by
  cases hu:u.ownBlock with
  | none=>exact .inl rfl
  | some b=>exact .inr (fun e=>h b hu e.symm)
attribute [local irreducible] E EL K Val Enters Rt Calls bodyPost Code.wp RQ
end Go.Proofs.YtjicdgejhkgpgaaGreatDoor
namespace Go.Proofs.YtjicdgejhkgpgaaGreatDoor
open Go.RowKit Go.En
attribute [local irreducible] E EL K Val Enters Rt Calls bodyPost Code.wp RQ
end Go.Proofs.YtjicdgejhkgpgaaGreatDoor
namespace Go.Proofs.YtjicdgejhkgpgaaGreatDoor
open Go.RowKit Go.En
attribute [local irreducible] E EL K Val Enters Rt Calls bodyPost Code.wp RQ
end Go.Proofs.YtjicdgejhkgpgaaGreatDoor
namespace Go.Proofs.YtjicdgejhkgpgaaGreatDoor
open Go.RowKit Go.En
attribute [local irreducible] E EL K Val Enters Rt Calls bodyPost Code.wp RQ
end Go.Proofs.YtjicdgejhkgpgaaGreatDoor
namespace Go.Proofs.YtjicdgejhkgpgaaGreatDoor
open Go.RowKit Go.En Go.Pv
attribute [local irreducible] E EL K Val Enters Rt Calls bodyPost Code.wp RQ
end Go.Proofs.YtjicdgejhkgpgaaGreatDoor
namespace Go.En
open Go.RowKit
section
variable {P : Program} {L : List (Nat × Value)} {w : World} {o : Oper}
structure Ints (P:Program) (t e:TypeId) (m:Nat):Prop where
  st:P.underlying t=some (.struct (P.fieldsOf t))
  hp:P.stoodInHeld t=false
  hg:P.eqGuardType P.depth t=false
  hf:((P.fieldsOf t).toList.map fun f=>(f.name== "_",f.type,f.offset))=(List.range' 0 m).map fun i=>(false,e,i)
  he:P.underlying e=some (.int .i64)
theorem run_eq_fields {e:TypeId} (he:P.underlying e=some (.int .i64)) (l1 l2:List Int):∀(fs:List Field) (k:Nat),(fs.map fun f=>(f.name== "_",f.type,f.offset))=(List.range' k fs.length).map (fun i=>(false,e,i))→l1.length=k+fs.length→l2.length=k+fs.length→
    (Op.eqFields 9999 (l1.map int).toArray (l2.map int).toArray fs).run P w=.ok (decide (l1.drop k=l2.drop k)) w
  | [],k,_,h1,h2=>by
    rw [List.drop_of_length_le (by simp at h1;omega),List.drop_of_length_le (by simp at h2;omega)]
    simp [Op.eqFields,go_sem]
  | f :: fs, k, h, h1, h2 => by
    rw [List.length_cons] at h1 h2
    rw [List.map_cons,List.length_cons,List.range'_succ,List.map_cons,List.cons.injEq] at h
    obtain⟨h0,hr⟩:=h
    simp only [Prod.mk.injEq] at h0
    obtain⟨n1,t1,o1⟩:=h0
    have m1:f.name≠ "_" := by simpa using n1
    have ih:=run_eq_fields he l1 l2 fs (k+1) hr (by omega) (by omega)
    obtain⟨a,ha⟩:∃ a,l1[k]?=some a:=⟨_,List.getElem?_eq_getElem (by omega)⟩
    obtain⟨b,hb⟩:∃ b,l2[k]?=some b:=⟨_,List.getElem?_eq_getElem (by omega)⟩
    have e1:l1.drop k=a::l1.drop (k+1):=by
      obtain⟨h3,h4⟩:=List.getElem?_eq_some_iff.1 ha
      rw [List.drop_eq_getElem_cons h3,h4]
    have e2:l2.drop k=b::l2.drop (k+1):=by
      obtain⟨h3,h4⟩:=List.getElem?_eq_some_iff.1 hb
      rw [List.drop_eq_getElem_cons h3,h4]
    have p1:=run_part_int (P:=P) (w:=w) (xs:=(l1.map int).toArray) (off:=k) (v:=int a) he (by simp [ha])
    have p2:=run_part_int (P:=P) (w:=w) (xs:=(l2.map int).toArray) (off:=k) (v:=int b) he (by simp [hb])
    have q:=run_equalIn_int (P:=P) w 9998 e .i64 .i64 a b he
    simp only [Op.eqFields,t1,o1,m1,ne_eq,not_false_eq_true,if_true,Sem.run_bind]
    rw [p1]
    simp only [Result.andThen_ok]
    rw [p2]
    simp only [Result.andThen_ok]
    rw [q]
    simp only [Result.andThen_ok]
    rw [e1,e2]
    by_cases hab:a=b
    · subst hab
      simp only [beq_self_eq_true,Bool.not_true,Bool.false_eq_true,if_false]
      rw [ih]
      simp
    · simp [hab,go_sem]
theorem run_eq_ints {t e:TypeId} {l1 l2:List Int} (h:Ints P t e l1.length) (hl:l2.length=l1.length):(Op.equalIn 10000 t (.agg (l1.map int).toArray) (.agg (l2.map int).toArray)).run P w=.ok (decide (l1=l2)) w:=by
  rw [run_equalIn_struct w 9999 t _ _ h.st h.hp]
  have hf:=h.hf
  have hn:(P.fieldsOf t).toList.length=l1.length:=by have:=congrArg List.length hf;simpa using this
  have:=run_eq_fields (P:=P) (w:=w) h.he l1 l2 (P.fieldsOf t).toList 0 (by rw [hn];exact hf) (by omega) (by omega)
  rw [List.drop_zero,List.drop_zero] at this
  exact this
theorem val_eq_ints {t e u:TypeId} {x y:Operand} (l1 l2:List Int) {c1 c2:Array Value} {r:Bool} (h:Ints P t e l1.length) (hl:l2.length=l1.length) (ho:o.op=.binOp .eql t x y u) (hx:ev L x=some (.agg c1)) (hy:ev L y=some (.agg c2)) (e1:c1=(l1.map int).toArray) (e2:c2=(l2.map int).toArray) (er:decide (l1=l2)=r):Val P L w o (.bool r):=fun ρ ha=>by
  subst e1;subst e2;subst er
  have h1:=ha.ev (by rw [ho];simp [Op.operands]) hx
  have h2:=ha.ev (by rw [ho];simp [Op.operands]) hy
  have h3:=run_eqGuard_agg (P:=P) w .eql t x y (l1.map int).toArray (l2.map int).toArray h.hg
  have h4:=run_eql_struct (P:=P) w t (l1.map int).toArray (l2.map int).toArray
  have h5:=run_eq_ints (w:=w) h hl
  simp only [execOp,ho,h1,h2,Sem.run_bind]
  rw [h3]
  simp only [Result.andThen_ok]
  rw [h4,h5]
  rfl
end
end Go.En
namespace Go.Proofs.YtjicdgejhkgpgaaGreatDoor
open Go.RowKit Go.En Go.Pv
attribute [local irreducible] E EL K Val Enters Rt Calls bodyPost Code.wp RQ
end Go.Proofs.YtjicdgejhkgpgaaGreatDoor
namespace Go.Proofs.YtjicdgejhkgpgaaGreatDoor
open Go.RowKit Go.En Go.Pv
attribute [local irreducible] E EL K Val Enters Rt Calls bodyPost Code.wp RQ
structure RcG (w:World) (bM B:Nat) (n:Nat) (nv:Value) (next:List Int) (mv:Value) (s:(Int→Bool) × List Int) (wk:World):Prop where
  ext:Ext w wk
  met:Row wk bM 4 (blv n s.1)
  own:wk.ownsRow w.heap.size 3 1 mv s.2.length (s.2.map int)
  high:∀ b,mv.ownBlock=some b→B≤b
  next:SlG (fun b=>b≠bM∧b<B) wk nv next
  size:B≤wk.heap.size
theorem RcG.ext' {w:World} {bM B n:Nat} {nv mv:Value} {next:List Int} {s:(Int→Bool) × List Int} {wk wn:World} (h:RcG w bM B n nv next mv s wk) (x:Ext wk wn):RcG w bM B n nv next mv s wn:=
  ⟨h.ext.trans x,h.met.ext x,own_ext h.own x,h.high,h.next.ext x,Nat.le_trans h.size x.size⟩
end Go.Proofs.YtjicdgejhkgpgaaGreatDoor
namespace Go.Proofs.YtjicdgejhkgpgaaGreatDoor
open Go.RowKit Go.En Go.Pv
attribute [local irreducible] E EL K Val Enters Rt Calls bodyPost Code.wp RQ
end Go.Proofs.YtjicdgejhkgpgaaGreatDoor
