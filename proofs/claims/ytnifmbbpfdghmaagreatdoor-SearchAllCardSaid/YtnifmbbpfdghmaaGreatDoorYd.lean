/-
  Walks of slices.Clone, IndexFunc, DeleteFunc; num.filter, Both, Minus. Walks of slices.Grow (of nothing), Concat; num.Union. Walks of match: list (the numbers of a set, increasing), by num.Sorted. Walks of match: keep (the numbers of a set of which a function says yes), for any function whose calls answer p.
-/
import Derived.Test.YtnifmbbpfdghmaaGreatDoorRa
import Derived.Test.YtnifmbbpfdghmaaGreatDoorYc
import Derived.Test.YtnifmbbpfdghmaaGreatDoorYq
set_option linter.all false
namespace Go.Proofs.YtnifmbbpfdghmaaGreatDoor
open Go.RowKit Go.En
theorem ints_news {w:World} {a:Option Addr} {cap:Nat} {l:List Int} (h:Sl w (.slice a l.length cap) l):0<l.length→∃ b off,a=some ⟨b,off,none⟩∧At w b off (l.map int):=fun h0=>by
  obtain⟨a',cap',hv,_,_,hp⟩:=h
  cases hv
  obtain⟨b,off,rfl,_,css,h1,h2⟩:=hp h0
  rw [ats_ints h1,ints_flat] at h2
  exact⟨b,off,rfl,h2⟩
theorem ints_ones (l:List Int):(l.map int).all Value.oneCell'=true:=by
  rw [List.all_eq_true]
  intro v hv
  obtain⟨z,_,rfl⟩:=List.mem_map.1 hv
  rfl
theorem filter_snoc {l:List Int} {p:Int→Bool} {i:Nat} {x:Int} (hx:l[i]?=some x):(l.take (i+1)).filter p=(l.take i).filter p++(if p x=true then [x] else []):=by
  obtain⟨hi,rfl⟩:=List.getElem?_eq_some_iff.1 hx
  rw [List.take_succ_eq_append_getElem hi,List.filter_append]
  congr 1
  by_cases hp:p l[i]=true <;> simp [hp]
theorem filter_first {l:List Int} {p:Int→Bool} {k:Nat} {x:Int} (hk:l[k]?=some x) (hpk:p x=true) (hno:∀ j y,j<k→l[j]?=some y→p y=false):(l.take (k+1)).filter (fun x=>!p x)=l.take k:=by
  rw [filter_snoc hk,if_neg (by simp [hpk]),List.append_nil,List.filter_eq_self]
  intro y hy
  obtain⟨j,hj⟩:=List.getElem?_of_mem hy
  have hjk:j<k:=by
    have:=(List.getElem?_eq_some_iff.1 hj).1
    rw [List.length_take] at this;omega
  rw [List.getElem?_take_of_lt hjk] at hj
  rw [hno j y hjk hj];rfl
attribute [local irreducible] E EL K Val Enters Rt Calls bodyPost Code.wp RQ
set_option maxHeartbeats 4000000 in
set_option maxRecDepth 8000 in
theorem clone_any (l:List Int) (v:Value) (w:World) (hv:Sl w v l) (hl:l.length≤1099511627776):Calls Tryz.prog 155 #[v] w (Rt fun u w'=>Ext w w'∧w'.ownsRow w.heap.size 3 1 u l.length (l.map int)):=by
  have hv0:=hv
  obtain⟨a,cap,rfl,hc,hm,hp⟩:=hv.sl
  refine calls_E (n:=8) (args:=[.slice a l.length cap]) Tryz.func155 rfl Tryz.ntmps155 (by simp) ?_
  cases a with
  | none=>
    have h0:l=[]:=List.length_eq_zero_iff.1 (by
      by_cases h:0<l.length
      · obtain⟨_,_,e⟩:=hp h;cases e
      · omega)
    subst h0
    (repeat' (first|refine eV Z Z (val_nil_eq Z Z Z) ?_|refine E_cond_t Z ?_|(refine at_EL ?_;first|refine eN ?_|refine eV Z Z (zA Z Z) ?_|refine eV Z Z (zB Z Z) ?_)|(refine at_K ?_;first|refine K_then ?_|refine K_then_ret ?_)|(refine at_E ?_;first|refine E_seq ?_|refine E_region ?_|refine E_ret ?_)))
    exact ret_1 Z Z ⟨Ext.refl _,World.ownsRow_nil _ _ _ _⟩
  | some ad=>
    (repeat' (first|refine eV Z Z (val_nil_eq Z Z Z) ?_|refine E_cond_f Z ?_|(refine EL_appO (m:=0) (xs:=[]) (news:=l.map int) (own_row (n:=0) rS rfl (by omega) (by omega)) xS (ints_news (hv0.ext xS)) Z Z Z Z Z (by show(l.map int).length=l.length*1;simp) (ints_ones l) Z Z (by omega) (by omega) (fun vJ wJ oJ xJ kJ hJ=>?_))|(refine at_EL ?_;first|refine eN ?_|refine eV Z Z (zA Z Z) ?_|refine eV Z Z (zB Z Z) ?_|refine eL Z Z Z Z Z Z Z Z (fun bS wS xS hbS rS=>?_))|(refine at_K ?_;first|refine K_then ?_)|(refine at_E ?_;first|refine E_seq ?_|refine E_region ?_|refine E_skip ?_|refine E_ret ?_)))
    rw [Nat.zero_add,List.nil_append] at oJ
    exact ret_1 Z Z ⟨xJ,oJ⟩
set_option maxHeartbeats 4000000 in
set_option maxRecDepth 8000 in
theorem indexFunc_any (F : FuncId) (caps : List Value) (he : ∀ args w, (Go.callFunc F args).run Tryz.prog w = .ok (.enter F args) w) (p : Int → Bool) (l : List Int) (v : Value) (w : World) (hv : Sl w v l) (hl : l.length ≤ 1099511627776)
    (hF:∀(x:Int) (wq:World),Ext w wq→Calls Tryz.prog F ([int x]++caps).toArray wq (Rt fun u w'=>u=.bool (p x)∧Ext wq w')) :
    Calls Tryz.prog 178 #[v,.func (.func F) #[] caps.toArray] w (Rt fun u w'=>Ext w w'∧((u=int (-1)∧∀ x∈l,p x=false)∨∃(k:Nat) (x:Int),u=int (k:Int)∧k<l.length∧l[k]?=some x∧p x=true∧∀ j y,j<k→l[j]?=some y→p y=false)):=by
  have hv0:=hv
  obtain⟨a,cap,rfl,hc,hm,hp⟩:=hv.sl
  refine calls_E (n:=19) (args:=[.slice a l.length cap,.func (.func F) #[] caps.toArray]) Tryz.func178 rfl Tryz.ntmps178 (by simp) ?_
  (repeat' (first|(refine at_EL ?_;first|refine eN ?_|refine eV Z Z (zA Z Z) ?_|refine eV Z Z (zB Z Z) ?_|(refine at_call ?_;first|refine eV Z Z (zK Z Z) ?_))|(refine at_K ?_;first|refine K_then ?_)|(refine at_E ?_;first|refine E_seq ?_|refine E_region ?_|refine E_block ?_)))
  refine E_loop (ι:=Nat) (fun i=>[(0,.slice a l.length cap),(1,.func (.func F) #[] caps.toArray),(7,int l.length),(8,int i)])
    (fun i wr=>i≤l.length∧Ext w wr∧∀ j y,j<i→l[j]?=some y→p y=false) (fun i=>l.length-i) 0
    ⟨rfl,rfl,rfl,rfl,trivial⟩ ⟨Nat.zero_le _,Ext.refl _,fun j y hj=>absurd hj (by omega)⟩ ?_
  rintro i wr ⟨hi,hx,hno⟩
  by_cases hlt:i<l.length
  · obtain⟨b,off,rfl⟩:=hp (by omega)
    obtain⟨x,hx1⟩:∃ x,l[i]?=some x:=⟨_,List.getElem?_eq_getElem hlt⟩
    have hcx:=int_elem (hv0.ext hx) hx1
    have cF:=hF x wr hx
    cases hpx:p x with
    | true=>
      rw [hpx] at cF
      (repeat' (first|refine eV Z Z (val_indexAddr (m:=i) Z Z Z Z hlt) ?_|refine eV Z Z (val_load Z Z Z hcx) ?_|(refine EL_call Z Z (entersC (cap:=caps) Z Z Z he) cF (fun vC wC hC=>?_);obtain⟨rfl,xC⟩:=hC)|(refine at_EL ?_;first|refine eN ?_|refine eV Z Z (zA Z Z) ?_|refine eV Z Z (zB Z Z) ?_|(refine at_bin ?_;first|refine eD Z Z (zL Z Z Z) (fun hh=>?_) (fun hh=>?_)))|(refine at_K ?_;first|refine K_then ?_|refine K_then_ret ?_|refine K_then_exit ?_|refine K_in_ret ?_|refine K_in_exit ?_)|(refine at_E ?_;first|refine E_seq ?_|refine E_region ?_|refine E_cond_t Z ?_|refine E_cond_f Z ?_|refine E_block ?_|refine E_skip ?_|refine E_ret ?_|refine E_exit ?_)))
      all_goals (first|(exfalso;omega)|skip)
      exact ret_1 Z Z ⟨hx.trans xC,.inr ⟨i,x,rfl,hlt,hx1,hpx,hno⟩⟩
    | false=>
      rw [hpx] at cF
      (repeat' (first|refine eV Z Z (val_indexAddr (m:=i) Z Z Z Z hlt) ?_|refine eV Z Z (val_load Z Z Z hcx) ?_|(refine EL_call Z Z (entersC (cap:=caps) Z Z Z he) cF (fun vC wC hC=>?_);obtain⟨rfl,xC⟩:=hC)|(refine at_EL ?_;first|refine eN ?_|refine eV Z Z (zA Z Z) ?_|refine eV Z Z (zB Z Z) ?_|(refine at_bin ?_;first|refine eD Z Z (zL Z Z Z) (fun hh=>?_) (fun hh=>?_)|refine eV Z Z (zU Z Z Z (by omega) (by omega)) ?_))|(refine at_K ?_;first|refine K_then ?_|refine K_in ?_|refine K_then_exit ?_|refine K_in_exit ?_)|(refine at_E ?_;first|refine E_seq ?_|refine E_region ?_|refine E_cond_t Z ?_|refine E_cond_f Z ?_|refine E_block ?_|refine E_skip ?_|refine E_ret ?_|refine E_exit ?_)))
      all_goals (first|(exfalso;omega)|skip)
      refine K_rnd (i+1) ⟨rfl,rfl,rfl,rfl,trivial⟩ ⟨by omega,hx.trans xC,fun j y hj hy=>?_⟩ (by omega)
      by_cases e:j=i
      · subst e
        rw [hx1] at hy
        cases hy
        exact hpx
      · exact hno j y (by omega) hy
  · obtain rfl:i=l.length:=by omega
    (repeat' (first|(refine at_EL ?_;first|refine eN ?_|refine eV Z Z (zA Z Z) ?_|refine eV Z Z (zB Z Z) ?_|(refine at_bin ?_;first|refine eD Z Z (zL Z Z Z) (fun hh=>?_) (fun hh=>?_)))|(refine at_K ?_;first|refine K_then ?_|refine K_then_exit ?_|refine K_in_exit ?_)|(refine at_E ?_;first|refine E_seq ?_|refine E_region ?_|refine E_cond_t Z ?_|refine E_cond_f Z ?_|refine E_block ?_|refine E_skip ?_|refine E_ret ?_|refine E_exit ?_)))
    all_goals (first|(exfalso;omega)|skip)
    exact ret_1 Z Z ⟨hx,.inl ⟨rfl,fun x hxm=>by
      obtain⟨j,hj⟩:=List.getElem?_of_mem hxm
      exact hno j x (List.getElem?_eq_some_iff.1 hj).1 hj⟩⟩
set_option maxHeartbeats 4000000 in
set_option maxRecDepth 8000 in
theorem deleteFunc_any (F : FuncId) (caps : List Value) (he : ∀ args w, (Go.callFunc F args).run Tryz.prog w = .ok (.enter F args) w) (p : Int → Bool) (l : List Int) (v : Value) (B : Nat) (w : World) (h : w.ownsRow B 3 1 v l.length (l.map int)) (hlen : l.length ≤ 1099511627776)
    (hF:∀(x:Int) (wq:World),Kb v.ownBlock w wq→Calls Tryz.prog F ([int x]++caps).toArray wq (Rt fun u w'=>u=.bool (p x)∧Ext wq w')) :
    Calls Tryz.prog 154 #[v,.func (.func F) #[] caps.toArray] w (Rt fun u w'=>w'.ownsRow B 3 1 u (l.filter fun x=>!p x).length ((l.filter fun x=>!p x).map int)∧Kb v.ownBlock w w'):=by
  have hSl:Sl w v l:=own_Sl (css:=l.map fun z=>[int z]) (by rw [ints_flat];exact h) (ints_ats _ _) rfl (by omega)
  have ci:=indexFunc_any F caps he p l v w hSl hlen (fun x wq hx=>hF x wq (hx.kb _))
  rcases h.2 with⟨rfl,h0⟩|⟨g,cap,cur,rfl,hb,hg,h1,hcm,h3,h4⟩
  · have hl:l=[]:=List.length_eq_zero_iff.1 h0
    subst hl
    refine calls_E (n:=42) (args:=[.slice none 0 0,.func (.func F) #[] caps.toArray]) Tryz.func154 rfl Tryz.ntmps154 (by simp) ?_
    have ci':=calls_mono (S':=fun u w'=>u=int (-1)∧Ext w w') ci (fun u w' hh=>by
      obtain⟨hx,hh⟩:=hh
      rcases hh with⟨rfl,_⟩|⟨k,x,_,_,hk,_⟩
      · exact⟨rfl,hx⟩
      · simp at hk)
    (repeat' (first|(refine EL_call Z Z (entersF Z Z en178) ci' (fun vC wC hC=>?_);obtain⟨rfl,xC⟩:=hC)|(refine at_EL ?_;first|refine eN ?_|refine eV Z Z (zA Z Z) ?_|refine eV Z Z (zB Z Z) ?_|(refine at_bin ?_;first|refine eD Z Z (zM Z Z Z) (fun hh=>?_) (fun hh=>?_)|refine eV Z Z (zU Z Z Z (by omega) (by omega)) ?_))|(refine at_K ?_;first|refine K_then ?_|refine K_then_ret ?_)|(refine at_E ?_;first|refine E_seq ?_|refine E_region ?_|refine E_cond_t Z ?_|refine E_cond_f Z ?_|refine E_block ?_|refine E_skip ?_|refine E_ret ?_)))
    all_goals (first|(exfalso;omega)|skip)
    exact ret_1 Z Z ⟨own_ext h xC,xC.kb _⟩
  · have hOk:∀ w',Ext w w'→Row w' g 3 cur.toList:=fun w' hx=>(show Row w g 3 cur.toList from hg).ext hx
    obtain⟨C,hC⟩:∃ C,C=cur.toList:=⟨_,rfl⟩
    have hCl:C.length=cap:=by rw [hC,Array.length_toList,h3,Nat.mul_one]
    have hCt:C.take l.length=l.map int:=by rw [hC,← h4,Nat.mul_one]
    have hCi:∀ {i:Nat} {x:Int},l[i]?=some x→C[i]?=some (int x):=fun {i x} hx=>by
      have hi:=(List.getElem?_eq_some_iff.1 hx).1
      have:(C.take l.length)[i]?=some (int x):=by rw [hCt,List.getElem?_map,hx];rfl
      rwa [List.getElem?_take_of_lt hi] at this
    rw [← hC] at hOk
    refine calls_E (n:=42) (args:=[.slice (some ⟨g,0,none⟩) l.length cap,.func (.func F) #[] caps.toArray]) Tryz.func154 rfl Tryz.ntmps154 (by simp) ?_
    (repeat' (first|(refine EL_call Z Z (entersF Z Z en178) ci (fun vC wC hC=>?_);obtain⟨xC,hC⟩:=hC;rcases hC with⟨rfl,hall⟩|⟨k,x,rfl,hkl,hk,hpk,hno⟩)|(refine at_EL ?_;first|refine eN ?_|refine eV Z Z (zA Z Z) ?_|refine eV Z Z (zB Z Z) ?_|(refine at_bin ?_;first|refine eD Z Z (zM Z Z Z) (fun hh=>?_) (fun hh=>?_)|refine eV Z Z (zU Z Z Z (by omega) (by omega)) ?_))|(refine at_K ?_;first|refine K_then ?_|refine K_then_ret ?_)|(refine at_E ?_;first|refine E_seq ?_|refine E_region ?_|refine E_cond_t Z ?_|refine E_cond_f Z ?_|refine E_block ?_|refine E_skip ?_|refine E_ret ?_)))
    all_goals (first|(exfalso;omega)|skip)
    · have hfl:(l.filter fun x=>!p x)=l:=List.filter_eq_self.2 fun x hx=>by rw [hall x hx];rfl
      exact ret_1 Z Z ⟨by rw [hfl];exact own_ext h xC,xC.kb _⟩
    have hff:=filter_first hk hpk hno
    refine E_loop (ι:=Nat × Nat × List Value) (fun s=>[(0,.slice (some ⟨g,0,none⟩) l.length cap),(1,.func (.func F) #[] caps.toArray),(5,int s.1),(6,int s.2.1)])
      (fun s ww=>s.2.1≤l.length∧s.1<s.2.1∧s.1=((l.take s.2.1).filter fun x=>!p x).length∧s.2.2.length=cap∧Row ww g 3 s.2.2∧Kb (some g) w ww∧s.2.2.take s.1=((l.take s.2.1).filter fun x=>!p x).map int∧∀ j z,s.2.1≤j→l[j]?=some z→s.2.2[j]?=some (int z)) (fun s=>l.length-s.2.1) (k,k+1,C)
      ⟨rfl,rfl,rfl,rfl,trivial⟩ ⟨hkl,Nat.lt_succ_self k,by
        show k=((l.take (k+1)).filter fun x=>!p x).length
        rw [hff,List.length_take];omega,hCl,hOk _ xC,xC.kb _,by
        show C.take k=((l.take (k+1)).filter fun x=>!p x).map int
        rw [hff,List.map_take,← hCt,List.take_take,Nat.min_eq_left (by omega)],fun j z _ hz=>hCi hz⟩ ?_
    rintro⟨i,j,D⟩ ww ⟨hj,hij,hil,hDl,hRD,hKb,hpre,hrest⟩
    dsimp only at hj hij hil hDl hRD hKb hpre hrest ⊢
    by_cases hlt:j<l.length
    · obtain⟨x,hx1⟩:∃ x,l[j]?=some x:=⟨_,List.getElem?_eq_getElem hlt⟩
      have hcx:=rowI hRD (hrest _ _ (Nat.le_refl _) hx1)
      have cF:=hF x ww hKb
      have hfs:=filter_snoc (p:=fun x=>!p x) hx1
      cases hpx:p x with
      | true=>
        rw [hpx] at cF
        rw [if_neg (by simp [hpx]),List.append_nil] at hfs
        (repeat' (first|refine eV Z Z (val_indexAddr (m:=j) Z Z Z Z hlt) ?_|refine eV Z Z (val_load Z Z Z hcx) ?_|(refine EL_call Z Z (entersC (cap:=caps) Z Z Z he) cF (fun vC wC hC=>?_);obtain⟨rfl,xC⟩:=hC)|(refine at_EL ?_;first|refine eN ?_|refine eV Z Z (zA Z Z) ?_|refine eV Z Z (zB Z Z) ?_|(refine at_bin ?_;first|refine eD Z Z (zL Z Z Z) (fun hh=>?_) (fun hh=>?_)|refine eV Z Z (zU Z Z Z (by omega) (by omega)) ?_)|(refine at_call ?_;first|refine eV Z Z (zK Z Z) ?_)|refine eV Z Z (zE Z Z) ?_)|(refine at_K ?_;first|refine K_then ?_|refine K_in ?_|refine K_then_exit ?_|refine K_in_exit ?_)|(refine at_E ?_;first|refine E_seq ?_|refine E_region ?_|refine E_cond_t Z ?_|refine E_cond_f Z ?_|refine E_block ?_|refine E_skip ?_|refine E_exit ?_)))
        all_goals (first|(exfalso;omega)|skip)
        refine K_rnd (i,j+1,D) ⟨rfl,rfl,rfl,rfl,trivial⟩ ⟨by dsimp only;omega,by dsimp only;omega,by dsimp only;rw [hfs];exact hil,hDl,hRD.ext xC,hKb.trans (xC.kb _),by dsimp only;rw [hfs];exact hpre,fun j' z hj' hz=>hrest j' z (by dsimp only at hj';omega) hz⟩ (by dsimp only;omega)
      | false=>
        rw [hpx] at cF
        rw [if_pos (by simp [hpx])] at hfs
        (repeat' (first|refine eV Z Z (val_indexAddr (m:=j) Z Z Z Z hlt) ?_|refine eV Z Z (val_indexAddr (m:=i) Z Z Z Z (by omega)) ?_|refine eV Z Z (val_load Z Z Z hcx) ?_|(refine EL_call Z Z (entersC (cap:=caps) Z Z Z he) cF (fun vC wC hC=>?_);obtain⟨rfl,xC⟩:=hC)|(refine at_EL ?_;first|refine eN ?_|refine eV Z Z (zA Z Z) ?_|refine eV Z Z (zB Z Z) ?_|(refine at_bin ?_;first|refine eD Z Z (zL Z Z Z) (fun hh=>?_) (fun hh=>?_))|(refine at_call ?_;first|refine eV Z Z (zK Z Z) ?_)|refine eV Z Z (zE Z Z) ?_)|(refine at_K ?_;first|refine K_then ?_|refine K_then_exit ?_|refine K_in_exit ?_)|(refine at_E ?_;first|refine E_seq ?_|refine E_region ?_|refine E_cond_t Z ?_|refine E_cond_f Z ?_|refine E_block ?_|refine E_skip ?_|refine E_exit ?_)))
        all_goals (first|(exfalso;omega)|skip)
        have hkD:i<D.length:=by omega
        refine EL_store (cs:=D) Z Z Z Z Z Z Z (hRD.ext xC) (by show 0+i*1+1≤D.length;omega) (fun wS rS kS _=>?_)
        have rS':Row wS g 3 (D.take i++[int x]++D.drop (i+1)):=by
          have:=rS
          rw [show 0+i*1=i by omega] at this
          exact this
        (repeat' (first|(refine at_EL ?_;first|refine eN ?_|refine eV Z Z (zA Z Z) ?_|refine eV Z Z (zB Z Z) ?_|(refine at_bin ?_;first|refine eV Z Z (zU Z Z Z (by omega) (by omega)) ?_))|(refine at_K ?_;first|refine K_then ?_|refine K_in ?_)|(refine at_E ?_;first|refine E_region ?_)))
        refine K_rnd (i+1,j+1,D.take i++[int x]++D.drop (i+1)) ⟨rfl,rfl,rfl,rfl,trivial⟩ ⟨by dsimp only;omega,by dsimp only;omega,?_,?_,rS',(hKb.trans (xC.kb _)).trans kS,?_,fun j' z hj' hz=>?_⟩ (by dsimp only;omega)
        · dsimp only
          rw [hfs,List.length_append,← hil];rfl
        · dsimp only
          simp only [List.length_append,List.length_take,List.length_drop,List.length_singleton];omega
        · dsimp only
          rw [hfs,List.map_append,← hpre,List.take_append_of_le_length (by simp;omega),List.take_of_length_le (by simp;omega)];rfl
        · dsimp only at hj' ⊢
          rw [List.getElem?_append_right (by simp;omega),List.getElem?_drop]
          have:i+1+(j'-(D.take i++[int x]).length)=j':=by simp only [List.length_append,List.length_take,List.length_singleton];omega
          rw [this]
          exact hrest j' z (by omega) hz
    · obtain rfl:j=l.length:=by omega
      rw [List.take_length] at hil hpre
      (repeat' (first|refine eV Z Z (val_slice_lo (k:=i) Z Z Z Z (by omega) (by omega)) ?_|refine eV Z Z (val_slice_h (b:=i) Z Z Z Z (by omega)) ?_|refine EL_clear (m:=l.length-i) hRD rfl rfl rfl rfl rfl rfl (by omega) (fun wC rC kC=>?_)|(refine at_EL ?_;first|refine eN ?_|refine eV Z Z (zA Z Z) ?_|refine eV Z Z (zB Z Z) ?_|(refine at_bin ?_;first|refine eD Z Z (zL Z Z Z) (fun hh=>?_) (fun hh=>?_))|(refine at_call ?_;first|refine eV Z Z (zK Z Z) ?_))|(refine at_K ?_;first|refine K_then ?_|refine K_then_exit ?_|refine K_in_exit ?_)|(refine at_E ?_;first|refine E_seq ?_|refine E_region ?_|refine E_cond_t Z ?_|refine E_cond_f Z ?_|refine E_block ?_|refine E_skip ?_|refine E_ret ?_|refine E_exit ?_)))
      all_goals (first|(exfalso;omega)|skip)
      refine ret_1 Z Z ⟨⟨by simp,.inr ⟨g,cap,(D.take i++List.replicate (l.length-i) (int 0)++D.drop (i+(l.length-i))).toArray,by rw [hil],hb,rC,by omega,hcm,?_,?_⟩⟩,hKb.trans kC⟩
      · simp only [List.size_toArray,List.length_append,List.length_take,List.length_drop,List.length_replicate];omega
      · rw [Nat.mul_one,← hil,← hpre,List.append_assoc,List.take_append_of_le_length (by simp;omega),List.take_of_length_le (by rw [List.length_take];omega)]
def inF (b:List Int) (j:Int):Option Value:=if j∈b then some (.bool true) else none
theorem inF_nil:inF []=fun _=>none:=by
  funext j;unfold inF;rw [if_neg (fun h=>by cases h)]
theorem inF_step {b:List Int} {i:Nat} {x:Int} (hx:b[i]?=some x):inF (b.take (i+1))=fun j=>if j=x then some (.bool true) else inF (b.take i) j:=by
  funext j
  unfold inF
  simp only [mem_take_succ hx]
  by_cases e:j=x
  · simp [e]
  · simp [e]
theorem inF_get (b:List Int) (x:Int):(inF b x).getD (.bool false)=.bool (decide (x∈b)):=by
  unfold inF
  by_cases h:x∈b <;> simp [h]
set_option maxRecDepth 8000 in
theorem filterC_any (b:List Int) (r bI bW:Nat) (wanted:Bool) (x:Int) (w:World) (rI:Row w bI 90 [.map (some r)]) (rW:Row w bW 4 [.bool wanted]) (hm:MapF w r (inF b)) :
    Calls Tryz.prog 156 #[int x,.pointer (some ⟨bI,0,none⟩),.pointer (some ⟨bW,0,none⟩)] w (Rt fun u w'=>u=.bool (!(decide (x∈b)==wanted))∧Ext w w'):=by
  refine calls_E (n:=10) (args:=[int x,.pointer (some ⟨bI,0,none⟩),.pointer (some ⟨bW,0,none⟩)]) Tryz.func156 rfl Tryz.ntmps156 (by simp) ?_
  (repeat' (first|refine eV Z Z (val_load Z Z Z (rI.cellAt rfl)) ?_|refine eV Z Z (val_load Z Z Z (rW.cellAt rfl)) ?_|refine eV (v:=.bool (decide (x∈b))) Z Z (by rw [← inF_get b x];exact val_lookup hm rfl rfl rfl) ?_|refine eV Z Z (val_bool_ne2 Z Z Z) ?_|(refine at_EL ?_;first|refine eN ?_|refine eV Z Z (zA Z Z) ?_|refine eV Z Z (zB Z Z) ?_)|(refine at_K ?_;first|refine K_then ?_)|(refine at_E ?_;first|refine E_seq ?_|refine E_region ?_|refine E_ret ?_)))
  exact ret_1 Z Z ⟨rfl,Ext.refl _⟩
def filterF (a b:List Int) (wanted:Bool):List Int:=sortedF (a.filter fun x=>decide (x∈b)==wanted)
set_option maxHeartbeats 4000000 in
set_option maxRecDepth 8000 in
theorem nfilter_any (a b:List Int) (u v:Value) (wanted:Bool) (w:World) (hu:Sl w u a) (hv:Sl w v b) (hla:a.length≤1000000) (hlb:b.length≤1099511627776) :
    Calls Tryz.prog 121 #[u,v,.bool wanted] w (Rt fun r w'=>Ext w w'∧SlG (Nw w) w' r (filterF a b wanted)):=by
  have hv0:=hv
  obtain⟨sa,cap,rfl,hc,hm,hp⟩:=hv.sl
  refine calls_E (n:=25) (args:=[u,.slice sa b.length cap,.bool wanted]) Tryz.func121 rfl Tryz.ntmps121 (by simp) ?_
  refine E_seq ?_
  refine E_region ?_
  refine EL_box Z Z Z Z (fun bW wW xW hbW rW0=>?_)
  have rW:Row wW bW 4 [.bool wanted]:=rW0
  clear rW0
  (repeat' (first|refine EL_makeMap Z Z Z (fun r wR hr mR xR=>?_)|(refine at_EL ?_;first|refine eN ?_|refine eV Z Z (zB Z Z) ?_)|(refine at_K ?_;first|refine K_then ?_)|(refine at_E ?_;first|refine E_seq ?_|refine E_region ?_)))
  refine EL_alloc Z Z Z (fun bI wI xI hbI rI0=>?_)
  refine EL_storeP (cs:=[.map (some r)]) rI0 (xR.trans xI) (by have:=xR.size;omega) Z Z Z Z Z Z Z Z (Nat.le_refl _) (fun w3 rI1 x3 k3=>?_)
  have rI:Row w3 bI 90 [.map (some r)]:=rI1
  have hrI:r≠bI:=fun e=>by have:=mR.lt;omega
  have mI:MapF w3 r (fun _=>none):=(mR.ext xI).kb k3 (fun e=>hrI (Option.some.inj e))
  have rW3:=rW.ext x3
  have hrlt:=mI.lt
  have hrW:wW.heap.size≤r:=by omega
  have hbWlt:=rW.lt
  clear rI0 rI1 k3 mR
  have hX3:=xW.trans x3
  (repeat' (first|(refine at_EL ?_;first|refine eN ?_|refine eV Z Z (zA Z Z) ?_|(refine at_call ?_;first|refine eV Z Z (zK Z Z) ?_))|(refine at_K ?_;first|refine K_then ?_)|(refine at_E ?_;first|refine E_seq ?_|refine E_region ?_|refine E_block ?_)))
  refine E_loop (ι:=Nat) (fun i=>[(0,u),(5,.pointer (some ⟨bW,0,none⟩)),(7,.pointer (some ⟨bI,0,none⟩)),(11,.slice sa b.length cap),(12,int b.length),(13,int i)])
    (fun i wr=>i≤b.length∧Ext w wr∧Row wr bI 90 [.map (some r)]∧Row wr bW 4 [.bool wanted]∧MapF wr r (inF (b.take i))) (fun i=>b.length-i) 0
    ⟨rfl,rfl,rfl,rfl,rfl,rfl,trivial⟩ ⟨Nat.zero_le _,hX3,rI,rW3,by rw [List.take_zero,inF_nil];exact mI⟩ ?_
  rintro i wr ⟨hi,hx,rIr,rWr,mr⟩
  by_cases hlt:i<b.length
  · obtain⟨bb,off,rfl⟩:=hp (by omega)
    obtain⟨x,hx1⟩:∃ x,b[i]?=some x:=⟨_,List.getElem?_eq_getElem hlt⟩
    have hcx:=int_elem (hv0.ext hx) hx1
    (repeat' (first|refine eV Z Z (val_indexAddr (m:=i) Z Z Z Z hlt) ?_|refine eV Z Z (val_load Z Z Z hcx) ?_|refine eV Z Z (val_load Z Z Z (rIr.cellAt rfl)) ?_|refine EL_mapUpdate mr rfl rfl rfl rfl rfl rfl (fun wU mU kU=>?_)|(refine at_EL ?_;first|refine eN ?_|refine eV Z Z (zA Z Z) ?_|refine eV Z Z (zB Z Z) ?_|(refine at_bin ?_;first|refine eD Z Z (zL Z Z Z) (fun hh=>?_) (fun hh=>?_)|refine eV Z Z (zU Z Z Z (by omega) (by omega)) ?_))|(refine at_K ?_;first|refine K_then ?_|refine K_in ?_|refine K_then_exit ?_|refine K_in_exit ?_)|(refine at_E ?_;first|refine E_seq ?_|refine E_region ?_|refine E_cond_t Z ?_|refine E_cond_f Z ?_|refine E_block ?_|refine E_skip ?_|refine E_exit ?_)))
    all_goals (first|(exfalso;omega)|skip)
    exact K_rnd (i+1) ⟨rfl,rfl,rfl,rfl,rfl,rfl,trivial⟩ ⟨by omega,kU.ext hx (fun b e=>by cases e;have:=xW.size;omega),kU.row rIr (fun e=>by cases e;exact hrI rfl),kU.row rWr (fun e=>by cases e;omega),by rw [inF_step hx1];exact mU⟩ (by omega)
  · obtain rfl:i=b.length:=by omega
    rw [List.take_length] at mr
    have cc:=clone_any a u wr (hu.ext hx) (by omega)
    (repeat' (first|(refine EL_call Z Z (entersF Z Z en155) cc (fun vC wC hC=>?_);obtain⟨xC,oC⟩:=hC)|refine eV Z Z (val_makeFunc (vs:=[.pointer (some ⟨bI,0,none⟩),.pointer (some ⟨bW,0,none⟩)]) Z Z) ?_|(refine at_EL ?_;first|refine eN ?_|refine eV Z Z (zA Z Z) ?_|(refine at_bin ?_;first|refine eD Z Z (zL Z Z Z) (fun hh=>?_) (fun hh=>?_)))|(refine at_K ?_;first|refine K_then ?_|refine K_then_exit ?_|refine K_in_exit ?_)|(refine at_E ?_;first|refine E_seq ?_|refine E_region ?_|refine E_cond_t Z ?_|refine E_cond_f Z ?_|refine E_block ?_|refine E_skip ?_|refine E_exit ?_)))
    all_goals (first|(exfalso;omega)|skip)
    have hne:∀ bb,bb<wr.heap.size→some bb≠vC.ownBlock:=fun bb hlt e=>by have:=(oC.lt bb e.symm).1;omega
    have cd:=deleteFunc_any 156 [.pointer (some ⟨bI,0,none⟩),.pointer (some ⟨bW,0,none⟩)] en156 (fun x=>!(decide (x∈b)==wanted)) a vC wr.heap.size wC oC (by omega) (fun x wq kq=>
      filterC_any b r bI bW wanted x wq (kq.row (rIr.ext xC) (hne _ rIr.lt)) (kq.row (rWr.ext xC) (hne _ rWr.lt)) ((mr.ext xC).kb kq (hne _ mr.lt)))
    have hfe:(a.filter fun x=>!(!(decide (x∈b)==wanted)))=a.filter fun x=>decide (x∈b)==wanted:=by simp
    rw [hfe] at cd
    (repeat' (first|(refine EL_call Z Z (entersF Z Z en154) cd (fun vD wD hD=>?_);obtain⟨oD,kD⟩:=hD)))
    have xD:=own_anchor oC xC kD
    have hfl:=List.length_filter_le (fun x=>decide (x∈b)==wanted) a
    have sD:Sl wD vD _:=own_Sl (css:=(a.filter fun x=>decide (x∈b)==wanted).map fun z=>[int z]) (by rw [ints_flat];exact oD) (ints_ats _ _) rfl (by omega)
    have cs:=sortedN_any _ vD wD sD (by omega)
    (repeat' (first|(refine EL_call Z Z (entersF Z Z en106) cs (fun vE wE hE=>?_);obtain⟨xE,sE⟩:=hE)|(refine at_EL ?_;first|refine eN ?_|refine eV Z Z (zB Z Z) ?_)|(refine at_K ?_;first|refine K_then ?_)|(refine at_E ?_;first|refine E_ret ?_)))
    have hXD:=hx.trans xD
    exact ret_1 Z Z ⟨hXD.trans xE,sE.wk (fun b hb=>by have:=hXD.size;unfold Nw at *;omega)⟩
set_option maxRecDepth 8000 in
theorem both_any (a b:List Int) (u v:Value) (w:World) (hu:Sl w u a) (hv:Sl w v b) (hla:a.length≤1000000) (hlb:b.length≤1099511627776) :
    Calls Tryz.prog 84 #[u,v] w (Rt fun r w'=>Ext w w'∧SlG (Nw w) w' r (bothF a b)):=by
  refine calls_E (n:=8) (args:=[u,v]) Tryz.func84 rfl Tryz.ntmps84 (by simp) ?_
  have c:=nfilter_any a b u v true w hu hv hla hlb
  have e:filterF a b true=bothF a b:=by unfold filterF bothF;simp
  rw [e] at c
  (repeat' (first|(refine EL_call Z Z (entersF Z Z en121) c (fun vC wC hC=>?_);obtain⟨xC,sC⟩:=hC)|(refine at_EL ?_;first|refine eN ?_|refine eV Z Z (zA Z Z) ?_|refine eV Z Z (zB Z Z) ?_)|(refine at_K ?_;first|refine K_then ?_)|(refine at_E ?_;first|refine E_seq ?_|refine E_region ?_|refine E_ret ?_)))
  exact ret_1 Z Z ⟨xC,sC⟩
set_option maxRecDepth 8000 in
theorem minusP_any (a b:List Int) (u v:Value) (w:World) (hu:Sl w u a) (hv:Sl w v b) (hla:a.length≤1000000) (hlb:b.length≤1099511627776) :
    Calls Tryz.prog 86 #[u,v] w (Rt fun r w'=>Ext w w'∧SlG (Nw w) w' r (minusS a b)):=by
  refine calls_E (n:=8) (args:=[u,v]) Tryz.func86 rfl Tryz.ntmps86 (by simp) ?_
  have c:=nfilter_any a b u v false w hu hv hla hlb
  have e:filterF a b false=minusS a b:=by
    unfold filterF minusS
    congr 2
    funext x
    cases decide (x∈b) <;> rfl
  rw [e] at c
  (repeat' (first|(refine EL_call Z Z (entersF Z Z en121) c (fun vC wC hC=>?_);obtain⟨xC,sC⟩:=hC)|(refine at_EL ?_;first|refine eN ?_|refine eV Z Z (zA Z Z) ?_|refine eV Z Z (zB Z Z) ?_)|(refine at_K ?_;first|refine K_then ?_)|(refine at_E ?_;first|refine E_seq ?_|refine E_region ?_|refine E_ret ?_)))
  exact ret_1 Z Z ⟨xC,sC⟩
end Go.Proofs.YtnifmbbpfdghmaaGreatDoor
namespace Go.Proofs.YtnifmbbpfdghmaaGreatDoor
open Go.RowKit Go.En
abbrev catF (xs:List (Value × List Int)):List Int:=xs.flatMap fun p=>p.2
theorem cat_snoc {xs:List (Value × List Int)} {i:Nat} {p:Value × List Int} (h:xs[i]?=some p):catF (xs.take (i+1))=catF (xs.take i)++p.2:=by
  obtain⟨hi,rfl⟩:=List.getElem?_eq_some_iff.1 h
  unfold catF
  rw [List.take_succ_eq_append_getElem hi,List.flatMap_append,List.flatMap_singleton]
theorem cat_le (xs:List (Value × List Int)) (i:Nat):(catF (xs.take i)).length≤(catF xs).length:=by
  have:catF xs=catF (xs.take i)++catF (xs.drop i):=by unfold catF;rw [← List.flatMap_append,List.take_append_drop]
  rw [this,List.length_append];omega
attribute [local irreducible] E EL K Val Enters Rt Calls bodyPost Code.wp RQ
set_option maxHeartbeats 4000000 in
set_option maxRecDepth 8000 in
theorem grow_any (q:Nat) (hq:q≤1099511627776) (w:World):Calls Tryz.prog 157 #[.slice none 0 0,int q] w (Rt fun u w'=>Ext w w'∧w'.ownsRow w.heap.size 3 1 u 0 []):=by
  refine calls_E (n:=27) (args:=[.slice none 0 0,int q]) Tryz.func157 rfl Tryz.ntmps157 (by simp) ?_
  by_cases h0:0<q
  · (repeat' (first|refine eV Z Z (val_cap_sl Z Z) ?_|refine eV Z Z (val_slice_h (b:=0) Z Z Z Z (by omega)) ?_|refine EL_appZ (q:=q) Z Z Z Z Z (by omega) h0 rfl rfl (by omega) (by omega) (fun b c cur wG hb hqc hcm rG hcl xG=>?_)|(refine at_EL ?_;first|refine eN ?_|refine eV Z Z (zA Z Z) ?_|refine eV Z Z (zB Z Z) ?_|(refine at_bin ?_;first|refine eD Z Z (zL Z Z Z) (fun hh=>?_) (fun hh=>?_)|refine eD Z Z (zO Z Z Z) (fun hh=>?_) (fun hh=>?_)|refine eV Z Z (zV Z Z Z (by omega) (by omega)) ?_)|(refine at_call ?_;first|refine eV Z Z (zK Z Z) ?_))|(refine at_K ?_;first|refine K_then ?_)|(refine at_E ?_;first|refine E_seq ?_|refine E_region ?_|refine E_cond_t Z ?_|refine E_cond_f Z ?_|refine E_skip ?_|refine E_ret ?_)))
    all_goals (first|(exfalso;omega)|skip)
    exact ret_1 Z Z ⟨xG,rfl,.inr ⟨b,c,cur.toArray,rfl,by omega,rG,by omega,hcm,by rw [List.size_toArray];exact hcl,by simp⟩⟩
  · obtain rfl:q=0:=by omega
    (repeat' (first|refine eV Z Z (val_cap_sl Z Z) ?_|(refine at_EL ?_;first|refine eN ?_|refine eV Z Z (zA Z Z) ?_|refine eV Z Z (zB Z Z) ?_|(refine at_bin ?_;first|refine eD Z Z (zL Z Z Z) (fun hh=>?_) (fun hh=>?_)|refine eD Z Z (zO Z Z Z) (fun hh=>?_) (fun hh=>?_)|refine eV Z Z (zV Z Z Z (by omega) (by omega)) ?_)|(refine at_call ?_;first|refine eV Z Z (zK Z Z) ?_))|(refine at_K ?_;first|refine K_then ?_)|(refine at_E ?_;first|refine E_seq ?_|refine E_region ?_|refine E_cond_t Z ?_|refine E_cond_f Z ?_|refine E_skip ?_|refine E_ret ?_)))
    all_goals (first|(exfalso;omega)|skip)
    exact ret_1 Z Z ⟨Ext.refl _,World.ownsRow_nil _ _ _ _⟩
set_option maxHeartbeats 4000000 in
set_option maxRecDepth 8000 in
theorem concat_any (xs:List (Value × List Int)) (b:Nat) (w:World) (hr:Row w b 22 (xs.map fun p=>p.1)) (hs:∀ p∈xs,Sl w p.1 p.2) (hsum:(catF xs).length≤1099511627776) (hlen:xs.length≤1000000) :
    Calls Tryz.prog 122 #[.slice (some ⟨b,0,none⟩) xs.length xs.length] w (Rt fun u w'=>Ext w w'∧w'.ownsRow w.heap.size 3 1 u (catF xs).length ((catF xs).map int)):=by
  refine calls_E (n:=36) (args:=[.slice (some ⟨b,0,none⟩) xs.length xs.length]) Tryz.func122 rfl Tryz.ntmps122 (by simp) ?_
  have hci:∀ {i:Nat} {p:Value × List Int} {w':World},Ext w w'→xs[i]?=some p→w'.cell? ⟨b,0+i*1,none⟩=some p.1:=fun {i p w'} hx hp=>rowI (hr.ext hx) (by rw [List.getElem?_map,hp];rfl)
  (repeat' (first|(refine at_EL ?_;first|refine eN ?_|refine eV Z Z (zA Z Z) ?_|refine eV Z Z (zB Z Z) ?_|(refine at_call ?_;first|refine eV Z Z (zK Z Z) ?_))|(refine at_K ?_;first|refine K_then ?_)|(refine at_E ?_;first|refine E_seq ?_|refine E_region ?_|refine E_block ?_)))
  refine E_loop (ι:=Nat) (fun i=>[(0,.slice (some ⟨b,0,none⟩) xs.length xs.length),(3,int ((catF (xs.take i)).length:Nat)),(9,.slice (some ⟨b,0,none⟩) xs.length xs.length),(10,int xs.length),(11,int i)])
    (fun i wr=>i≤xs.length∧wr=w) (fun i=>xs.length-i) 0
    ⟨rfl,rfl,rfl,rfl,rfl,trivial⟩ ⟨Nat.zero_le _,rfl⟩ ?_
  rintro i wr ⟨hi,rfl⟩
  have hle:=cat_le xs i
  by_cases hlt:i<xs.length
  · obtain⟨⟨vi,li⟩,hx1⟩:∃ p,xs[i]?=some p:=⟨_,List.getElem?_eq_getElem hlt⟩
    have hcx:=hci (Ext.refl wr) hx1
    obtain⟨a,cap,he,hc,_,_⟩:=(hs _ (List.mem_of_getElem? hx1)).sl
    dsimp only at he hcx hc
    subst he
    have hle2:=cat_le xs (i+1)
    have hsn:=cat_snoc hx1
    rw [hsn,List.length_append] at hle2
    dsimp only at hle2 hsn
    (repeat' (first|refine eV Z Z (val_indexAddr (m:=i) Z Z Z Z hlt) ?_|refine eV Z Z (val_load Z Z Z hcx) ?_|(refine at_EL ?_;first|refine eN ?_|refine eV Z Z (zA Z Z) ?_|refine eV Z Z (zB Z Z) ?_|(refine at_bin ?_;first|refine eD Z Z (zL Z Z Z) (fun hh=>?_) (fun hh=>?_)|refine eV Z Z (zU Z Z Z (by omega) (by omega)) ?_)|(refine at_call ?_;first|refine eV Z Z (zK Z Z) ?_))|(refine at_K ?_;first|refine K_then ?_|refine K_in ?_|refine K_then_exit ?_|refine K_in_exit ?_)|(refine at_E ?_;first|refine E_seq ?_|refine E_region ?_|refine E_cond_t Z ?_|refine E_cond_f Z ?_|refine E_block ?_|refine E_skip ?_|refine E_exit ?_)))
    all_goals (first|(exfalso;omega)|skip)
    refine K_rnd (i+1) ⟨rfl,?_,rfl,rfl,rfl,trivial⟩ ⟨by omega,rfl⟩ (by omega)
    rw [hsn,List.length_append];rfl
  · obtain rfl:i=xs.length:=by omega
    rw [List.take_length]
    have cg:=grow_any (catF xs).length hsum wr
    (repeat' (first|(refine EL_call Z Z (entersF Z Z en157) cg (fun vG wG hG=>?_);obtain⟨xG,oG⟩:=hG)|(refine at_EL ?_;first|refine eN ?_|refine eV Z Z (zA Z Z) ?_|refine eV Z Z (zB Z Z) ?_|(refine at_bin ?_;first|refine eD Z Z (zL Z Z Z) (fun hh=>?_) (fun hh=>?_))|(refine at_call ?_;first|refine eV Z Z (zK Z Z) ?_))|(refine at_K ?_;first|refine K_then ?_|refine K_then_exit ?_|refine K_in_exit ?_)|(refine at_E ?_;first|refine E_seq ?_|refine E_region ?_|refine E_cond_t Z ?_|refine E_cond_f Z ?_|refine E_block ?_|refine E_skip ?_|refine E_exit ?_)))
    all_goals (first|(exfalso;omega)|skip)
    refine E_loop (ι:=Nat × Value) (fun s=>[(6,s.2),(25,.slice (some ⟨b,0,none⟩) xs.length xs.length),(26,int xs.length),(27,int s.1)])
      (fun s w2=>s.1≤xs.length∧Ext wr w2∧w2.ownsRow wr.heap.size 3 1 s.2 (catF (xs.take s.1)).length ((catF (xs.take s.1)).map int)) (fun s=>xs.length-s.1) (0,vG)
      ⟨rfl,rfl,rfl,rfl,trivial⟩ ⟨Nat.zero_le _,xG,by rw [List.take_zero];exact oG⟩ ?_
    rintro⟨i,vO⟩ w2 ⟨hi,hx,hown⟩
    dsimp only at hi hx hown ⊢
    have hle:=cat_le xs i
    by_cases hlt:i<xs.length
    · obtain⟨⟨vi,li⟩,hx1⟩:∃ p,xs[i]?=some p:=⟨_,List.getElem?_eq_getElem hlt⟩
      have hcx:=hci hx hx1
      have hsl:=(hs _ (List.mem_of_getElem? hx1)).ext hx
      obtain⟨a,cap,he,hc,_,_⟩:=hsl.sl
      dsimp only at he hcx hc hsl
      subst he
      have hle2:=cat_le xs (i+1)
      have hsn:=cat_snoc hx1
      rw [hsn,List.length_append] at hle2
      dsimp only at hle2 hsn
      (repeat' (first|refine eV Z Z (val_indexAddr (m:=i) Z Z Z Z hlt) ?_|refine eV Z Z (val_load Z Z Z hcx) ?_|(refine EL_appO (news:=li.map int) hown hx (ints_news hsl) Z Z Z Z Z (by show(li.map int).length=li.length*1;simp) (ints_ones li) Z Z (by omega) (by omega) (fun vJ wJ oJ xJ kJ hJ=>?_))|(refine at_EL ?_;first|refine eN ?_|refine eV Z Z (zA Z Z) ?_|refine eV Z Z (zB Z Z) ?_|(refine at_bin ?_;first|refine eD Z Z (zL Z Z Z) (fun hh=>?_) (fun hh=>?_)|refine eV Z Z (zU Z Z Z (by omega) (by omega)) ?_))|(refine at_K ?_;first|refine K_then ?_|refine K_in ?_|refine K_then_exit ?_|refine K_in_exit ?_)|(refine at_E ?_;first|refine E_seq ?_|refine E_region ?_|refine E_cond_t Z ?_|refine E_cond_f Z ?_|refine E_block ?_|refine E_skip ?_|refine E_ret ?_|refine E_exit ?_)))
      all_goals (first|(exfalso;omega)|skip)
      refine K_rnd (i+1,vJ) ⟨rfl,rfl,rfl,rfl,trivial⟩ ⟨by dsimp only;omega,xJ,?_⟩ (by dsimp only;omega)
      dsimp only
      rw [hsn,List.length_append,List.map_append]
      exact oJ
    · obtain rfl:i=xs.length:=by omega
      rw [List.take_length] at hown
      (repeat' (first|(refine at_EL ?_;first|refine eN ?_|refine eV Z Z (zA Z Z) ?_|refine eV Z Z (zB Z Z) ?_|(refine at_bin ?_;first|refine eD Z Z (zL Z Z Z) (fun hh=>?_) (fun hh=>?_)))|(refine at_K ?_;first|refine K_then ?_|refine K_then_exit ?_|refine K_in_exit ?_)|(refine at_E ?_;first|refine E_seq ?_|refine E_region ?_|refine E_cond_t Z ?_|refine E_cond_f Z ?_|refine E_block ?_|refine E_skip ?_|refine E_ret ?_|refine E_exit ?_)))
      all_goals (first|(exfalso;omega)|skip)
      exact ret_1 Z Z ⟨hx,hown⟩
set_option maxRecDepth 8000 in
theorem unionP_any (a b:List Int) (u v:Value) (w:World) (hu:Sl w u a) (hv:Sl w v b) (hab:a.length+b.length≤1000000) :
    Calls Tryz.prog 85 #[u,v] w (Rt fun r w'=>Ext w w'∧SlG (Nw w) w' r (unionS a b)):=by
  refine calls_E (n:=10) (args:=[u,v]) Tryz.func85 rfl Tryz.ntmps85 (by simp) ?_
  obtain⟨a1,c1,rfl,_,_,_⟩:=hu.sl
  obtain⟨a2,c2,rfl,_,_,_⟩:=hv.sl
  have hcat:catF [(Value.slice a1 a.length c1,a),(Value.slice a2 b.length c2,b)]=a++b:=by simp [catF]
  have hl:(catF [(Value.slice a1 a.length c1,a),(Value.slice a2 b.length c2,b)]).length≤1000000:=by rw [hcat,List.length_append];exact hab
  (repeat' (first|(refine at_EL ?_;first|refine eN ?_|refine eV Z Z (zA Z Z) ?_|refine eV Z Z (zB Z Z) ?_|refine eL Z Z Z Z Z Z Z Z (fun bS wS xS hbS rS=>?_))|(refine at_K ?_;first|refine K_then ?_)|(refine at_E ?_;first|refine E_seq ?_|refine E_region ?_)))
  have cc:=concat_any [(Value.slice a1 a.length c1,a),(Value.slice a2 b.length c2,b)] bS wS rS (fun p hp=>by
    rcases List.mem_cons.1 hp with rfl|hp
    · exact hu.ext xS
    · rcases List.mem_cons.1 hp with rfl|hp
      · exact hv.ext xS
      · cases hp) (by omega) (by simp)
  rw [hcat] at cc
  (repeat' (first|(refine EL_call Z Z (entersF Z Z en122) cc (fun vC wC hC=>?_);obtain⟨xC,oC⟩:=hC)))
  have sC:Sl wC vC (a++b):=own_Sl (css:=(a++b).map fun z=>[int z]) (by rw [ints_flat];exact oC) (ints_ats _ _) rfl (by rw [List.length_append];omega)
  have cs:=sortedN_any _ vC wC sC (by rw [List.length_append];omega)
  (repeat' (first|(refine EL_call Z Z (entersF Z Z en106) cs (fun vE wE hE=>?_);obtain⟨xE,sE⟩:=hE)|(refine at_EL ?_;first|refine eN ?_|refine eV Z Z (zB Z Z) ?_)|(refine at_K ?_;first|refine K_then ?_)|(refine at_E ?_;first|refine E_ret ?_)))
  have hX:=xS.trans xC
  exact ret_1 Z Z ⟨hX.trans xE,sE.wk (fun b hb=>by have:=hX.size;unfold Nw at *;omega)⟩
end Go.Proofs.YtnifmbbpfdghmaaGreatDoor
namespace Go.Proofs.YtnifmbbpfdghmaaGreatDoor
open Go.RowKit Go.En
theorem setF_some {d:Dc} {l:List Int} {j:Int}:(setF d l j).isSome=true↔j∈l∧(getF d.notes j).isSome=true:=by
  unfold setF
  by_cases h:j∈l∧(getF d.notes j).isSome=true
  · rw [if_pos h];exact⟨fun _=>h,fun _=>rfl⟩
  · rw [if_neg h];exact⟨fun e=>by simp at e,fun e=>absurd e h⟩
theorem ids_few {d:Dc} (h:LightD d) {acc:List Int} (hn:acc.Nodup) (hs:∀ x∈acc,(getF d.notes x).isSome=true):acc.length≤d.notes.length:=by
  have hp:=perm_of hn (idsOf_rise h (fun x=>decide (x∈acc))).nodup (fun x=>by
    rw [idsOf_mem]
    constructor
    · intro hx
      have:=hs x hx
      cases hg:getF d.notes x with
      | none=>rw [hg] at this;cases this
      | some n=>exact⟨⟨n,get_some hg⟩,decide_eq_true hx⟩
    · intro hx;exact of_decide_eq_true hx.2)
  rw [hp.length_eq]
  exact idsOf_len _
attribute [local irreducible] E EL K Val Enters Rt Calls bodyPost Code.wp RQ
set_option maxHeartbeats 4000000 in
set_option maxRecDepth 8000 in
theorem list_any {d : Dc} (h : LightD d) (l : List Int) (r : Nat) (w : World) (hm : MapF w r (setF d l)) : Calls Tryz.prog 72 #[.map (some r)] w (Rt fun u w' => Ext w w' ∧ SlG (Nw w) w' u (idsOf d (fun x => decide (x ∈ l)))) := by
  have hN:=h.nnotes
  refine calls_E (n:=17) (args:=[.map (some r)]) Tryz.func72 rfl Tryz.ntmps72 (by simp) ?_
  (repeat' (first|refine EL_range hm rfl rfl rfl rfl (fun it c w1 hit g1 x1=>?_)|(refine at_EL ?_;first|refine eN ?_|refine eV Z Z (zA Z Z) ?_|refine eV Z Z (zB Z Z) ?_)|(refine at_K ?_;first|refine K_then ?_)|(refine at_E ?_;first|refine E_seq ?_|refine E_region ?_|refine E_block ?_)))
  refine E_loop (ι:=List Int × Value × (Int→Prop) × Nat) (fun s=>[(3,s.2.1),(6,.pointer (some ⟨it,0,none⟩))])
    (fun s wr=>Ext w wr∧RngF wr r it (setF d l) s.2.2.1 s.2.2.2∧s.1.Nodup∧(∀ x,(x∈s.1∨s.2.2.1 x)↔(setF d l x).isSome=true)∧(∀ x∈s.1,¬ s.2.2.1 x)∧wr.ownsRow w.heap.size 3 1 s.2.1 s.1.length (s.1.map int)∧s.2.1.ownBlock≠some it) (fun s=>s.2.2.2) ([],.slice none 0 0,_,c)
    ⟨rfl,rfl,trivial⟩ ⟨x1,g1,List.nodup_nil,fun x=>⟨fun hx=>by rcases hx with hx|hx;cases hx;exact hx,fun hx=>.inr hx⟩,(fun x hx=>by cases hx),World.ownsRow_nil _ _ _ _,by simp [Value.ownBlock]⟩ ?_
  rintro⟨acc,vO,left,c⟩ wr ⟨hx,hg,hnd,hall,hdis,hown,hne⟩
  dsimp only at hx hg hnd hall hdis hown hne ⊢
  refine E_seq ?_
  refine E_region ?_
  refine EL_next hg rfl rfl rfl rfl (fun hno=>?_) (fun j vj w2 c2 hlj hfj g2 hc2 k2 hsz hen=>?_)
  · have hmem:∀ x,x∈acc↔(setF d l x).isSome=true:=fun x=>⟨fun hx=>(hall x).1 (.inl hx),fun hx=>((hall x).2 hx).resolve_right (hno x)⟩
    have hfew:=ids_few h hnd fun x hx=>(setF_some.1 ((hmem x).1 hx)).2
    obtain⟨hr1,hr2⟩:=sorted_rise acc
    have hsv:sortedF acc=idsOf d (fun x=>decide (x∈l)):=idsOf_eq h hr1 fun x=>by
      rw [hr2,hmem,setF_some,decide_eq_true_eq,and_comm]
      refine and_congr_left fun _=>?_
      constructor
      · intro hs
        cases hg:getF d.notes x with
        | none=>rw [hg] at hs;cases hs
        | some n=>exact⟨n,get_some hg⟩
      · rintro⟨n,hn,rfl⟩
        rw [get_mem (ids_rise h) hn];rfl
    have hsl:Sl wr vO acc:=own_Sl (css:=acc.map fun z=>[int z]) (by rw [ints_flat];exact hown) (ints_ats _ _) rfl (by omega)
    have cs:=sortedN_any acc vO wr hsl (by omega)
    rw [hsv] at cs
    (repeat' (first|(refine EL_call Z Z (entersF Z Z en106) cs (fun vC wC hC=>?_);obtain⟨xC,sC⟩:=hC)|(refine at_EL ?_;first|refine eN ?_|refine eV Z Z (zA Z Z) ?_|refine eV Z Z (zB Z Z) ?_|refine eV Z Z (zF Z Z Z) ?_)|(refine at_K ?_;first|refine K_then ?_|refine K_then_exit ?_|refine K_in_exit ?_)|(refine at_E ?_;first|refine E_seq ?_|refine E_region ?_|refine E_cond_f Z ?_|refine E_ret ?_|refine E_exit ?_)))
    exact ret_1 Z Z ⟨hx.trans xC,sC.wk (fun b hb=>by have:=hx.size;unfold Nw at *;omega)⟩
  · have hx2:Ext w w2:=k2.ext hx (fun b e=>by cases e;omega)
    have hown2:w2.ownsRow w.heap.size 3 1 vO acc.length (acc.map int):=hown.kept k2 (by
      cases hob:vO.ownBlock with
      | none=>exact .inl rfl
      | some b=>exact .inr (fun e=>hne (by rw [hob,e])))
    have hjs:(setF d l j).isSome=true:=by rw [hfj];rfl
    have hnd2:(acc++[j]).Nodup:=List.nodup_append.2 ⟨hnd,by simp,fun a ha b hb=>by
      rw [List.mem_singleton] at hb
      subst hb
      rintro rfl
      exact hdis a ha hlj⟩
    have hall2:∀ x,(x∈acc++[j]∨(left x∧x≠j))↔(setF d l x).isSome=true:=fun x=>by
      rw [List.mem_append,List.mem_singleton,← hall x]
      constructor
      · rintro((hx|rfl)|hx)
        · exact .inl hx
        · exact .inr hlj
        · exact .inr hx.1
      · rintro(hx|hx)
        · exact .inl (.inl hx)
        · by_cases e:x=j
          · exact .inl (.inr e)
          · exact .inr ⟨hx,e⟩
    have hdis2:∀ x∈acc++[j],¬ (left x∧x≠j):=fun x hx hl2=>by
      rcases List.mem_append.1 hx with hx|hx
      · exact hdis x hx hl2.1
      · exact hl2.2 (List.mem_singleton.1 hx)
    have hfew:=ids_few h hnd fun x hx=>(setF_some.1 ((hall x).1 (.inl hx))).2
    have hrlt:=hm.lt
    (repeat' (first|refine eV Z Z (val_entry hen rfl rfl) ?_|(refine EL_appO (news:=[int j]) (own_ext hown2 xS) (hx2.trans xS) (fun _=>⟨_,_,rfl,rS.at⟩) Z Z Z Z Z Z Z Z Z (by omega) (by omega) (fun vJ wJ oJ xJ kJ hJ=>?_))|(refine at_EL ?_;first|refine eN ?_|refine eV Z Z (zA Z Z) ?_|refine eV Z Z (zB Z Z) ?_|refine eV Z Z (zF Z Z Z) ?_|refine eL Z Z Z Z Z Z Z Z (fun bS wS xS hbS rS=>?_))|(refine at_K ?_;first|refine K_then ?_|refine K_in ?_)|(refine at_E ?_;first|refine E_seq ?_|refine E_region ?_|refine E_cond_t Z ?_|refine E_block ?_|refine E_skip ?_)))
    have hown3:=own_ext hown2 xS
    have g3:=(g2.ext xS).kb kJ (fun e=>by have:=hown3.lt r e.symm;omega) (fun e=>hne e.symm)
    refine K_rnd (acc++[j],vJ,_,c2) ⟨rfl,rfl,trivial⟩ ⟨xJ,g3,hnd2,hall2,hdis2,by rw [List.length_append,List.map_append];exact oJ,fun e=>?_⟩ hc2
    have hitl:=g2.lt
    have:=xS.size
    rcases hJ with hJ|hJ
    · exact hne (hJ.symm.trans e)
    · rw [hJ] at e
      simp at e
      omega
end Go.Proofs.YtnifmbbpfdghmaaGreatDoor
namespace Go.Proofs.YtnifmbbpfdghmaaGreatDoor
open Go.RowKit Go.En
attribute [local irreducible] E EL K Val Enters Rt Calls bodyPost Code.wp RQ
set_option maxHeartbeats 4000000 in
set_option maxRecDepth 8000 in
theorem keep_any {d:Dc} (h:LightD d) (F:FuncId) (caps:List Value) (he:∀ args w,(Go.callFunc F args).run Tryz.prog w=.ok (.enter F args) w) (p:Int→Bool)
    (l:List Int) (r:Nat) (w:World) (hm:MapF w r (setF d l)) (hF:∀(x:Int) (wq:World),Ext w wq→Calls Tryz.prog F ([int x]++caps).toArray wq (Rt fun u w'=>u=.bool (p x)∧Ext wq w')) :
    Calls Tryz.prog 68 #[.map (some r),.func (.func F) #[] caps.toArray] w (Rt fun u w'=>Ext w w'∧SlG (Nw w) w' u (idsOf d (fun x=>decide (x∈l)&&p x))):=by
  have hN:=h.nnotes
  refine calls_E (n:=24) (args:=[.map (some r),.func (.func F) #[] caps.toArray]) Tryz.func68 rfl Tryz.ntmps68 (by simp) ?_
  have cl:=list_any h l r w hm
  obtain⟨I,hI⟩:∃ I,I=idsOf d (fun x=>decide (x∈l)):=⟨_,rfl⟩
  have hIl:I.length≤14:=by rw [hI];exact Nat.le_trans (idsOf_len _) hN
  rw [← hI] at cl
  (repeat' (first|(refine EL_call Z Z (entersF Z Z en72) cl (fun vI wI hC=>?_);obtain⟨xI,sI⟩:=hC;have sI0:=sI;obtain⟨a,cap,rfl,hc,hm,hp⟩:=sI.sl)|(refine at_EL ?_;first|refine eN ?_|refine eV Z Z (zA Z Z) ?_|refine eV Z Z (zB Z Z) ?_|(refine at_call ?_;first|refine eV Z Z (zK Z Z) ?_))|(refine at_K ?_;first|refine K_then ?_)|(refine at_E ?_;first|refine E_seq ?_|refine E_region ?_|refine E_block ?_)))
  refine E_loop (ι:=Nat × Value) (fun s=>[(1,.func (.func F) #[] caps.toArray),(5,s.2),(9,.slice a I.length cap),(10,int I.length),(11,int s.1)])
    (fun s wr=>s.1≤I.length∧Ext wI wr∧wr.ownsRow wI.heap.size 3 1 s.2 ((I.take s.1).filter p).length (((I.take s.1).filter p).map int)) (fun s=>I.length-s.1) (0,.slice none 0 0)
    ⟨rfl,rfl,rfl,rfl,rfl,trivial⟩ ⟨Nat.zero_le _,Ext.refl _,World.ownsRow_nil _ _ _ _⟩ ?_
  rintro⟨i,vO⟩ wr ⟨hi,hx,hown⟩
  dsimp only at hi hx hown ⊢
  have hfl:((I.take i).filter p).length≤14:=Nat.le_trans (List.length_filter_le _ _) (Nat.le_trans (List.length_take_le _ _) (by omega))
  by_cases hlt:i<I.length
  · obtain⟨b,off,rfl⟩:=hp (by omega)
    obtain⟨x,hx1⟩:∃ x,I[i]?=some x:=⟨_,List.getElem?_eq_getElem hlt⟩
    have hcx:=int_elem (sI0.ext hx) hx1
    have cF:=hF x wr (xI.trans hx)
    have hfs:=filter_snoc (p:=p) hx1
    cases hpx:p x with
    | true=>
      rw [hpx] at cF
      rw [if_pos hpx] at hfs
      (repeat' (first|refine eV Z Z (val_indexAddr (m:=i) Z Z Z Z hlt) ?_|refine eV Z Z (val_load Z Z Z hcx) ?_|(refine EL_call Z Z (entersC (cap:=caps) Z Z Z he) cF (fun vC wC hC=>?_);obtain⟨rfl,xC⟩:=hC;have own2:=own_ext hown xC)|(refine EL_appO (news:=[int x]) (own_ext own2 xS) ((hx.trans xC).trans xS) (fun _=>⟨_,_,rfl,rS.at⟩) Z Z Z Z Z Z Z Z Z (by omega) (by omega) (fun vJ wJ oJ xJ kJ hJ=>?_))|(refine at_EL ?_;first|refine eN ?_|refine eV Z Z (zA Z Z) ?_|refine eV Z Z (zB Z Z) ?_|(refine at_bin ?_;first|refine eD Z Z (zL Z Z Z) (fun hh=>?_) (fun hh=>?_)|refine eV Z Z (zU Z Z Z (by omega) (by omega)) ?_)|refine eL Z Z Z Z Z Z Z Z (fun bS wS xS hbS rS=>?_))|(refine at_K ?_;first|refine K_then ?_|refine K_in ?_|refine K_then_exit ?_|refine K_in_exit ?_)|(refine at_E ?_;first|refine E_seq ?_|refine E_region ?_|refine E_cond_t Z ?_|refine E_cond_f Z ?_|refine E_block ?_|refine E_skip ?_|refine E_ret ?_|refine E_exit ?_)))
      all_goals (first|(exfalso;omega)|skip)
      refine K_rnd (i+1,vJ) ⟨rfl,rfl,rfl,rfl,rfl,trivial⟩ ⟨by dsimp only;omega,xJ,?_⟩ (by dsimp only;omega)
      dsimp only
      rw [hfs,List.length_append,List.map_append]
      exact oJ
    | false=>
      rw [hpx] at cF
      rw [if_neg (by simp [hpx]),List.append_nil] at hfs
      (repeat' (first|refine eV Z Z (val_indexAddr (m:=i) Z Z Z Z hlt) ?_|refine eV Z Z (val_load Z Z Z hcx) ?_|(refine EL_call Z Z (entersC (cap:=caps) Z Z Z he) cF (fun vC wC hC=>?_);obtain⟨rfl,xC⟩:=hC;have own2:=own_ext hown xC)|(refine at_EL ?_;first|refine eN ?_|refine eV Z Z (zA Z Z) ?_|refine eV Z Z (zB Z Z) ?_|(refine at_bin ?_;first|refine eD Z Z (zL Z Z Z) (fun hh=>?_) (fun hh=>?_)|refine eV Z Z (zU Z Z Z (by omega) (by omega)) ?_))|(refine at_K ?_;first|refine K_then ?_|refine K_in ?_|refine K_then_exit ?_|refine K_in_exit ?_)|(refine at_E ?_;first|refine E_seq ?_|refine E_region ?_|refine E_cond_t Z ?_|refine E_cond_f Z ?_|refine E_block ?_|refine E_skip ?_|refine E_ret ?_|refine E_exit ?_)))
      all_goals (first|(exfalso;omega)|skip)
      refine K_rnd (i+1,vO) ⟨rfl,rfl,rfl,rfl,rfl,trivial⟩ ⟨by dsimp only;omega,hx.trans xC,?_⟩ (by dsimp only;omega)
      dsimp only
      rw [hfs]
      exact own2
  · obtain rfl:i=I.length:=by omega
    rw [List.take_length] at hown hfl
    have hres:I.filter p=idsOf d (fun x=>decide (x∈l)&&p x):=by
      rw [hI]
      unfold idsOf
      rw [List.filter_filter]
      exact List.filter_congr fun x _=>Bool.and_comm ..
    (repeat' (first|(refine at_EL ?_;first|refine eN ?_|refine eV Z Z (zA Z Z) ?_|refine eV Z Z (zB Z Z) ?_|(refine at_bin ?_;first|refine eD Z Z (zL Z Z Z) (fun hh=>?_) (fun hh=>?_)))|(refine at_K ?_;first|refine K_then ?_|refine K_then_exit ?_|refine K_in_exit ?_)|(refine at_E ?_;first|refine E_seq ?_|refine E_region ?_|refine E_cond_t Z ?_|refine E_cond_f Z ?_|refine E_block ?_|refine E_skip ?_|refine E_ret ?_|refine E_exit ?_)))
    all_goals (first|(exfalso;omega)|skip)
    refine ret_1 Z Z ⟨xI.trans hx,?_⟩
    rw [← hres]
    exact own_Nw (own_weak hown xI.size) (by omega)
end Go.Proofs.YtnifmbbpfdghmaaGreatDoor
