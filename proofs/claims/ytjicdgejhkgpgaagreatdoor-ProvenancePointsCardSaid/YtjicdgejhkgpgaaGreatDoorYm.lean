/-
  Walks: the reference's Points. A text turned into bytes.
-/
import Derived.Test.YtjicdgejhkgpgaaGreatDoorYl
import Derived.Test.YtjicdgejhkgpgaaGreatDoorYg
import Derived.Test.YtjicdgejhkgpgaaGreatDoorG
import Derived.Test.YtjicdgejhkgpgaaGreatDoorYb
import Derived.Laws.IdiomStrings
set_option linter.all false
namespace Go.Proofs.YtjicdgejhkgpgaaGreatDoor
open Go.RowKit Go.En Go.Pv
def ctlN (z:Nat):Bool:=decide (z<32)||decide (z=127)
def txtF (s:List UInt8):Int:=if 200<s.length then 5 else match points s with|none=>3|some zs=>if zs.any ctlN then 3 else 0
theorem up_zero {l:List Int} {i:Nat} {x y:Int} (hx:l[i]?=some x) (h0:0<i) (hy:l[i-1]?=some y) (h:y<x):upAt l i=0:=by
  unfold upAt;rw [hx,if_pos h0,hy];simp [h]
theorem up_ten {l:List Int} {i:Nat} {x y:Int} (hx:l[i]?=some x) (h0:0<i) (hy:l[i-1]?=some y) (h:¬ y<x):upAt l i=10:=by
  unfold upAt;rw [hx,if_pos h0,hy];simp [h]
theorem up_first {l:List Int}:upAt l 0=0:=by unfold upAt;cases l[0]? <;> rfl
theorem none_zero {lex:List En} {l:List Int} {i:Nat} {x:Int} (hx:l[i]?=some x) (h:(getE lex x).isSome=true):noneAt lex l i=0:=by unfold noneAt;rw [hx];simp [h]
theorem none_nine {lex:List En} {l:List Int} {i:Nat} {x:Int} (hx:l[i]?=some x) (h:(getE lex x).isSome=false):noneAt lex l i=9:=by unfold noneAt;rw [hx];simp [h]
attribute [local irreducible] E EL K Val Enters Rt Calls bodyPost Code.wp RQ
set_option maxHeartbeats 4000000 in
set_option maxRecDepth 8000 in
theorem text97_val (s : List UInt8) (w : World) : Calls Tryz.prog 97 #[str s] w (Rt fun u w' => u = int (txtF s) ∧ Ext w w') := by
  refine calls_E (n:=34) (args:=[str s]) Tryz.func97 rfl Tryz.ntmps97 (by simp) ?_
  by_cases h200:s.length≤200
  · have hf := rPoints_any s (by omega) w
    have ht0:txtF s=match points s with|none=>3|some zs=>if zs.any ctlN then 3 else 0:=by unfold txtF;rw [if_neg (by omega)]
    cases hp:points s with
    | none=>
      rw [hp] at hf ht0
      rw [ht0]
      (repeat' (first|(refine EL_call Z Z (entersF Z Z en130) hf (fun vC wC hC=>?_);obtain⟨xC,hv⟩:=hC;obtain rfl:=hv)|(refine at_EL ?_;first|refine eN ?_|refine eV Z Z (zA Z Z) ?_|refine eV Z Z (zB Z Z) ?_|(refine at_bin ?_;first|refine eD Z Z (zO Z Z Z) (fun hh=>?_) (fun hh=>?_))|(refine at_call ?_;first|refine eV Z Z (zJ Z Z) ?_)|refine eV Z Z (zE Z Z) ?_|refine eV Z Z (zF Z Z Z) ?_)|(refine at_K ?_;first|refine K_then ?_|refine K_then_ret ?_)|(refine at_E ?_;first|refine E_seq ?_|refine E_region ?_|refine E_cond_t Z ?_|refine E_cond_f Z ?_|refine E_skip ?_|refine E_ret ?_)))
      all_goals (first|(exfalso;omega)|skip)
      exact ret_1 Z Z ⟨rfl,xC⟩
    | some zs=>
      rw [hp] at hf ht0
      have ht1:txtF s=if zs.any ctlN then 3 else 0:=ht0
      rw [ht1]
      (repeat' ((fail_if_success (refine E_seq (x:=(Code.region 6 _ _)) ?_));first|(refine EL_call Z Z (entersF Z Z en130) hf (fun vC wC hC=>?_);obtain⟨xC,v,hv,hown⟩:=hC;obtain rfl:=hv)|(refine at_EL ?_;first|refine eN ?_|refine eV Z Z (zA Z Z) ?_|refine eV Z Z (zB Z Z) ?_|(refine at_bin ?_;first|refine eD Z Z (zO Z Z Z) (fun hh=>?_) (fun hh=>?_))|(refine at_call ?_;first|refine eV Z Z (zJ Z Z) ?_)|refine eV Z Z (zE Z Z) ?_|refine eV Z Z (zF Z Z Z) ?_)|(refine at_K ?_;first|refine K_then ?_|refine K_then_ret ?_)|(refine at_E ?_;first|refine E_seq ?_|refine E_region ?_|refine E_cond_t Z ?_|refine E_cond_f Z ?_|refine E_skip ?_|refine E_ret ?_)))
      all_goals (first|(exfalso;omega)|skip)
      obtain⟨a,cap,rfl,hc,hat⟩:=own_sl hown
      have hzl:=(points_len _ s zs (Nat.le_refl _) hp).1
      (repeat' (first|(refine at_EL ?_;first|refine eN ?_|refine eV Z Z (zB Z Z) ?_)|(refine at_K ?_;first|refine K_then ?_)|(refine at_E ?_;first|refine E_seq ?_|refine E_region ?_|refine E_block ?_)))
      refine E_loop (ι:=Nat) (fun i=>[(3,.slice a zs.length cap),(5,int i)]) (fun i wr=>i≤zs.length∧Ext wC wr∧∀ j,j<i→∀ z,zs[j]?=some z→ctlN z=false) (fun i=>zs.length-i) 0
        ⟨rfl,rfl,trivial⟩ ⟨Nat.zero_le _,Ext.refl _,fun j hj=>by omega⟩ ?_
      rintro i wr ⟨hi,hx,hall⟩
      by_cases hlt:i<zs.length
      · obtain ⟨b, off, rfl, hat2⟩ := hat (by omega)
        obtain⟨z,hz⟩:∃ z,zs[i]?=some z:=⟨_,List.getElem?_eq_getElem hlt⟩
        have hcell:=(hat2.ext hx).ith hz
        (repeat' (first|refine eV Z Z (val_indexAddr (m:=i) Z Z Z (by first|rfl|omega) (by omega)) ?_|refine eV Z Z (val_load Z Z Z hcell) ?_|(refine at_EL ?_;first|refine eN ?_|refine eO Z Z ?_|refine eV Z Z (zA Z Z) ?_|refine eV Z Z (zB Z Z) ?_|(refine at_bin ?_;first|refine eD Z Z (zL Z Z Z) (fun hh=>?_) (fun hh=>?_)|refine eD Z Z (zM Z Z Z) (fun hh=>?_) (fun hh=>?_)|refine eV Z Z (zU Z Z Z (by omega) (by omega)) ?_)|(refine at_call ?_;first|refine eV Z Z (zK Z Z) ?_)|refine eV Z Z (zC Z Z Z) ?_|refine eV Z Z (zD Z Z Z) ?_)|(refine at_K ?_;first|refine K_then ?_|refine K_in ?_|refine K_then_ret ?_|refine K_then_exit ?_|refine K_in_ret ?_|refine K_in_exit ?_)|(refine at_E ?_;first|refine E_seq ?_|refine E_region ?_|refine E_cond_t Z ?_|refine E_cond_f Z ?_|refine E_block ?_|refine E_skip ?_|refine E_ret ?_|refine E_exit ?_)))
        all_goals (first|(exfalso;omega)|skip)
        all_goals first
          | (have hcz : ctlN z = true := by unfold ctlN; simp; omega
             have:zs.any ctlN=true:=List.any_eq_true.2 ⟨z,List.mem_of_getElem? hz,hcz⟩
             rw [this]
             exact ret_1 Z Z ⟨rfl,xC.trans hx⟩)
          | (have hcz : ctlN z = false := by unfold ctlN; simp; omega
             refine K_rnd (i+1) ⟨rfl,rfl,trivial⟩ ⟨by omega,hx,fun j hj z' hz'=>?_⟩ (by omega)
             by_cases hj2:j<i
             · exact hall j hj2 z' hz'
             · obtain rfl:j=i:=by omega
               rw [hz] at hz';cases hz';exact hcz)
      · have:zs.any ctlN=false:=by
          rw [List.any_eq_false]
          intro z hz
          obtain⟨j,hj⟩:=List.getElem?_of_mem hz
          rw [hall j (by have:=(List.getElem?_eq_some_iff.1 hj).1;omega) z hj];simp
        (repeat' (first|(refine at_EL ?_;first|refine eN ?_|refine eV Z Z (zA Z Z) ?_|refine eV Z Z (zB Z Z) ?_|(refine at_bin ?_;first|refine eD Z Z (zL Z Z Z) (fun hh=>?_) (fun hh=>?_))|(refine at_call ?_;first|refine eV Z Z (zK Z Z) ?_))|(refine at_K ?_;first|refine K_then ?_|refine K_then_exit ?_|refine K_in_exit ?_)|(refine at_E ?_;first|refine E_seq ?_|refine E_region ?_|refine E_cond_t Z ?_|refine E_cond_f Z ?_|refine E_block ?_|refine E_skip ?_|refine E_ret ?_|refine E_exit ?_)))
        all_goals (first|(exfalso;omega)|skip)
        rw [this]
        exact ret_1 Z Z ⟨rfl,xC.trans hx⟩
  · have:txtF s=5:=by unfold txtF;rw [if_pos (by omega)]
    rw [this]
    (repeat' (first|(refine at_EL ?_;first|refine eN ?_|refine eV Z Z (zA Z Z) ?_|refine eV Z Z (zB Z Z) ?_|(refine at_bin ?_;first|refine eD Z Z (zO Z Z Z) (fun hh=>?_) (fun hh=>?_))|(refine at_call ?_;first|refine eV Z Z (zJ Z Z) ?_))|(refine at_K ?_;first|refine K_then ?_|refine K_then_ret ?_)|(refine at_E ?_;first|refine E_seq ?_|refine E_region ?_|refine E_cond_t Z ?_|refine E_cond_f Z ?_|refine E_skip ?_|refine E_ret ?_)))
    all_goals (first|(exfalso;omega)|skip)
    exact ret_1 Z Z ⟨rfl,Ext.refl _⟩
set_option maxHeartbeats 4000000 in
set_option maxRecDepth 8000 in
theorem up98_any (l:List Int) (v:Value) (w:World) (hv:Sl w v l):Calls Tryz.prog 98 #[v] w (Rt fun u w'=>u=.bool (decide (firstE l.length (upAt l)=0))∧Ext w w'):=by
  have hv0:=hv
  obtain⟨a,c,rfl,_,hm,hpp⟩:=hv.sl
  refine calls_E (n:=20) (args:=[.slice a l.length c]) Tryz.func98 rfl Tryz.ntmps98 (by simp) ?_
  (repeat' (first|(refine at_EL ?_;first|refine eN ?_|refine eV Z Z (zB Z Z) ?_)|(refine at_K ?_;first|refine K_then ?_)|(refine at_E ?_;first|refine E_seq ?_|refine E_region ?_|refine E_block ?_)))
  have h00:∀ j,j<1→upAt l j=0:=fun j hj=>by
    obtain rfl:j=0:=by omega
    exact up_first
  refine E_loop (ι:=Nat) (fun i=>[(0,.slice a l.length c),(3,int i)]) (fun i wr=>1≤i∧Ext w wr∧∀ j,j<i→upAt l j=0) (fun i=>l.length-i) 1
    ⟨rfl,rfl,trivial⟩ ⟨Nat.le_refl _,Ext.refl _,h00⟩ ?_
  rintro i wr ⟨hi,hx,hall⟩
  replace hv0:=hv0.ext hx
  by_cases hlt:i<l.length
  · obtain⟨b,off,rfl⟩:=hpp (by omega)
    obtain⟨x,hxi⟩:∃ x,l[i]?=some x:=⟨_,List.getElem?_eq_getElem hlt⟩
    obtain⟨y,hyi⟩:∃ y,l[i-1]?=some y:=⟨_,List.getElem?_eq_getElem (by omega)⟩
    have h1:=(Go.Pv.int_elem hv0 hxi).one
    have h2:=(Go.Pv.int_elem hv0 hyi).one
    (repeat' (first|refine yV Z Z (fun wq _ xq=>val_load Z Z Z (Ext.cell xq (by assumption))) ?_|refine yV Z Z (fun _ _ _=>val_indexAddr (m:=i) Z Z Z Z (by omega)) ?_|refine yV Z Z (fun _ _ _=>val_indexAddr (m:=i-1) Z Z Z (by omega) (by omega)) ?_|(refine at_EL ?_;first|refine eN ?_|refine eV Z Z (zA Z Z) ?_|refine eV Z Z (zB Z Z) ?_|(refine at_bin ?_;first|refine eD Z Z (zL Z Z Z) (fun hh=>?_) (fun hh=>?_)|refine eV Z Z (zU Z Z Z (by omega) (by omega)) ?_)|(refine at_call ?_;first|refine eV Z Z (zK Z Z) ?_))|(refine at_K ?_;first|refine K_then ?_|refine K_in ?_|refine K_then_ret ?_|refine K_then_exit ?_|refine K_in_ret ?_|refine K_in_exit ?_)|(refine at_E ?_;first|refine E_seq ?_|refine E_region ?_|refine E_cond_t Z ?_|refine E_cond_f Z ?_|refine E_block ?_|refine E_skip ?_|refine E_ret ?_|refine E_exit ?_|refine E_dq mixedOk (by kernel_rfl) Z ?_)|(refine at_RQ ?_;first|refine yN Z (fun wq xq=>?_)|refine yV Z Z (fun _ _ _=>zA Z Z) ?_|(refine at_binR ?_;first|refine yD Z Z (fun _ _ _=>zP Z Z Z) (fun hh=>?_) (fun hh=>?_)|refine yV Z Z (fun _ _ _=>zV Z Z Z (by omega) (by omega)) ?_))))
    all_goals (try (exfalso;omega))
    · have:decide (firstE l.length (upAt l)=0)=false:=decide_eq_false (by rw [firstE_at hall hlt (by rw [up_ten hxi (by omega) hyi (by omega)];decide),up_ten hxi (by omega) hyi (by omega)];decide)
      rw [this]
      exact ret_1 Z Z ⟨rfl,hx.trans xq⟩
    · refine K_rnd (i+1) ⟨rfl,rfl,trivial⟩ ⟨by omega,hx.trans xq,fun j hj=>?_⟩ (by omega)
      by_cases e:j=i
      · subst e;exact up_zero hxi (by omega) hyi (by omega)
      · exact hall j (by omega)
  · have:decide (firstE l.length (upAt l)=0)=true:=decide_eq_true (firstE_all (fun j hj=>hall j (by omega)))
    rw [this]
    (repeat' (first|(refine at_EL ?_;first|refine eN ?_|refine eV Z Z (zA Z Z) ?_|refine eV Z Z (zB Z Z) ?_|(refine at_bin ?_;first|refine eD Z Z (zL Z Z Z) (fun hh=>?_) (fun hh=>?_))|(refine at_call ?_;first|refine eV Z Z (zK Z Z) ?_))|(refine at_K ?_;first|refine K_then ?_|refine K_then_exit ?_|refine K_in_exit ?_)|(refine at_E ?_;first|refine E_seq ?_|refine E_region ?_|refine E_cond_t Z ?_|refine E_cond_f Z ?_|refine E_block ?_|refine E_skip ?_|refine E_ret ?_|refine E_exit ?_)))
    all_goals (try (exfalso;omega))
    exact ret_1 Z Z ⟨rfl,hx⟩
theorem up_val {l:List Int} (h:firstE l.length (upAt l)≠0):firstE l.length (upAt l)=10:=by
  cases hf:(List.range l.length).find? (fun i=>upAt l i != 0) with
  | none=>rw [firstE,hf] at h;exact absurd rfl h
  | some k=>
    have e:firstE l.length (upAt l)=upAt l k:=by rw [firstE,hf]
    rw [e] at h ⊢
    unfold upAt at h ⊢
    split
    · rename_i x y h1 h2
      rw [h1,h2] at h
      dsimp only at h
      split
      · rename_i h3;rw [if_pos h3] at h;exact absurd rfl h
      · rfl
    · rename_i h1
      exfalso
      apply h
      split
      · rename_i h2 h3;exact absurd h3 (h1 _ _ h2)
      · rfl
theorem pnt_open {G:Nat→Prop} {w:World} {p:Pnt} {X:List Value} (h:Rep.at_ G w p X):∃ a0 c0 a1 c1,X=[int p.id,str p.title,str p.text,.slice a0 p.entries.length c0,.slice a1 p.refs.length c1]∧SlG G w (.slice a0 p.entries.length c0) p.entries∧SlG G w (.slice a1 p.refs.length c1) p.refs:=by
  obtain⟨ev,rv,rfl,h0,h1⟩:=h
  obtain⟨a0,c0,rfl,_⟩:=h0.sl
  obtain⟨a1,c1,rfl,_⟩:=h1.sl
  exact⟨a0,c0,a1,c1,rfl,h0,h1⟩
set_option maxHeartbeats 4000000 in
set_option maxRecDepth 8000 in
theorem point62_any (lex : List En) (p : Pnt) (ht : p.title.length ≤ 1048576) (ev : Value) (X : List Value) (w : World) (hl : Sl w ev lex) (h : Rep.at_ Tt w p X) : Calls Tryz.prog 62 #[ev, .agg X.toArray] w (Rt fun u w' => u = int (pointE labB txtF lex p) ∧ Ext w w') := by
  obtain⟨a0,c0,a1,c1,rfl,h0,h1⟩:=pnt_open h
  have he:=h0
  obtain⟨_,_,ee,_,hem,hep⟩:=h0.sl
  cases ee
  refine calls_E (n:=55) (args:=[ev,.agg #[int p.id,str p.title,str p.text,.slice a0 p.entries.length c0,.slice a1 p.refs.length c1] ]) Tryz.func62 rfl Tryz.ntmps62 (by simp) ?_
  have hX:=Ext.refl w
  have cl:=fun wz=>label96_any p.title ht wz
  cases hb:labB p.title with
  | false=>
    have hP:pointE labB txtF lex p=7:=by unfold pointE;rw [hb];rfl
    rw [hb] at cl
    rw [hP]
    (repeat' (first|(refine EL_boxA Z Z Z Z (fun bX wX xX hbX rX=>?_);replace hX:=hX.trans xX)|refine eV Z Z (val_load Z Z Z (Row.cellAt (by assumption) (by rfl))) ?_|(refine EL_call Z Z (entersF Z Z en96) (cl _) (fun vC wC hC=>?_);obtain⟨rfl,xC⟩:=hC;replace hX:=hX.trans xC)|(refine at_EL ?_;first|refine eN ?_|refine eV Z Z (zB Z Z) ?_|refine eV Z Z (zE Z Z) ?_|refine eV Z Z (zH Z Z) ?_)|(refine at_K ?_;first|refine K_then ?_|refine K_then_ret ?_)|(refine at_E ?_;first|refine E_seq ?_|refine E_region ?_|refine E_cond_t Z ?_|refine E_ret ?_)))
    exact ret_1 Z Z ⟨rfl,hX⟩
  | true=>
  have hP0:pointE labB txtF lex p=if txtF p.text≠0 then txtF p.text else if entriesE lex p.entries≠0 then entriesE lex p.entries else refsE p.refs:=by unfold pointE;rw [hb];rfl
  rw [hb] at cl
  rw [hP0]
  by_cases htx:txtF p.text=0
  · rw [if_neg (by simpa using htx)]
    have ct:=fun wz=>text97_val p.text wz
    rw [htx] at ct
    have cu:=fun wz hz=>up98_any p.entries (.slice a0 p.entries.length c0) wz hz
    by_cases hup:firstE p.entries.length (upAt p.entries)=0
    · rw [decide_eq_true hup] at cu
      have hEE:entriesE lex p.entries=firstE p.entries.length (noneAt lex p.entries):=by unfold entriesE;rw [if_neg (by simpa using hup)]
      rw [hEE]
      (repeat' (first|(refine EL_boxA Z Z Z Z (fun bX wX xX hbX rX=>?_);replace hX:=hX.trans xX;replace he:=he.ext xX;replace h1:=h1.ext xX)|refine eV Z Z (val_load Z Z Z (Row.cellAt (by assumption) (by rfl))) ?_|(refine EL_call Z Z (entersF Z Z en96) (cl _) (fun vC wC hC=>?_);obtain⟨rfl,xC⟩:=hC;replace hX:=hX.trans xC;replace rX:=rX.ext xC;replace he:=he.ext xC;replace h1:=h1.ext xC)|(refine EL_call Z Z (entersF Z Z en97) (ct _) (fun vC wC hC=>?_);obtain⟨rfl,xC⟩:=hC;replace hX:=hX.trans xC;replace rX:=rX.ext xC;replace he:=he.ext xC;replace h1:=h1.ext xC)|(refine EL_call Z Z (entersF Z Z en98) (cu _ he) (fun vC wC hC=>?_);obtain⟨rfl,xC⟩:=hC;replace hX:=hX.trans xC;replace rX:=rX.ext xC;replace he:=he.ext xC;replace h1:=h1.ext xC)|(refine at_EL ?_;first|refine eN ?_|refine eV Z Z (zA Z Z) ?_|refine eV Z Z (zB Z Z) ?_|(refine at_bin ?_;first|refine eD Z Z (zQ Z Z Z) (fun hh=>?_) (fun hh=>?_))|refine eV Z Z (zE Z Z) ?_|refine eV Z Z (zH Z Z) ?_)|(refine at_K ?_;first|refine K_then ?_|refine K_then_ret ?_)|(refine at_E ?_;first|refine E_seq ?_|refine E_region ?_|refine E_cond_t Z ?_|refine E_cond_f Z ?_|refine E_block ?_|refine E_skip ?_|refine E_ret ?_)))
      all_goals (try (exfalso;omega))
      refine E_loop (ι:=Nat) (fun i=>[(0,ev),(3,.pointer (some ⟨bX,0,none⟩)),(6,int i)]) (fun i wr=>i≤p.entries.length∧Ext wC wr∧∀ j,j<i→noneAt lex p.entries j=0) (fun i=>p.entries.length-i) 0
        ⟨rfl,rfl,rfl,trivial⟩ ⟨Nat.zero_le _,Ext.refl _,fun _ h=>absurd h (by omega)⟩ ?_
      rintro i wr ⟨hi,hx,hall⟩
      replace hX:=hX.trans hx;replace rX:=rX.ext hx;replace he:=he.ext hx;replace h1:=h1.ext hx
      by_cases hlt:i<p.entries.length
      · obtain⟨b,off,rfl⟩:=hep (by omega)
        obtain⟨x,hxi⟩:∃ x,p.entries[i]?=some x:=⟨_,List.getElem?_eq_getElem hlt⟩
        have hcx:=(Go.Pv.int_elem he hxi).one
        obtain⟨Y,hrepY,ce⟩:=get53_any lex x ev w hl
        obtain⟨e0,k0,e1,k1,e2,k2,e3,k3,e4,k4,rfl,_⟩:=en_open hrepY
        cases hbx:(getE lex x).isSome with
        | true=>
          rw [hbx] at ce
          (repeat' (first|refine eV Z Z (val_load Z Z Z (Row.cellAt (by assumption) (by rfl))) ?_|refine eV Z Z (val_load Z Z Z (by assumption)) ?_|refine eV Z Z (val_indexAddr (m:=i) Z Z Z (by first|rfl|omega) (by omega)) ?_|(refine EL_call Z Z (entersF Z Z en53) (ce _ hX) (fun vC wC hC=>?_);obtain⟨rfl,xC⟩:=hC;replace hX:=hX.trans xC;replace hx:=hx.trans xC)|(refine EL_var Z Z Z Z Z Z Z Z Z Z (fun bN wN xN hbN rN=>?_);replace hX:=hX.trans xN;replace hx:=hx.trans xN)|(refine at_EL ?_;first|refine eN ?_|refine eO Z Z ?_|refine eV Z Z (zA Z Z) ?_|refine eV Z Z (zB Z Z) ?_|(refine at_bin ?_;first|refine eD Z Z (zL Z Z Z) (fun hh=>?_) (fun hh=>?_)|refine eD Z Z (zM Z Z Z) (fun hh=>?_) (fun hh=>?_)|refine eD Z Z (zO Z Z Z) (fun hh=>?_) (fun hh=>?_)|refine eV Z Z (zU Z Z Z (by omega) (by omega)) ?_)|(refine at_call ?_;first|refine eV Z Z (zK Z Z) ?_)|refine eV Z Z (zC Z Z Z) ?_|refine eV Z Z (zD Z Z Z) ?_|refine eV Z Z (zE Z Z) ?_|refine eV Z Z (zF Z Z Z) ?_|refine eV Z Z (zH Z Z) ?_)|(refine at_K ?_;first|refine K_then ?_|refine K_in ?_|refine K_then_ret ?_|refine K_then_exit ?_|refine K_in_exit ?_)|(refine at_E ?_;first|refine E_seq ?_|refine E_region ?_|refine E_cond_t Z ?_|refine E_cond_f Z ?_|refine E_block ?_|refine E_skip ?_|refine E_ret ?_|refine E_exit ?_)))
          all_goals (try (exfalso;omega))
          refine K_rnd (i+1) ⟨rfl,rfl,rfl,trivial⟩ ⟨by omega,hx,fun j hj=>?_⟩ (by omega)
          by_cases e:j=i
          · subst e;exact none_zero hxi hbx
          · exact hall j (by omega)
        | false=>
          rw [hbx] at ce
          (repeat' (first|refine eV Z Z (val_load Z Z Z (Row.cellAt (by assumption) (by rfl))) ?_|refine eV Z Z (val_load Z Z Z (by assumption)) ?_|refine eV Z Z (val_indexAddr (m:=i) Z Z Z (by first|rfl|omega) (by omega)) ?_|(refine EL_call Z Z (entersF Z Z en53) (ce _ hX) (fun vC wC hC=>?_);obtain⟨rfl,xC⟩:=hC;replace hX:=hX.trans xC;replace hx:=hx.trans xC)|(refine EL_var Z Z Z Z Z Z Z Z Z Z (fun bN wN xN hbN rN=>?_);replace hX:=hX.trans xN;replace hx:=hx.trans xN)|(refine at_EL ?_;first|refine eN ?_|refine eO Z Z ?_|refine eV Z Z (zA Z Z) ?_|refine eV Z Z (zB Z Z) ?_|(refine at_bin ?_;first|refine eD Z Z (zL Z Z Z) (fun hh=>?_) (fun hh=>?_)|refine eD Z Z (zM Z Z Z) (fun hh=>?_) (fun hh=>?_)|refine eD Z Z (zO Z Z Z) (fun hh=>?_) (fun hh=>?_))|(refine at_call ?_;first|refine eV Z Z (zK Z Z) ?_)|refine eV Z Z (zC Z Z Z) ?_|refine eV Z Z (zD Z Z Z) ?_|refine eV Z Z (zE Z Z) ?_|refine eV Z Z (zF Z Z Z) ?_|refine eV Z Z (zH Z Z) ?_)|(refine at_K ?_;first|refine K_then ?_|refine K_then_ret ?_|refine K_then_exit ?_|refine K_in_ret ?_|refine K_in_exit ?_)|(refine at_E ?_;first|refine E_seq ?_|refine E_region ?_|refine E_cond_t Z ?_|refine E_cond_f Z ?_|refine E_block ?_|refine E_skip ?_|refine E_ret ?_|refine E_exit ?_)))
          all_goals (try (exfalso;omega))
          have hf:firstE p.entries.length (noneAt lex p.entries)=9:=by rw [firstE_at hall hlt (by rw [none_nine hxi hbx];decide),none_nine hxi hbx]
          rw [hf,if_pos (by decide)]
          exact ret_1 Z Z ⟨rfl,hX⟩
      · have hf:firstE p.entries.length (noneAt lex p.entries)=0:=firstE_all (fun j hj=>hall j (by omega))
        rw [hf,if_neg (by simp)]
        (repeat' (first|refine eV Z Z (val_load Z Z Z (Row.cellAt (by assumption) (by rfl))) ?_|(refine EL_call Z Z (entersF Z Z en99) (refs99_any p.refs _ _ h1) (fun vC wC hC=>?_);obtain⟨rfl,xC⟩:=hC;replace hX:=hX.trans xC)|(refine at_EL ?_;first|refine eN ?_|refine eO Z Z ?_|refine eV Z Z (zA Z Z) ?_|refine eV Z Z (zB Z Z) ?_|(refine at_bin ?_;first|refine eD Z Z (zL Z Z Z) (fun hh=>?_) (fun hh=>?_)|refine eD Z Z (zM Z Z Z) (fun hh=>?_) (fun hh=>?_)|refine eD Z Z (zO Z Z Z) (fun hh=>?_) (fun hh=>?_))|(refine at_call ?_;first|refine eV Z Z (zK Z Z) ?_)|refine eV Z Z (zC Z Z Z) ?_|refine eV Z Z (zD Z Z Z) ?_|refine eV Z Z (zH Z Z) ?_)|(refine at_K ?_;first|refine K_then ?_|refine K_then_ret ?_|refine K_then_exit ?_|refine K_in_exit ?_)|(refine at_E ?_;first|refine E_seq ?_|refine E_region ?_|refine E_cond_t Z ?_|refine E_cond_f Z ?_|refine E_block ?_|refine E_skip ?_|refine E_ret ?_|refine E_exit ?_)))
        all_goals (try (exfalso;omega))
        · refine ret_1 Z Z ⟨?_,hX⟩
          unfold refsE;rw [if_pos (by omega)]
        · refine ret_1 Z Z ⟨?_,hX⟩
          unfold refsE;rw [if_pos (by omega)]
        · refine ret_1 Z Z ⟨?_,hX⟩
          unfold refsE;rw [if_neg (by omega),if_neg (by omega)]
    · rw [decide_eq_false hup] at cu
      have hEE:entriesE lex p.entries=10:=by unfold entriesE;rw [if_pos hup,up_val hup]
      rw [hEE,if_pos (by decide)]
      (repeat' (first|(refine EL_boxA Z Z Z Z (fun bX wX xX hbX rX=>?_);replace hX:=hX.trans xX;replace he:=he.ext xX)|refine eV Z Z (val_load Z Z Z (Row.cellAt (by assumption) (by rfl))) ?_|(refine EL_call Z Z (entersF Z Z en96) (cl _) (fun vC wC hC=>?_);obtain⟨rfl,xC⟩:=hC;replace hX:=hX.trans xC;replace rX:=rX.ext xC;replace he:=he.ext xC)|(refine EL_call Z Z (entersF Z Z en97) (ct _) (fun vC wC hC=>?_);obtain⟨rfl,xC⟩:=hC;replace hX:=hX.trans xC;replace rX:=rX.ext xC;replace he:=he.ext xC)|(refine EL_call Z Z (entersF Z Z en98) (cu _ he) (fun vC wC hC=>?_);obtain⟨rfl,xC⟩:=hC;replace hX:=hX.trans xC;replace rX:=rX.ext xC;replace he:=he.ext xC)|(refine at_EL ?_;first|refine eN ?_|refine eV Z Z (zA Z Z) ?_|refine eV Z Z (zB Z Z) ?_|(refine at_bin ?_;first|refine eD Z Z (zQ Z Z Z) (fun hh=>?_) (fun hh=>?_))|refine eV Z Z (zE Z Z) ?_|refine eV Z Z (zH Z Z) ?_)|(refine at_K ?_;first|refine K_then ?_|refine K_then_ret ?_)|(refine at_E ?_;first|refine E_seq ?_|refine E_region ?_|refine E_cond_t Z ?_|refine E_cond_f Z ?_|refine E_skip ?_|refine E_ret ?_)))
      all_goals (try (exfalso;omega))
      exact ret_1 Z Z ⟨rfl,hX⟩
  · rw [if_pos htx]
    have ct:=fun wz=>text97_val p.text wz
    obtain⟨tz,htz⟩:∃ z,txtF p.text=z:=⟨_,rfl⟩
    rw [htz] at ct htx ⊢
    (repeat' (first|(refine EL_boxA Z Z Z Z (fun bX wX xX hbX rX=>?_);replace hX:=hX.trans xX)|refine eV Z Z (val_load Z Z Z (Row.cellAt (by assumption) (by rfl))) ?_|(refine EL_call Z Z (entersF Z Z en96) (cl _) (fun vC wC hC=>?_);obtain⟨rfl,xC⟩:=hC;replace hX:=hX.trans xC;replace rX:=rX.ext xC)|(refine EL_call Z Z (entersF Z Z en97) (ct _) (fun vC wC hC=>?_);obtain⟨rfl,xC⟩:=hC;replace hX:=hX.trans xC;replace rX:=rX.ext xC)|(refine at_EL ?_;first|refine eN ?_|refine eV Z Z (zA Z Z) ?_|refine eV Z Z (zB Z Z) ?_|(refine at_bin ?_;first|refine eD Z Z (zQ Z Z Z) (fun hh=>?_) (fun hh=>?_))|refine eV Z Z (zE Z Z) ?_|refine eV Z Z (zH Z Z) ?_)|(refine at_K ?_;first|refine K_then ?_|refine K_then_ret ?_)|(refine at_E ?_;first|refine E_seq ?_|refine E_region ?_|refine E_cond_t Z ?_|refine E_cond_f Z ?_|refine E_skip ?_|refine E_ret ?_)))
    all_goals first
      | exact absurd (by assumption) htx
      | exact ret_1 Z Z ⟨rfl,hX⟩
      | (exfalso;omega)
end Go.Proofs.YtjicdgejhkgpgaaGreatDoor
namespace Go.En
open Go.RowKit
theorem EL_bytes {P:Program} {n:Nat} {Q:Post} {L:List (Nat × Value)} {w:World} {ops:List Oper} {o:Oper} {rest:List Oper} {c:Nat} {s d e:TypeId} {x:Operand} {l:List UInt8} [us:UT P s .string] [ud:UT P d (.slice e)] [ue:UT P e (.int .u8)]
    (hg:gst ops L o=some true) (hd:odst n o.dst=some c) (ho:o.op=.convert s d x) (hx:ev L x=some (str l))
    (k:∀ b cap w',Ext w w'→b=w.heap.size→l.length≤cap→At w' b 0 (l.map fun c=>Value.int .u8 c.toNat)→EL P n ops Q rest ((c,.slice (some ⟨b,0,none⟩) l.length cap)::L) w'):EL P n ops Q (o::rest) L w:=by
  have hsz:(ByteArray.mk l.toArray).size=l.length:=by simp [ByteArray.size]
  have h:=run_bytes_of_string (P:=P) w s d e ⟨l.toArray⟩ us.u ud.u ue.u
  rw [hsz] at h
  refine EL_valw hg hd (fun ρ ha=>?_) (k w.heap.size _ (w.drew.alloc (.cells (bytesRow ⟨l.toArray⟩ (grownCap w l.length 0 e)) e ((bytesRow ⟨l.toArray⟩ (grownCap w l.length 0 e)).size,(bytesRow ⟨l.toArray⟩ (grownCap w l.length 0 e)).size+1))) ((ext_drew w).trans (ext_alloc _ _)) Z (grownCap_ge w l.length 0 e) ?_)
  · have h0:=ha.ev (by rw [ho];simp [Op.operands]) hx
    simp only [execOp,ho,h0,h,Sem.run_bind,Result.andThen_ok]
    rfl
  · intro j v hv
    have hj:=(List.getElem?_eq_some_iff.1 hv).1
    rw [Nat.zero_add]
    have:=heap_alloc_new w.drew (.cells (bytesRow ⟨l.toArray⟩ (grownCap w l.length 0 e)) e ((bytesRow ⟨l.toArray⟩ (grownCap w l.length 0 e)).size,(bytesRow ⟨l.toArray⟩ (grownCap w l.length 0 e)).size+1))
    simp only [World.cell?]
    rw [show w.drew.heap.size=w.heap.size from rfl] at this
    rw [this]
    dsimp only
    unfold bytesRow
    rw [Array.getElem?_append_left (by simpa using hj)]
    simpa using hv
theorem EL_var1 {P:Program} {n:Nat} {ops rest:List Oper} {Q:Post} {L:List (Nat × Value)} {w:World} {o o1 o2:Oper} {d d1:Nat} {t:TypeId} {y y1:Operand} {v1:Value} {cs:List Value} {z:Value} {size bytes:Nat} [TI P t z size bytes] (hg:gst ops L o=some true) (ho:o.op=.alloc t) (hd:odst n o.dst=some d) (hz:Nat.beq z.cells.toList.length cs.length=true)
    (ho1:o1.op=.assign y1) (hd1:odst n o1.dst=some d1) (hg1:gst ops ((d,(.pointer (some ⟨w.heap.size,0,none⟩)))::L) o1=some true) (hy1:ev ((d,(.pointer (some ⟨w.heap.size,0,none⟩)))::L) y1=some v1)
    (ho2:o2.op=.store t (.tmp d) y) (hd2:o2.dst=none) (hg2:gst ops ((d1,v1)::(d,(.pointer (some ⟨w.heap.size,0,none⟩)))::L) o2=some true) (hne:Nat.beq d1 d=false) (hy:ev ((d1,v1)::(d,(.pointer (some ⟨w.heap.size,0,none⟩)))::L) y=some (.agg cs.toArray)) (hs:Nat.beq cs.length size=true) (h1:cs.all Value.oneCell'=true)
    (k:∀ b w',Ext w w'→b=w.heap.size→Row w' b t cs→EL P n ops Q rest ((d1,v1)::(d,(.pointer (some ⟨b,0,none⟩)))::L) w'):EL P n ops Q (o::o1::o2::rest) L w:=
  EL_alloc hg ho hd fun b w1 x1 hb r1=>by
    subst hb
    refine EL_val hg1 hd1 (val_assign ho1 hy1) ?_
    refine EL_storeP (off:=0) (cs:=cs) r1 x1 (Nat.le_refl _) hg2 hd2 ho2 (by simp only [ev,lk];rw [hne];simp) hy (by simp [Value.cells]) hs h1 (by have:=Nat.eq_of_beq_eq_true hz;omega) (fun w2 r2 x2 _=>?_)
    refine k _ w2 x2 rfl ?_
    have e:z.cells.toList.length=cs.length:=Nat.eq_of_beq_eq_true hz
    have:z.cells.toList.take 0++cs++z.cells.toList.drop (0+cs.length)=cs:=by rw [Nat.zero_add,← e];simp
    rw [this] at r2
    exact r2
end Go.En
