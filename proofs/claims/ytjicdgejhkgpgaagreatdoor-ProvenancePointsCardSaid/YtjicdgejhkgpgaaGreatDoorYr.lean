/-
  Walks: the program's search for analyses: after, key. Walks: the program's rules: in, fits, site.
-/
import Derived.Test.YtjicdgejhkgpgaaGreatDoorYq
import Derived.Test.YtjicdgejhkgpgaaGreatDoorYj
import Derived.Test.YtjicdgejhkgpgaaGreatDoorYg
set_option linter.all false
namespace Go.Proofs.YtjicdgejhkgpgaaGreatDoor
open Go.RowKit Go.En Go.Pv
def srC (g:Lg) (pv uv tv rv sv fv ev wv mv fnv:Value) (sh:Bool) (fin:Nat):List Value:=[pv,str g.oname,uv,tv,rv,int g.net.states,sv,fv,ev,wv,.bool sh,.int .u32 (fin:Int),mv,fnv]
theorem aft_succ {steps:List Stp} {S:Int→Bool} {c:Int} {i:Nat} {x:Stp} (h:steps[i]?=some x) (q:Int):aftB (steps.take (i+1)) S c q=(aftB (steps.take i) S c q||(S x.frm&&(c==0||x.cls==c)&&x.to==q)):=by
  obtain⟨h1,h2⟩:=List.getElem?_eq_some_iff.1 h
  unfold aftB
  rw [List.take_succ_eq_append_getElem h1,h2,List.any_append];simp
attribute [local irreducible] E EL K Val Enters Rt Calls bodyPost Code.wp RQ
set_option maxHeartbeats 4000000 in
set_option maxRecDepth 8000 in
theorem after140_any (g : Lg) (hok : NetOK g.net) (pv uv tv rv sv fv ev wv mv fnv : Value) (sh : Bool) (fin : Nat) (bS m : Nat) (S : Int → Bool) (hm : MaskIs m S) (c : Int) (hc : 1 ≤ c) (w : World) (rS : Row w bS 178 (srC g pv uv tv rv sv fv ev wv mv fnv sh fin)) (hs : Sl w sv g.net.steps) :
    Calls Tryz.prog 140 #[.pointer (some ⟨bS,0,none⟩),.int .u32 (m:Int),int c] w (Rt fun u w'=>(∃ m':Nat,u=.int .u32 (m':Int)∧MaskIs m' (aftB g.net.steps S c))∧Ext w w'):=by
  have hs0:=hs
  obtain⟨sa,sc,rfl,_,hsm,hsp⟩:=hs.sl
  unfold srC at rS
  refine calls_E (n:=40) (args:=[.pointer (some ⟨bS,0,none⟩),.int .u32 (m:Int),int c]) Tryz.func140 rfl Tryz.ntmps140 (by simp) ?_
  (repeat' (first|refine eV Z Z (val_load Z Z Z (Row.cellAt (by assumption) (by rfl))) ?_|(refine at_EL ?_;first|refine eN ?_|refine eV Z Z (zA Z Z) ?_|refine eV Z Z (zB Z Z) ?_|(refine at_call ?_;first|refine eV Z Z (zK Z Z) ?_)|refine eV Z Z (zG Z Z) ?_|refine eV Z Z (zH Z Z) ?_)|(refine at_K ?_;first|refine K_then ?_)|(refine at_E ?_;first|refine E_seq ?_|refine E_region ?_|refine E_block ?_)))
  refine E_loop (ι:=Nat × Nat) (fun z=>[(1,.int .u32 (m:Int)),(2,int c),(7,.int .u32 (z.2:Int)),(15,.slice sa g.net.steps.length sc),(16,int g.net.steps.length),(17,int z.1)])
    (fun z wr=>z.1≤g.net.steps.length∧Ext w wr∧MaskIs z.2 (aftB (g.net.steps.take z.1) S c)) (fun z=>g.net.steps.length-z.1) (0,0)
    ⟨rfl,rfl,rfl,rfl,rfl,rfl,trivial⟩ ⟨Nat.zero_le _,Ext.refl _,mask_eq mask_zero (fun q=>by simp [aftB])⟩ ?_
  rintro⟨i,mm⟩ wr ⟨hi,hx,hM⟩
  dsimp only at hi hx hM ⊢
  replace hs0:=hs0.ext hx
  by_cases hlt:i<g.net.steps.length
  · obtain⟨b,off,rfl⟩:=hsp (by omega)
    obtain⟨x,hxi⟩:∃ x,g.net.steps[i]?=some x:=⟨_,List.getElem?_eq_getElem hlt⟩
    have hat:=stp_elem hs0 hxi
    obtain⟨n1,n2,n3,n4,n5,n6⟩:=hok.steps x (List.mem_of_getElem? hxi)
    have nf:=hok.few
    obtain⟨kf,hkf⟩:∃ k:Nat,x.frm=(k:Int):=⟨x.frm.toNat,by omega⟩
    obtain⟨kt,hkt⟩:∃ k:Nat,x.to=(k:Int):=⟨x.to.toNat,by omega⟩
    have hsu:=fun q=>aft_succ (S:=S) (c:=c) hxi q
    rw [hkf,hkt] at hat
    simp only [hkf,hkt] at hsu
    have hc0:(c==0)=false:=by simp;omega
    have hbit:=mask_bit (q:=kf) hm
    have hml:=hm.lt
    have hsl:m >>> kf<4294967296:=Nat.lt_of_le_of_lt (Nat.shiftRight_le _ _) hml
    by_cases hcl:x.cls=c
    · have hcb:(x.cls==c)=true:=by simp [hcl]
      cases hS:S (kf:Int) with
      | true=>
        rw [hS,if_pos rfl] at hbit
        have hmor:=mask_or hM (t:=kt) (by omega)
        have hfin:MaskIs (mm ||| 2 ^ kt) (aftB (g.net.steps.take (i+1)) S c):=mask_eq hmor (fun q=>by
          rw [hsu,hS,hc0,hcb]
          simp only [Bool.false_or,Bool.true_and]
          congr 1
          rw [Bool.eq_iff_iff];simp;exact eq_comm)
        have hmm:=hM.lt
        have h2k:2 ^ kt<4294967296:=by
          have:2 ^ kt≤2 ^ 24:=Nat.pow_le_pow_right (by omega) (by omega)
          omega
        (repeat' (first|(refine EL_var Z Z Z Z Z Z Z Z Z Z (fun bN wN xN hbN rN=>?_);replace hx:=hx.trans xN)|refine eV Z Z (val_load Z Z Z (Row.cellAt (by assumption) (by rfl))) ?_|refine eV Z Z (val_loadA Z Z Z (by assumption) (by rfl)) ?_|refine eV Z Z (val_indexAddr (m:=i) Z Z Z (by first|rfl|omega) (by omega)) ?_|refine eV Z Z (val_shr32 (m:=m) (q:=kf) Z Z Z (by omega)) ?_|refine eV Z Z (val_and32r (a:=m >>> kf) (b:=1) Z Z Z hsl (by decide) hbit) ?_|refine eV Z Z (val_shl32 (q:=kt) Z Z Z (by omega)) ?_|refine eV Z Z (val_or32 (a:=mm) (b:=2 ^ kt) Z Z Z hmm h2k) ?_|(refine at_EL ?_;first|refine eN ?_|refine eO Z Z ?_|refine eV Z Z (zA Z Z) ?_|refine eV Z Z (zB Z Z) ?_|(refine at_bin ?_;first|refine eD Z Z (zL Z Z Z) (fun hh=>?_) (fun hh=>?_)|refine eD Z Z (zM Z Z Z) (fun hh=>?_) (fun hh=>?_)|refine eV Z Z (zU Z Z Z (by omega) (by omega)) ?_)|refine eV Z Z (zC Z Z Z) ?_|refine eV Z Z (zD Z Z Z) ?_|refine eV Z Z (zH Z Z) ?_)|(refine at_K ?_;first|refine K_then ?_|refine K_in ?_|refine K_then_exit ?_|refine K_in_exit ?_)|(refine at_E ?_;first|refine E_seq ?_|refine E_region ?_|refine E_cond_t Z ?_|refine E_cond_f Z ?_|refine E_block ?_|refine E_skip ?_|refine E_ret ?_|refine E_exit ?_)))
        all_goals (try (exfalso;omega))
        exact K_rnd (i+1,mm ||| 2 ^ kt) ⟨rfl,rfl,rfl,rfl,rfl,rfl,trivial⟩ ⟨by dsimp only;omega,hx,hfin⟩ (by dsimp only;omega)
      | false=>
        rw [hS,if_neg (by simp)] at hbit
        have hfin:MaskIs mm (aftB (g.net.steps.take (i+1)) S c):=mask_eq hM (fun q=>by rw [hsu,hS];simp)
        (repeat' (first|(refine EL_var Z Z Z Z Z Z Z Z Z Z (fun bN wN xN hbN rN=>?_);replace hx:=hx.trans xN)|refine eV Z Z (val_load Z Z Z (Row.cellAt (by assumption) (by rfl))) ?_|refine eV Z Z (val_loadA Z Z Z (by assumption) (by rfl)) ?_|refine eV Z Z (val_indexAddr (m:=i) Z Z Z (by first|rfl|omega) (by omega)) ?_|refine eV Z Z (val_shr32 (m:=m) (q:=kf) Z Z Z (by omega)) ?_|refine eV Z Z (val_and32r (a:=m >>> kf) (b:=1) Z Z Z hsl (by decide) hbit) ?_|(refine at_EL ?_;first|refine eN ?_|refine eO Z Z ?_|refine eV Z Z (zA Z Z) ?_|refine eV Z Z (zB Z Z) ?_|(refine at_bin ?_;first|refine eD Z Z (zL Z Z Z) (fun hh=>?_) (fun hh=>?_)|refine eD Z Z (zM Z Z Z) (fun hh=>?_) (fun hh=>?_)|refine eV Z Z (zU Z Z Z (by omega) (by omega)) ?_)|refine eV Z Z (zC Z Z Z) ?_|refine eV Z Z (zD Z Z Z) ?_|refine eV Z Z (zH Z Z) ?_)|(refine at_K ?_;first|refine K_then ?_|refine K_in ?_|refine K_then_exit ?_|refine K_in_exit ?_)|(refine at_E ?_;first|refine E_seq ?_|refine E_region ?_|refine E_cond_t Z ?_|refine E_cond_f Z ?_|refine E_block ?_|refine E_skip ?_|refine E_ret ?_|refine E_exit ?_)))
        all_goals (try (exfalso;omega))
        exact K_rnd (i+1,mm) ⟨rfl,rfl,rfl,rfl,rfl,rfl,trivial⟩ ⟨by dsimp only;omega,hx,hfin⟩ (by dsimp only;omega)
    · have hcb:(x.cls==c)=false:=by simp [hcl]
      have hfin:MaskIs mm (aftB (g.net.steps.take (i+1)) S c):=mask_eq hM (fun q=>by rw [hsu,hc0,hcb];simp)
      (repeat' (first|(refine EL_var Z Z Z Z Z Z Z Z Z Z (fun bN wN xN hbN rN=>?_);replace hx:=hx.trans xN)|refine eV Z Z (val_load Z Z Z (Row.cellAt (by assumption) (by rfl))) ?_|refine eV Z Z (val_loadA Z Z Z (by assumption) (by rfl)) ?_|refine eV Z Z (val_indexAddr (m:=i) Z Z Z (by first|rfl|omega) (by omega)) ?_|(refine at_EL ?_;first|refine eN ?_|refine eO Z Z ?_|refine eV Z Z (zA Z Z) ?_|refine eV Z Z (zB Z Z) ?_|(refine at_bin ?_;first|refine eD Z Z (zL Z Z Z) (fun hh=>?_) (fun hh=>?_)|refine eD Z Z (zM Z Z Z) (fun hh=>?_) (fun hh=>?_)|refine eV Z Z (zU Z Z Z (by omega) (by omega)) ?_)|refine eV Z Z (zD Z Z Z) ?_|refine eV Z Z (zH Z Z) ?_)|(refine at_K ?_;first|refine K_then ?_|refine K_in ?_|refine K_then_exit ?_|refine K_in_exit ?_)|(refine at_E ?_;first|refine E_seq ?_|refine E_region ?_|refine E_cond_t Z ?_|refine E_cond_f Z ?_|refine E_block ?_|refine E_skip ?_|refine E_ret ?_|refine E_exit ?_)))
      all_goals (try (exfalso;omega))
      exact K_rnd (i+1,mm) ⟨rfl,rfl,rfl,rfl,rfl,rfl,trivial⟩ ⟨by dsimp only;omega,hx,hfin⟩ (by dsimp only;omega)
  · obtain rfl:i=g.net.steps.length:=by omega
    rw [List.take_length] at hM
    (repeat' (first|(refine at_EL ?_;first|refine eN ?_|refine eV Z Z (zA Z Z) ?_|refine eV Z Z (zB Z Z) ?_|(refine at_bin ?_;first|refine eD Z Z (zL Z Z Z) (fun hh=>?_) (fun hh=>?_)))|(refine at_K ?_;first|refine K_then ?_|refine K_then_exit ?_|refine K_in_exit ?_)|(refine at_E ?_;first|refine E_seq ?_|refine E_region ?_|refine E_cond_t Z ?_|refine E_cond_f Z ?_|refine E_block ?_|refine E_skip ?_|refine E_ret ?_|refine E_exit ?_)))
    all_goals (try (exfalso;omega))
    exact ret_1 Z Z ⟨⟨_,rfl,hM⟩,hx⟩
def keyF (l:List Int):List UInt8:=l.map fun x=>UInt8.ofNat x.toNat
theorem keyF_inj:∀ {a b:List Int},(∀ x∈a,0≤x∧x<256)→(∀ x∈b,0≤x∧x<256)→keyF a=keyF b→a=b
  | [],[],_,_,_=>rfl
  | [],_::_,_,_,h=>by simp [keyF] at h
  | _::_,[],_,_,h=>by simp [keyF] at h
  | x :: r, y :: s, ha, hb, h => by
    simp only [keyF,List.map_cons,List.cons.injEq] at h
    have h1:=ha x List.mem_cons_self
    have h2:=hb y List.mem_cons_self
    have e:x.toNat=y.toNat:=by
      have:=congrArg UInt8.toNat h.1
      simp only [UInt8.toNat_ofNat'] at this
      omega
    rw [show x=y by omega,keyF_inj (fun z hz=>ha z (List.mem_cons_of_mem _ hz)) (fun z hz=>hb z (List.mem_cons_of_mem _ hz)) h.2]
theorem key_cells {l:List Int} (h:∀ x∈l,0≤x∧x<256):(l.map fun x=>Value.int .u8 x)=(keyF l).map fun b=>Value.int .u8 b.toNat:=by
  unfold keyF
  rw [List.map_map]
  refine List.map_congr_left fun x hx=>?_
  have:=h x hx
  simp only [Function.comp,UInt8.toNat_ofNat']
  congr 1
  omega
set_option maxHeartbeats 4000000 in
set_option maxRecDepth 8000 in
theorem key182_any (l : List Int) (hb : ∀ x ∈ l, 0 ≤ x ∧ x < 256) (hl : l.length ≤ 1000) (v : Value) (w : World) (hv : Sl w v l) : Calls Tryz.prog 182 #[v] w (Rt fun u w' => u = str (keyF l) ∧ Ext w w') := by
  have hv0:=hv
  obtain⟨a,cap,rfl,hc,hm,hp⟩:=hv.sl
  refine calls_E (n:=23) (args:=[.slice a l.length cap]) Tryz.func182 rfl Tryz.ntmps182 (by simp) ?_
  (repeat' (first|(refine EL_make0 (c:=l.length) Z Z Z Z Z (by omega) (by omega) (fun bM wM hbM oM xM=>?_))|(refine at_EL ?_;first|refine eN ?_|refine eV Z Z (zA Z Z) ?_|refine eV Z Z (zB Z Z) ?_|(refine at_call ?_;first|refine eV Z Z (zK Z Z) ?_))|(refine at_K ?_;first|refine K_then ?_)|(refine at_E ?_;first|refine E_seq ?_|refine E_region ?_|refine E_block ?_)))
  refine E_loop (ι:=Nat × Value) (fun z=>[(3,z.2),(9,.slice a l.length cap),(10,int l.length),(11,int z.1)])
    (fun z wr=>z.1≤l.length∧Ext w wr∧wr.ownsRow w.heap.size 5 1 z.2 z.1 ((l.take z.1).map fun x=>Value.int .u8 x)) (fun z=>l.length-z.1) (0,.slice (some ⟨bM,0,none⟩) 0 l.length)
    ⟨rfl,rfl,rfl,rfl,trivial⟩ ⟨Nat.zero_le _,xM,oM⟩ ?_
  rintro⟨i,ov⟩ wr ⟨hi,hx,hown⟩
  dsimp only at hi hx hown ⊢
  by_cases hlt:i<l.length
  · obtain⟨b,off,rfl⟩:=hp (by omega)
    obtain⟨x,hxi⟩:∃ x,l[i]?=some x:=⟨_,List.getElem?_eq_getElem hlt⟩
    have hcx:=(Go.Pv.int_elem (hv0.ext hx) hxi).one
    have hbx:=hb x (List.mem_of_getElem? hxi)
    have htk:(l.take (i+1)).map (fun x=>Value.int .u8 x)=(l.take i).map (fun x=>Value.int .u8 x)++[.int .u8 x]:=by
      obtain⟨h1,h2⟩:=List.getElem?_eq_some_iff.1 hxi
      rw [List.take_succ_eq_append_getElem h1,h2,List.map_append];rfl
    (repeat' (first|refine eV Z Z (val_load Z Z Z (by assumption)) ?_|refine eV Z Z (val_indexAddr (m:=i) Z Z Z (by first|rfl|omega) (by omega)) ?_|refine eV Z Z (val_conv_int (k':=.u8) Z Z (by rw [show IntKind.min .u8=0 from rfl];omega) (by rw [show IntKind.max .u8=255 from rfl];omega)) ?_|(refine EL_appO (news:=[.int .u8 x]) (own_ext hown xS) (hx.trans xS) (fun _=>⟨_,_,rfl,rS.at⟩) Z Z Z Z Z Z Z Z Z (by omega) (by omega) (fun vJ wJ oJ xJ kJ hJ=>?_))|(refine at_EL ?_;first|refine eN ?_|refine eV Z Z (zA Z Z) ?_|refine eV Z Z (zB Z Z) ?_|(refine at_bin ?_;first|refine eD Z Z (zL Z Z Z) (fun hh=>?_) (fun hh=>?_)|refine eV Z Z (zU Z Z Z (by omega) (by omega)) ?_)|refine eL Z Z Z Z Z Z Z Z (fun bS wS xS hbS rS=>?_))|(refine at_K ?_;first|refine K_then ?_|refine K_in ?_|refine K_then_exit ?_|refine K_in_exit ?_)|(refine at_E ?_;first|refine E_seq ?_|refine E_region ?_|refine E_cond_t Z ?_|refine E_cond_f Z ?_|refine E_block ?_|refine E_skip ?_|refine E_exit ?_)))
    all_goals (try (exfalso;omega))
    exact K_rnd (i+1,vJ) ⟨rfl,rfl,rfl,rfl,trivial⟩ ⟨by dsimp only;omega,xJ,by dsimp only;rw [htk];exact oJ⟩ (by dsimp only;omega)
  · obtain rfl:i=l.length:=by omega
    rw [List.take_length,key_cells hb] at hown
    rcases own_read hown with⟨rfl,h0,h1⟩|⟨b,c2,rfl,_,_,_,hat⟩
    · have hk:keyF l=[]:=by
        have:l=[]:=List.length_eq_zero_iff.1 h0
        rw [this];rfl
      rw [hk]
      (repeat' (first|refine eV Z Z (val_bytes_str_nil Z Z) ?_|(refine at_EL ?_;first|refine eN ?_|refine eV Z Z (zA Z Z) ?_|refine eV Z Z (zB Z Z) ?_|(refine at_bin ?_;first|refine eD Z Z (zL Z Z Z) (fun hh=>?_) (fun hh=>?_)))|(refine at_K ?_;first|refine K_then ?_|refine K_then_exit ?_|refine K_in_exit ?_)|(refine at_E ?_;first|refine E_seq ?_|refine E_region ?_|refine E_cond_t Z ?_|refine E_cond_f Z ?_|refine E_block ?_|refine E_skip ?_|refine E_ret ?_|refine E_exit ?_)))
      all_goals (try (exfalso;omega))
      exact ret_1 Z Z ⟨rfl,hx⟩
    · (repeat' (first|refine eV Z Z (val_bytes_str (l:=keyF l) Z Z (by simp [keyF]) hat) ?_|(refine at_EL ?_;first|refine eN ?_|refine eV Z Z (zA Z Z) ?_|refine eV Z Z (zB Z Z) ?_|(refine at_bin ?_;first|refine eD Z Z (zL Z Z Z) (fun hh=>?_) (fun hh=>?_)))|(refine at_K ?_;first|refine K_then ?_|refine K_then_exit ?_|refine K_in_exit ?_)|(refine at_E ?_;first|refine E_seq ?_|refine E_region ?_|refine E_cond_t Z ?_|refine E_cond_f Z ?_|refine E_block ?_|refine E_skip ?_|refine E_ret ?_|refine E_exit ?_)))
      all_goals (try (exfalso;omega))
      exact ret_1 Z Z ⟨rfl,hx⟩
end Go.Proofs.YtjicdgejhkgpgaaGreatDoor
namespace Go.Proofs.YtjicdgejhkgpgaaGreatDoor
open Go.RowKit Go.En Go.Pv
theorem SlG.mid {α:Type} [Rep α] {G:Nat→Prop} {w:World} {bl off n cap a b:Nat} {xs:List α} (h:SlG G w (.slice (some ⟨bl,off,none⟩) n cap) xs) (hab:a≤b) (hb:b≤xs.length) :
    SlG G w (.slice (some (if cap=a then ⟨bl,off,none⟩ else ⟨bl,off+a*Rep.sz α,none⟩)) (b-a) (cap-a)) ((xs.drop a).take (b-a)):=by
  have hn:n=xs.length:=by obtain⟨_,_,e,_,_,_⟩:=h.sl;cases e;rfl
  have h1:=SlG.drop h (k:=a) (by omega)
  have h2:=SlG.take h1 (k:=b-a) (by rw [List.length_drop];omega)
  by_cases hc:cap=a
  · rw [if_pos hc] at h2 ⊢;exact h2
  · rw [if_neg hc] at h2 ⊢
    simpa [addr_add] using h2
attribute [local irreducible] E EL K Val Enters Rt Calls bodyPost Code.wp RQ
set_option maxHeartbeats 4000000 in
set_option maxRecDepth 8000 in
theorem in245_any (segs:List Ph) (cs:List Cls) (k:Nat) (c:Cls) (hk:cs[k]?=some c) (seg:Int) (v cv:Value) (w:World) (hv:Sl w v segs) (hc:Sl w cv cs):Calls Tryz.prog 245 #[.agg #[v,cv],int k,int seg] w (Rt fun u w'=>u=.bool (inC bandI segs seg c)∧Ext w w'):=by
  have hc0:=hc
  obtain⟨ca,cc,rfl,_,hm,hp⟩:=hc.sl
  have hkl:=(List.getElem?_eq_some_iff.1 hk).1
  obtain⟨cb,co,rfl⟩:=hp (by omega)
  refine calls_E (n:=16) (args:=[.agg #[v,.slice (some ⟨cb,co,none⟩) cs.length cc],int k,int seg]) Tryz.func245 rfl Tryz.ntmps245 (by simp) ?_
  refine E_seq ?_
  refine E_region ?_
  refine EL_boxA Z Z Z Z (fun bX wX xX hbX rX=>?_)
  have hI:At wX bX (0+0) [v]:=At.sub (xs:=[]) (ys:=[v]) (zs:=[.slice (some ⟨cb,co,none⟩) cs.length cc]) rX.at
  have hat:=cls_elem (hc0.ext xX) hk
  (repeat' (first|refine yV Z Z (fun wq _ xq=>val_load Z Z Z ((Row.ext (by assumption) xq).cellAt (by rfl))) ?_|refine yV Z Z (fun wq _ xq=>val_loadA Z Z Z (At.ext (by assumption) xq) (by rfl)) ?_|refine yV Z Z (fun _ _ _=>val_indexAddr (m:=k) Z Z Z (by first|rfl|omega) (by omega)) ?_|refine RQ_call Z Z (fun _ _ _=>entersF Z Z en248) (fun wq xq=>in248_any segs v seg c wq (hv.ext (xX.trans xq))) ?_|(refine at_EL ?_;first|refine eN ?_|refine eV Z Z (zB Z Z) ?_)|(refine at_K ?_;first|refine K_then ?_)|(refine at_E ?_;first|refine E_seq ?_|refine E_ret ?_|refine E_dq mixedOk (by kernel_rfl) Z ?_)|(refine at_RQ ?_;first|refine yN Z (fun wq xq=>?_)|refine yV Z Z (fun _ _ _=>zA Z Z) ?_|refine yV Z Z (fun _ _ _=>zB Z Z) ?_|refine yV Z Z (fun _ _ _=>zH Z Z) ?_)))
  all_goals (try (exfalso;omega))
  exact ret_1 Z Z ⟨rfl,xX.trans xq⟩
set_option maxHeartbeats 4000000 in
set_option maxRecDepth 8000 in
theorem fits244_any (segs:List Ph) (cs:List Cls) (xs:List Int) (hl:xs.length=cs.length) (v cv xv:Value) (w:World) (hv:Sl w v segs) (gC:Sl w cv cs) (hx:Sl w xv xs):Calls Tryz.prog 244 #[.func (.func 245) #[] #[],.agg #[v,cv],xv] w (Rt fun u w'=>u=.bool (fitsB bandI segs cs xs)∧Ext w w'):=by
  have hy0:=hx
  obtain⟨xa,xc,rfl,_,hm,hp⟩:=hx.sl
  refine calls_E (n:=23) (args:=[.func (.func 245) #[] #[],.agg #[v,cv],.slice xa xs.length xc]) Tryz.func244 rfl Tryz.ntmps244 (by simp) ?_
  have hX:=Ext.refl w
  (repeat' (first|(refine EL_boxA Z Z Z Z (fun bX wX xX hbX rX=>?_);replace hX:=hX.trans xX;replace hy0:=hy0.ext xX;replace hv:=hv.ext xX;replace gC:=gC.ext xX)|(refine at_EL ?_;first|refine eN ?_|refine eV Z Z (zA Z Z) ?_|refine eV Z Z (zB Z Z) ?_|(refine at_call ?_;first|refine eV Z Z (zK Z Z) ?_))|(refine at_K ?_;first|refine K_then ?_)|(refine at_E ?_;first|refine E_seq ?_|refine E_region ?_|refine E_block ?_)))
  refine E_loop (ι:=Nat) (fun i=>[(0,.func (.func 245) #[] #[]),(4,.pointer (some ⟨bX,0,none⟩)),(9,.slice xa xs.length xc),(10,int xs.length),(11,int i)])
    (fun i wr=>i≤xs.length∧Ext wX wr∧∀(j:Nat) (c:Cls) (y:Int),j<i→cs[j]?=some c→xs[j]?=some y→inC bandI segs y c=true) (fun i=>xs.length-i) 0
    ⟨rfl,rfl,rfl,rfl,rfl,trivial⟩ ⟨Nat.zero_le _,Ext.refl _,fun _ _ _ h=>absurd h (by omega)⟩ ?_
  rintro i wr ⟨hi,hxr,hall⟩
  replace hX:=hX.trans hxr;replace hy0:=hy0.ext hxr;replace hv:=hv.ext hxr;replace gC:=gC.ext hxr;replace rX:=rX.ext hxr
  by_cases hlt:i<xs.length
  · obtain⟨b,off,rfl⟩:=hp (by omega)
    obtain⟨y,hyi⟩:∃ y,xs[i]?=some y:=⟨_,List.getElem?_eq_getElem hlt⟩
    obtain⟨c,hci⟩:∃ c,cs[i]?=some c:=⟨_,List.getElem?_eq_getElem (by omega)⟩
    have hcy:=(Go.Pv.int_elem hy0 hyi).one
    have ci:=in245_any segs cs i c hci y v cv wr hv gC
    cases hb:inC bandI segs y c with
    | true=>
      rw [hb] at ci
      (repeat' (first|refine eV Z Z (val_loadA Z Z Z (Row.at (by assumption)) (by rfl)) ?_|refine eV Z Z (val_load Z Z Z (by assumption)) ?_|refine eV Z Z (val_indexAddr (m:=i) Z Z Z (by first|rfl|omega) (by omega)) ?_|(refine EL_call Z Z (entersC (cap:=[]) Z Z Z en245) ci (fun vC wC hC=>?_);obtain⟨rfl,xC⟩:=hC;replace hX:=hX.trans xC;replace hxr:=hxr.trans xC)|(refine at_EL ?_;first|refine eN ?_|refine eV Z Z (zA Z Z) ?_|refine eV Z Z (zB Z Z) ?_|(refine at_bin ?_;first|refine eD Z Z (zL Z Z Z) (fun hh=>?_) (fun hh=>?_)|refine eV Z Z (zU Z Z Z (by omega) (by omega)) ?_)|refine eV Z Z (zE Z Z) ?_)|(refine at_K ?_;first|refine K_then ?_|refine K_in ?_|refine K_then_exit ?_|refine K_in_exit ?_)|(refine at_E ?_;first|refine E_seq ?_|refine E_region ?_|refine E_cond_t Z ?_|refine E_cond_f Z ?_|refine E_block ?_|refine E_skip ?_|refine E_ret ?_|refine E_exit ?_)))
      all_goals (try (exfalso;omega))
      refine K_rnd (i+1) ⟨rfl,rfl,rfl,rfl,rfl,trivial⟩ ⟨by omega,hxr,fun j c' y' hj hc' hy'=>?_⟩ (by omega)
      by_cases e:j=i
      · subst e;rw [hyi] at hy';rw [hci] at hc';cases hy';cases hc';exact hb
      · exact hall j c' y' (by omega) hc' hy'
    | false=>
      rw [hb] at ci
      rw [fits_no hci hyi hb]
      (repeat' (first|refine eV Z Z (val_loadA Z Z Z (Row.at (by assumption)) (by rfl)) ?_|refine eV Z Z (val_load Z Z Z (by assumption)) ?_|refine eV Z Z (val_indexAddr (m:=i) Z Z Z (by first|rfl|omega) (by omega)) ?_|(refine EL_call Z Z (entersC (cap:=[]) Z Z Z en245) ci (fun vC wC hC=>?_);obtain⟨rfl,xC⟩:=hC;replace hX:=hX.trans xC;replace hxr:=hxr.trans xC)|(refine at_EL ?_;first|refine eN ?_|refine eV Z Z (zA Z Z) ?_|refine eV Z Z (zB Z Z) ?_|(refine at_bin ?_;first|refine eD Z Z (zL Z Z Z) (fun hh=>?_) (fun hh=>?_))|refine eV Z Z (zE Z Z) ?_)|(refine at_K ?_;first|refine K_then ?_|refine K_then_ret ?_|refine K_then_exit ?_|refine K_in_ret ?_|refine K_in_exit ?_)|(refine at_E ?_;first|refine E_seq ?_|refine E_region ?_|refine E_cond_t Z ?_|refine E_cond_f Z ?_|refine E_block ?_|refine E_skip ?_|refine E_ret ?_|refine E_exit ?_)))
      all_goals (try (exfalso;omega))
      exact ret_1 Z Z ⟨rfl,hX⟩
  · rw [fits_yes (fun j c y hc' hy'=>hall j c y (by have:=(List.getElem?_eq_some_iff.1 hy').1;omega) hc' hy')]
    (repeat' (first|(refine at_EL ?_;first|refine eN ?_|refine eV Z Z (zA Z Z) ?_|refine eV Z Z (zB Z Z) ?_|(refine at_bin ?_;first|refine eD Z Z (zL Z Z Z) (fun hh=>?_) (fun hh=>?_)))|(refine at_K ?_;first|refine K_then ?_|refine K_then_exit ?_|refine K_in_exit ?_)|(refine at_E ?_;first|refine E_seq ?_|refine E_region ?_|refine E_cond_t Z ?_|refine E_cond_f Z ?_|refine E_block ?_|refine E_skip ?_|refine E_ret ?_|refine E_exit ?_)))
    all_goals (try (exfalso;omega))
    exact ret_1 Z Z ⟨rfl,hX⟩
end Go.Proofs.YtjicdgejhkgpgaaGreatDoor
