/-
  Walks of align: the reference's Of.
-/
import Derived.Test.YtnifmbbpfdghmaaGreatDoorVa
set_option linter.all false
namespace Go.Proofs.YtnifmbbpfdghmaaGreatDoor
open Go.RowKit Go.En
theorem insSort_snoc {α:Type} {lt:α→α→Bool} (l:List α) (x:α):insSort lt (l++[x])=insR lt (insSort lt l) x:=by
  unfold insSort
  rw [List.foldl_append];rfl
theorem ofTier_take {d:Dc} {k:Int} {i:Nat} {x:Note} (h:d.notes[i]?=some x):(d.notes.take (i+1)).filter (fun n=>decide (n.tier=k))=(d.notes.take i).filter (fun n=>decide (n.tier=k))++(if x.tier=k then [x] else []):=by
  obtain⟨hi,rfl⟩:=List.getElem?_eq_some_iff.1 h
  rw [List.take_succ_eq_append_getElem hi,List.filter_append]
  congr 1
  by_cases h1:d.notes[i].tier=k <;> simp [h1]
def accO (d:Dc) (k:Int) (i:Nat):List Note:=insSort (befF d (k.toNat+1)) ((d.notes.take i).filter fun n=>decide (n.tier=k))
theorem accO_len (d:Dc) (k:Int) (i:Nat):(accO d k i).length≤min i d.notes.length:=by
  unfold accO
  rw [(insSort_perm _).length_eq]
  refine Nat.le_trans (List.length_filter_le _ _) ?_
  rw [List.length_take];exact Nat.le_refl _
theorem accO_mem {d:Dc} {k:Int} {i:Nat} {n:Note} (h:n∈accO d k i):n∈d.notes∧n.tier=k:=by
  unfold accO at h
  rw [(insSort_perm _).mem_iff,List.mem_filter] at h
  exact⟨List.mem_of_mem_take h.1,by simpa using h.2⟩
theorem accO_yes {d:Dc} {k:Int} {i:Nat} {x:Note} (h:d.notes[i]?=some x) (hk:x.tier=k):accO d k (i+1)=insR (befF d (k.toNat+1)) (accO d k i) x:=by
  unfold accO
  rw [ofTier_take h,if_pos hk,insSort_snoc]
theorem accO_no {d:Dc} {k:Int} {i:Nat} {x:Note} (h:d.notes[i]?=some x) (hk:x.tier≠k):accO d k (i+1)=accO d k i:=by
  unfold accO
  rw [ofTier_take h,if_neg hk,List.append_nil]
theorem accO_all (d:Dc) (k:Int):accO d k d.notes.length=ofR d k:=by
  unfold accO ofR ofTier
  rw [List.take_length]
attribute [local irreducible] E EL K Val Enters Rt Calls bodyPost Code.wp RQ
set_option maxHeartbeats 8000000 in
set_option maxRecDepth 8000 in
theorem refof_any {d:Dc} (h:LightD d) (v:Value) (k:Int) (w:World) (hv:DcAt w v d):Calls Tryz.prog 113 #[v,int k] w (Rt fun u w'=>Ext w w'∧Sl w' u ((ofR d k).map (·.id))):=by
  have hnl:=h.nnotes
  have hd0:=hv
  obtain⟨sv,tv,nv,rfl,_,ht,hn⟩:=hv
  refine calls_E (n:=72) (args:=[.agg #[int d.rid,str d.rname,int d.len,int d.day,sv,tv,nv],int k]) Tryz.func113 rfl Tryz.ntmps113 (by simp) ?_
  have hn0:=hn
  obtain⟨a,cap,rfl,hc,hm,hp⟩:=hn.sl
  refine E_seq ?_
  refine E_region ?_
  refine EL_box Z Z Z Z (fun bB wB xB hbB rB0=>?_)
  have rB:Row wB bB 28 [int d.rid,str d.rname,int d.len,int d.day,sv,tv,.slice a d.notes.length cap]:=rB0
  clear rB0
  (repeat' (first|(refine at_EL ?_;first|refine eN ?_|refine eV Z Z (zB Z Z) ?_|refine eL Z Z Z Z Z Z Z Z (fun bS wS xS hbS rS=>?_))|(refine at_K ?_;first|refine K_then ?_)|(refine at_E ?_;first|refine E_seq ?_|refine E_region ?_|refine E_block ?_)))
  refine E_loop (ι:=Nat × Value) (fun x=>[(1,int k),(2,.pointer (some ⟨bB,0,none⟩)),(5,x.2),(6,int x.1)])
    (fun x wr=>x.1≤d.notes.length∧Ext wB wr∧Sl wr x.2 (accO d k x.1)) (fun x=>d.notes.length-x.1) (0,_)
    ⟨rfl,rfl,rfl,rfl,trivial⟩ ⟨Nat.zero_le _,xS,(row_Sl (cap:=0) (css:=[]) rS trivial (Nat.le_refl _) (by simp):Sl wS _ ([]:List Note))⟩ ?_
  rintro⟨i,vO⟩ wr ⟨hi,hx,hS⟩
  dsimp only at hi hx hS ⊢
  have rBr:=rB.ext hx
  have hol:=accO_len d k i
  by_cases hlt:i<d.notes.length
  · obtain⟨b,off,rfl⟩:=hp (by omega)
    obtain⟨q,hq⟩:∃ q,d.notes[i]?=some q:=⟨_,List.getElem?_eq_getElem hlt⟩
    have hat:=note_elem (hn0.ext (xB.trans hx)) hq
    (repeat' (first|refine eV Z Z (val_load Z Z Z (rBr.cellAt rfl)) ?_|refine eV Z Z (val_indexAddr (m:=i) Z Z Z Z (by omega)) ?_|refine eV Z Z (val_loadA Z Z Z hat rfl) ?_|(refine at_EL ?_;first|refine eN ?_|refine eV Z Z (zA Z Z) ?_|refine eV Z Z (zB Z Z) ?_|(refine at_bin ?_;first|refine eD Z Z (zL Z Z Z) (fun hh=>?_) (fun hh=>?_))|(refine at_call ?_;first|refine eV Z Z (zK Z Z) ?_)|refine eV Z Z (zH Z Z) ?_|refine eL Z Z Z Z Z Z Z Z (fun bS wS xS hbS rS=>?_))|(refine at_K ?_;first|refine K_then ?_|refine K_then_exit ?_|refine K_in_exit ?_)|(refine at_E ?_;first|refine E_seq ?_|refine E_region ?_|refine E_cond_t Z ?_|refine E_cond_f Z ?_|refine E_block ?_|refine E_skip ?_|refine E_exit ?_)))
    all_goals (first|(exfalso;omega)|skip)
    refine EL_alloc Z Z Z (fun b7 w7 x7 hb7 r7=>?_)
    refine EL_storeP (cs:=noteC q) r7 x7 (by omega) Z Z Z Z Z Z Z Z (Nat.le_refl _) (fun w8 r8' x8 k8=>?_)
    have r8:Row w8 b7 74 (noteC q):=r8'
    clear r8' r7 k8
    have rB8:=rBr.ext x8
    have hS8:=hS.ext x8
    have hx8:=hx.trans x8
    have hS0:=hS8
    obtain⟨aO,capO,rfl,hcO,hmO,hpO⟩:=hS8.sl
    by_cases hqk:q.tier=k
    · (repeat' ((fail_if_success (refine E_seq (x:=(Code.block 2 _)) ?_));first|refine eV Z Z (val_load Z Z Z (r8.cellAt rfl)) ?_|(refine at_EL ?_;first|refine eN ?_|refine eV Z Z (zA Z Z) ?_|refine eV Z Z (zB Z Z) ?_|(refine at_bin ?_;first|refine eD Z Z (zQ Z Z Z) (fun hh=>?_) (fun hh=>?_)|refine eV Z Z (zU Z Z Z (by omega) (by omega)) ?_)|(refine at_call ?_;first|refine eV Z Z (zK Z Z) ?_)|refine eV Z Z (zH Z Z) ?_)|(refine at_K ?_;first|refine K_then ?_|refine K_then_exit ?_|refine K_in_exit ?_)|(refine at_E ?_;first|refine E_seq ?_|refine E_region ?_|refine E_cond_t Z ?_|refine E_cond_f Z ?_|refine E_skip ?_|refine E_exit ?_)))
      all_goals (first|(exfalso;exact absurd hqk ‹_›)|skip)
      refine E_seq ?_
      refine E_block ?_
      refine E_loop (ι:=Nat) (fun at_=>[(1,int k),(2,.pointer (some ⟨bB,0,none⟩)),(5,.slice aO (accO d k i).length capO),(6,int i),(7,.pointer (some ⟨b7,0,none⟩)),(8,int at_)])
        (fun at_ wq=>at_≤(accO d k i).length∧Ext w8 wq∧∀ z∈(accO d k i).drop at_,befF d (k.toNat+1) q z=true) (fun at_=>at_) (accO d k i).length
        ⟨rfl,rfl,rfl,rfl,rfl,rfl,trivial⟩ ⟨Nat.le_refl _,Ext.refl _,by simp⟩ ?_
      rintro at_ wl ⟨hatl,hxq,hall⟩
      have rBq:=rB8.ext hxq
      have r7q:=r8.ext hxq
      have hSq:=hS0.ext hxq
      obtain⟨kk,t,hk1,htt,_⟩:=note_tier h (List.mem_of_getElem? hq)
      obtain rfl:k=(kk:Int):=by omega
      obtain⟨A,hA⟩:∃ A,A=accO d (kk:Int) i:=⟨_,rfl⟩
      have hAm:∀ z∈A,z∈d.notes∧z.tier=(kk:Int):=fun z hz=>accO_mem (hA▸hz)
      have hnext:=accO_yes hq hqk
      rw [← hA] at hatl hall hSq hnext hol hcO hmO hpO ⊢
      rw [Int.toNat_natCast] at hall hnext
      by_cases hbt:∃ z,0<at_∧A[at_-1]?=some z∧befF d (kk+1) q z=true
      · obtain⟨z,hat0,hz,hbz⟩:=hbt
        obtain⟨bo,offo,rfl⟩:=hpO (by omega)
        have atz:=note_elem hSq hz
        have cb:=fun wz (xz:Ext wl wz)=>before_any h _ kk (kk+1) t q z wz (hd0.ext (xB.trans (hx8.trans (hxq.trans xz)))) htt (by omega) (List.mem_of_getElem? hq) (hAm z (List.mem_of_getElem? hz)).1 hqk (hAm z (List.mem_of_getElem? hz)).2
        rw [hbz] at cb
        refine E_seq ?_
        refine E_seq ?_
        refine E_dq mixedOk (by kernel_rfl) Z ?_
        (repeat' (first|refine yV Z Z (fun wz _ xz=>val_loadA Z Z Z (rBq.ext xz).at rfl) ?_|refine yV Z Z (fun wz _ xz=>val_loadA Z Z Z (r7q.ext xz).at rfl) ?_|refine yV Z Z (fun _ _ _=>val_indexAddr (m:=at_-1) Z Z Z (by omega) (by omega)) ?_|refine yV Z Z (fun wz _ xz=>val_loadA Z Z Z (atz.ext xz) Z) ?_|refine RQ_call Z Z (fun _ _ _=>entersF Z Z en149) (fun wz xz=>cb wz xz) ?_|(refine at_EL ?_;first|refine eN ?_|refine eV Z Z (zA Z Z) ?_|refine eV Z Z (zB Z Z) ?_|(refine at_bin ?_;first|refine eV Z Z (zV Z Z Z (by omega) (by omega)) ?_))|(refine at_K ?_;first|refine K_then ?_|refine K_in ?_|refine K_then_exit ?_|refine K_in_exit ?_)|(refine at_E ?_;first|refine E_region ?_|refine E_cond_t Z ?_|refine E_cond_f Z ?_|refine E_block ?_|refine E_skip ?_|refine E_exit ?_)|(refine at_RQ ?_;first|refine yN Z (fun wq xq=>?_)|refine yO Z Z ?_|refine yV Z Z (fun _ _ _=>zA Z Z) ?_|(refine at_binR ?_;first|refine yD Z Z (fun _ _ _=>zO Z Z Z) (fun hh=>?_) (fun hh=>?_)|refine yV Z Z (fun _ _ _=>zV Z Z Z (by omega) (by omega)) ?_)|refine yV Z Z (fun _ _ _=>zC Z Z Z) ?_|refine yV Z Z (fun _ _ _=>zD Z Z Z) ?_)))
        all_goals (first|(exfalso;omega)|skip)
        refine K_rnd (at_-1) ⟨rfl,rfl,rfl,rfl,rfl,show some (int ((at_:Int)-1))=some (int ((at_-1:Nat):Int)) by rw [show((at_-1:Nat):Int)=(at_:Int)-1 by omega],trivial⟩ ⟨by omega,hxq.trans xq,fun z' hz'=>?_⟩ (by omega)
        have hdz:A.drop (at_-1)=z::A.drop at_:=by
          obtain⟨h1,rfl⟩:=List.getElem?_eq_some_iff.1 hz
          rw [List.drop_eq_getElem_cons h1,show at_-1+1=at_ by omega]
        rw [hdz] at hz'
        rw [Int.toNat_natCast]
        rcases List.mem_cons.1 hz' with rfl|hz'
        · exact hbz
        · exact hall z' hz'
      · have hins:A.take at_++q::A.drop at_=accO d (kk:Int) (i+1):=by
          rw [hnext]
          refine(insR_at (List.take_append_drop at_ A).symm hall (fun q' z' e=>?_)).symm
          have hl:(A.take at_).length=at_:=by rw [List.length_take];omega
          have hq':q'.length+1=at_:=by rw [← hl,e];simp
          have hz':A[at_-1]?=some z':=by
            have h1:(A.take at_)[at_-1]?=some z':=by rw [e,List.getElem?_append_right (by omega),show at_-1-q'.length=0 by omega];rfl
            rwa [List.getElem?_take_of_lt (by omega)] at h1
          cases hb:befF d (kk+1) q z' with
          | false=>rfl
          | true=>exact absurd ⟨z',by omega,hz',hb⟩ hbt
        refine E_seq ?_
        refine E_seq ?_
        refine E_dq mixedOk (by kernel_rfl) Z ?_
        by_cases hat0:0<at_
        · obtain⟨z,hz⟩:∃ z,A[at_-1]?=some z:=⟨_,List.getElem?_eq_getElem (by omega)⟩
          have hbz:befF d (kk+1) q z=false:=by
            cases hb:befF d (kk+1) q z with
            | false=>rfl
            | true=>exact absurd ⟨z,hat0,hz,hb⟩ hbt
          obtain⟨bo,offo,rfl⟩:=hpO (by omega)
          have atz:=note_elem hSq hz
          have cb:=fun wz (xz:Ext wl wz)=>before_any h _ kk (kk+1) t q z wz (hd0.ext (xB.trans (hx8.trans (hxq.trans xz)))) htt (by omega) (List.mem_of_getElem? hq) (hAm z (List.mem_of_getElem? hz)).1 hqk (hAm z (List.mem_of_getElem? hz)).2
          rw [hbz] at cb
          (repeat' (first|refine yV Z Z (fun wz _ xz=>val_loadA Z Z Z (rBq.ext xz).at rfl) ?_|refine yV Z Z (fun wz _ xz=>val_loadA Z Z Z (r7q.ext xz).at rfl) ?_|refine yV Z Z (fun _ _ _=>val_indexAddr (m:=at_-1) Z Z Z (by omega) (by omega)) ?_|refine yV Z Z (fun wz _ xz=>val_loadA Z Z Z (atz.ext xz) Z) ?_|refine RQ_call Z Z (fun _ _ _=>entersF Z Z en149) (fun wz xz=>cb wz xz) ?_|(refine at_EL ?_;first|refine eN ?_)|(refine at_K ?_;first|refine K_then ?_|refine K_then_exit ?_|refine K_in_exit ?_)|(refine at_E ?_;first|refine E_cond_f Z ?_|refine E_exit ?_)|(refine at_RQ ?_;first|refine yN Z (fun wq xq=>?_)|refine yO Z Z ?_|refine yV Z Z (fun _ _ _=>zA Z Z) ?_|(refine at_binR ?_;first|refine yD Z Z (fun _ _ _=>zO Z Z Z) (fun hh=>?_) (fun hh=>?_)|refine yV Z Z (fun _ _ _=>zV Z Z Z (by omega) (by omega)) ?_)|refine yV Z Z (fun _ _ _=>zC Z Z Z) ?_|refine yV Z Z (fun _ _ _=>zD Z Z Z) ?_)))
          all_goals (first|(exfalso;omega)|skip)
          refine E.sub (M:=(5,.slice (some ⟨bo,offo,none⟩) A.length capO)::[(1,int kk),(2,.pointer (some ⟨bB,0,none⟩)),(6,int i),(7,.pointer (some ⟨b7,0,none⟩)),(8,int at_)]) ⟨rfl,rfl,rfl,rfl,rfl,rfl,trivial⟩ ?_
          have hSy:=hSq.ext xq
          have r7y:=r7q.ext xq
          have hXy:=hx8.trans (hxq.trans xq)
          clear hat0 hz hbz atz cb hSq hS hS0 hp hpO rBq r7q rB8 hbt hall
          generalize (some (⟨bo,offo,none⟩:Addr))=aO at hSy ⊢
          have htl:(A.take at_).length=at_:=by rw [List.length_take];omega
          have hdl:(A.drop at_).length=A.length-at_:=List.length_drop
          have hStk:=hSy.take hatl
          have hSdr:=hSy.drop hatl
          refine E_phi (PhI wq [(1,int kk),(2,.pointer (some ⟨bB,0,none⟩)),(6,int i),(7,.pointer (some ⟨b7,0,none⟩)),(8,int at_)]
            [(1,45,.slice aO A.length capO),(2,46,int at_),(3,47,.slice aO at_ capO),(5,49,.agg (noteC q).toArray),(8,52,.slice aO A.length capO),(9,53,int at_),(10,54,.slice (if capO=at_ then aO else aO.map (·.add (at_*7))) (A.length-at_) (capO-at_))]
            (.slice aO A.length capO) (A.take at_) (A.drop at_) q) mixedOk (by kernel_rfl) rfl rfl ?_ ?_ ?_
          · intro δ hδ
            exact⟨ext_drew _,fun s u hs=>hδ s u (lk_cons hs rfl),fun _=>hδ 5 _ rfl,fun _ _ h=>h.elim,fun h=>h.elim,fun h=>h.elim,fun h=>h.elim,fun h=>h.elim,fun h=>h.elim,fun h=>h.elim,fun h=>h.elim,fun h=>h.elim⟩
          · intro C δ w1 n1 o ho hi1 hr hnr I
            have hn1:n1<13:=(List.getElem?_eq_some_iff.1 ho).1
            have q1:C 1→δ 45=.slice aO A.length capO:=I.qs (1,45,_) (by simp)
            have q2:C 2→δ 46=int at_:=I.qs (2,46,_) (by simp)
            have q3:C 3→δ 47=.slice aO at_ capO:=I.qs (3,47,_) (by simp)
            have q5:C 5→δ 49=.agg (noteC q).toArray:=I.qs (5,49,_) (by simp)
            have q8:C 8→δ 52=.slice aO A.length capO:=I.qs (8,52,_) (by simp)
            have q9:C 9→δ 53=int at_:=I.qs (9,53,_) (by simp)
            have q10:C 10→δ 54=.slice (if capO=at_ then aO else aO.map (·.add (at_*7))) (A.length-at_) (capO-at_):=I.qs (10,54,_) (by simp)
            rcases n1 with _|_|_|_|_|_|_|_|_|_|_|_|_|n1
            · obtain rfl:=Option.some.inj ho
              refine⟨[],_,_,lk0,stepLit (vs:=[]) (cs:=[]) rfl rfl rfl rfl rfl rfl,fun C' hC'=>?_⟩
              exact I.s0 hC' (hnr 4 (by kernel_rfl)) (hnr 7 (by kernel_rfl)) (hnr 11 (by kernel_rfl)) (hnr 12 (by kernel_rfl)) (ext_alloc _ _) (own_row (n:=0) (size:=7) (row_alloc _ _ _) rfl I.ext.size (by omega)) ⟨_,rfl,Nat.le_refl _⟩ rfl (by simp)
            · obtain rfl:=Option.some.inj ho
              exact⟨[(5,.slice aO A.length capO)],.slice aO A.length capO,w1,lk1 (I.s5 (hnr 12 (by kernel_rfl))),stepV (zA Z Z),fun C' hC'=>I.quiet hC' (by decide) (by decide) Z (by simp) (by simp)⟩
            · obtain rfl:=Option.some.inj ho
              exact⟨[(8,int at_)],int at_,w1,lk1 (I.bs 8 _ rfl),stepV (zA Z Z),fun C' hC'=>I.quiet hC' (by decide) (by decide) Z (by simp) (by simp)⟩
            · obtain rfl:=Option.some.inj ho
              exact⟨[(45,.slice aO A.length capO),(46,int at_)],.slice aO at_ capO,w1,lk2 (q1 (hr 1 (by kernel_rfl))) (q2 (hr 2 (by kernel_rfl))),stepV (val_slice_h Z Z Z Z (by omega)),fun C' hC'=>I.quiet hC' (by decide) (by decide) Z (by simp) (by simp)⟩
            · obtain rfl:=Option.some.inj ho
              have h4:=hi1
              have h0:=hr 0 (by kernel_rfl)
              have own:=I.a0 h0 h4
              obtain⟨v',w',hrun,ho',hx',hk',hb'⟩:=app_exO (P:=Tryz.prog) 26 26 capO (a:=aO) (q:=at_) (news:=((A.take at_).map noteC).flatten) own I.ext (fun h=>sl_notes (hStk.ext I.ext) h) (by rw [notes_flat,htl]) (notes_ones _) rfl rfl (by omega) (by omega)
              refine⟨[(44,δ 44),(47,.slice aO at_ capO)],v',w',lk2 rfl (q3 (hr 3 (by kernel_rfl))),.inl (step_app rfl rfl rfl hrun),fun C' hC'=>?_⟩
              exact I.s4 hC' h0 h4 (hnr 7 (by kernel_rfl)) (hnr 11 (by kernel_rfl)) (hnr 12 (by kernel_rfl)) hx' (by rw [htl];simpa using ho') hk' hb' rfl (by simp)
            · obtain rfl:=Option.some.inj ho
              exact⟨[(7,.pointer (some ⟨b7,0,none⟩))],.agg (noteC q).toArray,w1,lk1 (I.bs 7 _ rfl),stepV (val_loadA Z Z Z (r7y.ext I.ext).at rfl),fun C' hC'=>I.quiet hC' (by decide) (by decide) Z (by simp) (by simp)⟩
            · obtain rfl:=Option.some.inj ho
              refine⟨[(49,.agg (noteC q).toArray)],_,_,lk1 (q5 (hr 5 (by kernel_rfl))),stepLit (vs:=[.agg (noteC q).toArray]) (cs:=noteC q) rfl rfl rfl rfl rfl rfl,fun C' hC'=>?_⟩
              exact I.s6 hC' (hnr 7 (by kernel_rfl)) (hnr 11 (by kernel_rfl)) (hnr 12 (by kernel_rfl)) (ext_alloc _ _) rfl (row_alloc _ _ _) (Nat.le_refl _) rfl (by simp)
            · obtain rfl:=Option.some.inj ho
              have h4:=hr 4 (by kernel_rfl)
              have own:=I.a4 h4 hi1
              obtain⟨b6,e6,r6⟩:=I.a6 (hr 6 (by kernel_rfl)) hi1
              obtain⟨v',w',hrun,ho',hx',hk',hb'⟩:=app_exO (P:=Tryz.prog) 26 26 1 (a:=some ⟨b6,0,none⟩) (q:=1) (news:=noteC q) own I.ext (fun _=>⟨b6,0,rfl,r6.at⟩) rfl rfl rfl rfl (by omega) (by omega)
              refine⟨[(48,δ 48),(50,.slice (some ⟨b6,0,none⟩) 1 1)],v',w',lk2 rfl e6,.inl (step_app rfl rfl rfl hrun),fun C' hC'=>?_⟩
              exact I.s7 hC' h4 (hnr 11 (by kernel_rfl)) (hnr 12 (by kernel_rfl)) hx' ho' rfl (by simp)
            · obtain rfl:=Option.some.inj ho
              exact⟨[(5,.slice aO A.length capO)],.slice aO A.length capO,w1,lk1 (I.s5 (hnr 12 (by kernel_rfl))),stepV (zA Z Z),fun C' hC'=>I.quiet hC' (by decide) (by decide) Z (by simp) (by simp)⟩
            · obtain rfl:=Option.some.inj ho
              exact⟨[(8,int at_)],int at_,w1,lk1 (I.bs 8 _ rfl),stepV (zA Z Z),fun C' hC'=>I.quiet hC' (by decide) (by decide) Z (by simp) (by simp)⟩
            · obtain rfl:=Option.some.inj ho
              exact⟨[(52,.slice aO A.length capO),(53,int at_)],.slice (if capO=at_ then aO else aO.map (·.add (at_*7))) (A.length-at_) (capO-at_),w1,lk2 (q8 (hr 8 (by kernel_rfl))) (q9 (hr 9 (by kernel_rfl))),stepV (val_slice_l Z Z Z Z hatl),fun C' hC'=>I.quiet hC' (by decide) (by decide) Z (by simp) (by simp)⟩
            · obtain rfl:=Option.some.inj ho
              have h7:=hr 7 (by kernel_rfl)
              have own:=I.a7 h7 hi1
              obtain⟨v',w',hrun,ho',hx',hk',hb'⟩:=app_exO (P:=Tryz.prog) 26 26 (capO-at_) (a:=if capO=at_ then aO else aO.map (·.add (at_*7))) (q:=A.length-at_) (news:=((A.drop at_).map noteC).flatten) own I.ext (fun h=>sl_notes (hSdr.ext I.ext) h) (by rw [notes_flat,hdl]) (notes_ones _) rfl rfl (by omega) (by omega)
              refine⟨[(51,δ 51),(54,.slice (if capO=at_ then aO else aO.map (·.add (at_*7))) (A.length-at_) (capO-at_))],v',w',lk2 rfl (q10 (hr 10 (by kernel_rfl))),.inl (step_app rfl rfl rfl hrun),fun C' hC'=>?_⟩
              exact I.s11 hC' (hr 4 (by kernel_rfl)) h7 (hnr 12 (by kernel_rfl)) hx' (by rw [hdl];exact ho') rfl (by simp)
            · obtain rfl:=Option.some.inj ho
              exact⟨[(55,δ 55)],δ 55,w1,lk1 rfl,stepV (zB Z Z),fun C' hC'=>I.s12 hC' (hr 4 (by kernel_rfl)) (hr 7 (by kernel_rfl)) (hr 11 (by kernel_rfl)) Z (by simp)⟩
            · omega
          · intro C δ w1 hall2 I
            refine⟨[(1,int kk),(2,.pointer (some ⟨bB,0,none⟩)),(5,δ 5),(6,int i)],?_,?_⟩
            · refine frame_look fun x hx=>?_
              simp only [List.mem_cons,List.not_mem_nil,or_false] at hx
              rcases hx with rfl|rfl|rfl|rfl
              · exact⟨by dsimp only;omega,I.bs 1 _ rfl⟩
              · exact⟨by dsimp only;omega,I.bs 2 _ rfl⟩
              · exact⟨by dsimp only;omega,rfl⟩
              · exact⟨by dsimp only;omega,I.bs 6 _ rfl⟩
            · have own:=I.a11 (hall2 11 (by decide))
              rw [← I.a12 (hall2 12 (by decide))] at own
              (repeat' (first|(refine at_EL ?_;first|refine eN ?_|refine eV Z Z (zA Z Z) ?_|refine eV Z Z (zB Z Z) ?_|(refine at_bin ?_;first|refine eV Z Z (zU Z Z Z (by omega) (by omega)) ?_))|(refine at_K ?_;first|refine K_then ?_|refine K_in ?_)|(refine at_E ?_;first|refine E_region ?_)))
              refine K_rnd (i+1,δ 5) ⟨rfl,rfl,rfl,rfl,trivial⟩ ⟨by dsimp only;omega,hXy.trans I.ext,?_⟩ (by dsimp only;omega)
              dsimp only
              rw [← hins]
              refine own_Sl (css:=(A.take at_++q::A.drop at_).map noteC) (B:=wq.heap.size) (e:=74) (n:=(A.take at_).length+1+(A.drop at_).length) ?_ (notes_ats _ _) (by simp;omega) (by simp;omega)
              rw [List.map_append,List.flatten_append,List.map_cons,List.flatten_cons,← List.append_assoc]
              exact own
        · (repeat' (first|(refine at_EL ?_;first|refine eN ?_)|(refine at_K ?_;first|refine K_then ?_|refine K_then_exit ?_|refine K_in_exit ?_)|(refine at_E ?_;first|refine E_cond_f Z ?_|refine E_exit ?_)|(refine at_RQ ?_;first|refine yN Z (fun wq xq=>?_)|refine yO Z Z ?_|refine yV Z Z (fun _ _ _=>zA Z Z) ?_|(refine at_binR ?_;first|refine yD Z Z (fun _ _ _=>zO Z Z Z) (fun hh=>?_) (fun hh=>?_))|refine yV Z Z (fun _ _ _=>zD Z Z Z) ?_)))
          all_goals (first|(exfalso;omega)|skip)
          refine E.sub (M:=(5,.slice aO A.length capO)::[(1,int kk),(2,.pointer (some ⟨bB,0,none⟩)),(6,int i),(7,.pointer (some ⟨b7,0,none⟩)),(8,int at_)]) ⟨rfl,rfl,rfl,rfl,rfl,rfl,trivial⟩ ?_
          have hSy:=hSq.ext xq
          have r7y:=r7q.ext xq
          have hXy:=hx8.trans (hxq.trans xq)
          clear hat0 hSq hS hS0 hp hpO rBq r7q rB8 hbt hall
          have htl:(A.take at_).length=at_:=by rw [List.length_take];omega
          have hdl:(A.drop at_).length=A.length-at_:=List.length_drop
          have hStk:=hSy.take hatl
          have hSdr:=hSy.drop hatl
          refine E_phi (PhI wq [(1,int kk),(2,.pointer (some ⟨bB,0,none⟩)),(6,int i),(7,.pointer (some ⟨b7,0,none⟩)),(8,int at_)]
            [(1,45,.slice aO A.length capO),(2,46,int at_),(3,47,.slice aO at_ capO),(5,49,.agg (noteC q).toArray),(8,52,.slice aO A.length capO),(9,53,int at_),(10,54,.slice (if capO=at_ then aO else aO.map (·.add (at_*7))) (A.length-at_) (capO-at_))]
            (.slice aO A.length capO) (A.take at_) (A.drop at_) q) mixedOk (by kernel_rfl) rfl rfl ?_ ?_ ?_
          · intro δ hδ
            exact⟨ext_drew _,fun s u hs=>hδ s u (lk_cons hs rfl),fun _=>hδ 5 _ rfl,fun _ _ h=>h.elim,fun h=>h.elim,fun h=>h.elim,fun h=>h.elim,fun h=>h.elim,fun h=>h.elim,fun h=>h.elim,fun h=>h.elim,fun h=>h.elim⟩
          · intro C δ w1 n1 o ho hi1 hr hnr I
            have hn1:n1<13:=(List.getElem?_eq_some_iff.1 ho).1
            have q1:C 1→δ 45=.slice aO A.length capO:=I.qs (1,45,_) (by simp)
            have q2:C 2→δ 46=int at_:=I.qs (2,46,_) (by simp)
            have q3:C 3→δ 47=.slice aO at_ capO:=I.qs (3,47,_) (by simp)
            have q5:C 5→δ 49=.agg (noteC q).toArray:=I.qs (5,49,_) (by simp)
            have q8:C 8→δ 52=.slice aO A.length capO:=I.qs (8,52,_) (by simp)
            have q9:C 9→δ 53=int at_:=I.qs (9,53,_) (by simp)
            have q10:C 10→δ 54=.slice (if capO=at_ then aO else aO.map (·.add (at_*7))) (A.length-at_) (capO-at_):=I.qs (10,54,_) (by simp)
            rcases n1 with _|_|_|_|_|_|_|_|_|_|_|_|_|n1
            · obtain rfl:=Option.some.inj ho
              refine⟨[],_,_,lk0,stepLit (vs:=[]) (cs:=[]) rfl rfl rfl rfl rfl rfl,fun C' hC'=>?_⟩
              exact I.s0 hC' (hnr 4 (by kernel_rfl)) (hnr 7 (by kernel_rfl)) (hnr 11 (by kernel_rfl)) (hnr 12 (by kernel_rfl)) (ext_alloc _ _) (own_row (n:=0) (size:=7) (row_alloc _ _ _) rfl I.ext.size (by omega)) ⟨_,rfl,Nat.le_refl _⟩ rfl (by simp)
            · obtain rfl:=Option.some.inj ho
              exact⟨[(5,.slice aO A.length capO)],.slice aO A.length capO,w1,lk1 (I.s5 (hnr 12 (by kernel_rfl))),stepV (zA Z Z),fun C' hC'=>I.quiet hC' (by decide) (by decide) Z (by simp) (by simp)⟩
            · obtain rfl:=Option.some.inj ho
              exact⟨[(8,int at_)],int at_,w1,lk1 (I.bs 8 _ rfl),stepV (zA Z Z),fun C' hC'=>I.quiet hC' (by decide) (by decide) Z (by simp) (by simp)⟩
            · obtain rfl:=Option.some.inj ho
              exact⟨[(45,.slice aO A.length capO),(46,int at_)],.slice aO at_ capO,w1,lk2 (q1 (hr 1 (by kernel_rfl))) (q2 (hr 2 (by kernel_rfl))),stepV (val_slice_h Z Z Z Z (by omega)),fun C' hC'=>I.quiet hC' (by decide) (by decide) Z (by simp) (by simp)⟩
            · obtain rfl:=Option.some.inj ho
              have h4:=hi1
              have h0:=hr 0 (by kernel_rfl)
              have own:=I.a0 h0 h4
              obtain⟨v',w',hrun,ho',hx',hk',hb'⟩:=app_exO (P:=Tryz.prog) 26 26 capO (a:=aO) (q:=at_) (news:=((A.take at_).map noteC).flatten) own I.ext (fun h=>sl_notes (hStk.ext I.ext) h) (by rw [notes_flat,htl]) (notes_ones _) rfl rfl (by omega) (by omega)
              refine⟨[(44,δ 44),(47,.slice aO at_ capO)],v',w',lk2 rfl (q3 (hr 3 (by kernel_rfl))),.inl (step_app rfl rfl rfl hrun),fun C' hC'=>?_⟩
              exact I.s4 hC' h0 h4 (hnr 7 (by kernel_rfl)) (hnr 11 (by kernel_rfl)) (hnr 12 (by kernel_rfl)) hx' (by rw [htl];simpa using ho') hk' hb' rfl (by simp)
            · obtain rfl:=Option.some.inj ho
              exact⟨[(7,.pointer (some ⟨b7,0,none⟩))],.agg (noteC q).toArray,w1,lk1 (I.bs 7 _ rfl),stepV (val_loadA Z Z Z (r7y.ext I.ext).at rfl),fun C' hC'=>I.quiet hC' (by decide) (by decide) Z (by simp) (by simp)⟩
            · obtain rfl:=Option.some.inj ho
              refine⟨[(49,.agg (noteC q).toArray)],_,_,lk1 (q5 (hr 5 (by kernel_rfl))),stepLit (vs:=[.agg (noteC q).toArray]) (cs:=noteC q) rfl rfl rfl rfl rfl rfl,fun C' hC'=>?_⟩
              exact I.s6 hC' (hnr 7 (by kernel_rfl)) (hnr 11 (by kernel_rfl)) (hnr 12 (by kernel_rfl)) (ext_alloc _ _) rfl (row_alloc _ _ _) (Nat.le_refl _) rfl (by simp)
            · obtain rfl:=Option.some.inj ho
              have h4:=hr 4 (by kernel_rfl)
              have own:=I.a4 h4 hi1
              obtain⟨b6,e6,r6⟩:=I.a6 (hr 6 (by kernel_rfl)) hi1
              obtain⟨v',w',hrun,ho',hx',hk',hb'⟩:=app_exO (P:=Tryz.prog) 26 26 1 (a:=some ⟨b6,0,none⟩) (q:=1) (news:=noteC q) own I.ext (fun _=>⟨b6,0,rfl,r6.at⟩) rfl rfl rfl rfl (by omega) (by omega)
              refine⟨[(48,δ 48),(50,.slice (some ⟨b6,0,none⟩) 1 1)],v',w',lk2 rfl e6,.inl (step_app rfl rfl rfl hrun),fun C' hC'=>?_⟩
              exact I.s7 hC' h4 (hnr 11 (by kernel_rfl)) (hnr 12 (by kernel_rfl)) hx' ho' rfl (by simp)
            · obtain rfl:=Option.some.inj ho
              exact⟨[(5,.slice aO A.length capO)],.slice aO A.length capO,w1,lk1 (I.s5 (hnr 12 (by kernel_rfl))),stepV (zA Z Z),fun C' hC'=>I.quiet hC' (by decide) (by decide) Z (by simp) (by simp)⟩
            · obtain rfl:=Option.some.inj ho
              exact⟨[(8,int at_)],int at_,w1,lk1 (I.bs 8 _ rfl),stepV (zA Z Z),fun C' hC'=>I.quiet hC' (by decide) (by decide) Z (by simp) (by simp)⟩
            · obtain rfl:=Option.some.inj ho
              exact⟨[(52,.slice aO A.length capO),(53,int at_)],.slice (if capO=at_ then aO else aO.map (·.add (at_*7))) (A.length-at_) (capO-at_),w1,lk2 (q8 (hr 8 (by kernel_rfl))) (q9 (hr 9 (by kernel_rfl))),stepV (val_slice_l Z Z Z Z hatl),fun C' hC'=>I.quiet hC' (by decide) (by decide) Z (by simp) (by simp)⟩
            · obtain rfl:=Option.some.inj ho
              have h7:=hr 7 (by kernel_rfl)
              have own:=I.a7 h7 hi1
              obtain⟨v',w',hrun,ho',hx',hk',hb'⟩:=app_exO (P:=Tryz.prog) 26 26 (capO-at_) (a:=if capO=at_ then aO else aO.map (·.add (at_*7))) (q:=A.length-at_) (news:=((A.drop at_).map noteC).flatten) own I.ext (fun h=>sl_notes (hSdr.ext I.ext) h) (by rw [notes_flat,hdl]) (notes_ones _) rfl rfl (by omega) (by omega)
              refine⟨[(51,δ 51),(54,.slice (if capO=at_ then aO else aO.map (·.add (at_*7))) (A.length-at_) (capO-at_))],v',w',lk2 rfl (q10 (hr 10 (by kernel_rfl))),.inl (step_app rfl rfl rfl hrun),fun C' hC'=>?_⟩
              exact I.s11 hC' (hr 4 (by kernel_rfl)) h7 (hnr 12 (by kernel_rfl)) hx' (by rw [hdl];exact ho') rfl (by simp)
            · obtain rfl:=Option.some.inj ho
              exact⟨[(55,δ 55)],δ 55,w1,lk1 rfl,stepV (zB Z Z),fun C' hC'=>I.s12 hC' (hr 4 (by kernel_rfl)) (hr 7 (by kernel_rfl)) (hr 11 (by kernel_rfl)) Z (by simp)⟩
            · omega
          · intro C δ w1 hall2 I
            refine⟨[(1,int kk),(2,.pointer (some ⟨bB,0,none⟩)),(5,δ 5),(6,int i)],?_,?_⟩
            · refine frame_look fun x hx=>?_
              simp only [List.mem_cons,List.not_mem_nil,or_false] at hx
              rcases hx with rfl|rfl|rfl|rfl
              · exact⟨by dsimp only;omega,I.bs 1 _ rfl⟩
              · exact⟨by dsimp only;omega,I.bs 2 _ rfl⟩
              · exact⟨by dsimp only;omega,rfl⟩
              · exact⟨by dsimp only;omega,I.bs 6 _ rfl⟩
            · have own:=I.a11 (hall2 11 (by decide))
              rw [← I.a12 (hall2 12 (by decide))] at own
              (repeat' (first|(refine at_EL ?_;first|refine eN ?_|refine eV Z Z (zA Z Z) ?_|refine eV Z Z (zB Z Z) ?_|(refine at_bin ?_;first|refine eV Z Z (zU Z Z Z (by omega) (by omega)) ?_))|(refine at_K ?_;first|refine K_then ?_|refine K_in ?_)|(refine at_E ?_;first|refine E_region ?_)))
              refine K_rnd (i+1,δ 5) ⟨rfl,rfl,rfl,rfl,trivial⟩ ⟨by dsimp only;omega,hXy.trans I.ext,?_⟩ (by dsimp only;omega)
              dsimp only
              rw [← hins]
              refine own_Sl (css:=(A.take at_++q::A.drop at_).map noteC) (B:=wq.heap.size) (e:=74) (n:=(A.take at_).length+1+(A.drop at_).length) ?_ (notes_ats _ _) (by simp;omega) (by simp;omega)
              rw [List.map_append,List.flatten_append,List.map_cons,List.flatten_cons,← List.append_assoc]
              exact own
    · (repeat' ((fail_if_success (refine E_seq (x:=(Code.block 2 _)) ?_));first|refine eV Z Z (val_load Z Z Z (r8.cellAt rfl)) ?_|(refine at_EL ?_;first|refine eN ?_|refine eV Z Z (zA Z Z) ?_|refine eV Z Z (zB Z Z) ?_|(refine at_bin ?_;first|refine eD Z Z (zQ Z Z Z) (fun hh=>?_) (fun hh=>?_)|refine eV Z Z (zU Z Z Z (by omega) (by omega)) ?_)|(refine at_call ?_;first|refine eV Z Z (zK Z Z) ?_)|refine eV Z Z (zH Z Z) ?_)|(refine at_K ?_;first|refine K_then ?_|refine K_then_exit ?_|refine K_in_exit ?_)|(refine at_E ?_;first|refine E_seq ?_|refine E_region ?_|refine E_cond_t Z ?_|refine E_cond_f Z ?_|refine E_skip ?_|refine E_exit ?_)))
      all_goals (first|(exfalso;omega)|skip)
      exact K_rnd (i+1,.slice aO (accO d k i).length capO) ⟨rfl,rfl,rfl,rfl,trivial⟩ ⟨by dsimp only;omega,hx8,by dsimp only;rw [accO_no hq hqk];exact hS0⟩ (by dsimp only;omega)
  · obtain rfl:i=d.notes.length:=by omega
    rw [accO_all] at hS
    have hRl:=ofR_len h k
    obtain⟨R,hR⟩:∃ R,R=ofR d k:=⟨_,rfl⟩
    rw [← hR] at hS hRl ⊢
    have hS0:=hS
    obtain⟨a5,c5,rfl,hc5,hm5,hp5⟩:=hS.sl
    (repeat' (first|refine eV Z Z (val_load Z Z Z (rBr.cellAt rfl)) ?_|(refine at_EL ?_;first|refine eN ?_|refine eV Z Z (zA Z Z) ?_|refine eV Z Z (zB Z Z) ?_|(refine at_bin ?_;first|refine eD Z Z (zL Z Z Z) (fun hh=>?_) (fun hh=>?_))|(refine at_call ?_;first|refine eV Z Z (zK Z Z) ?_)|refine eV Z Z (zH Z Z) ?_|refine eL Z Z Z Z Z Z Z Z (fun bS wS xS hbS rS=>?_))|(refine at_K ?_;first|refine K_then ?_|refine K_then_exit ?_|refine K_in_exit ?_)|(refine at_E ?_;first|refine E_seq ?_|refine E_region ?_|refine E_cond_t Z ?_|refine E_cond_f Z ?_|refine E_block ?_|refine E_skip ?_|refine E_exit ?_)))
    all_goals (first|(exfalso;omega)|skip)
    refine E_loop (ι:=Nat × Value) (fun x=>[(5,.slice a5 R.length c5),(9,x.2),(10,int x.1)])
      (fun x wq=>x.1≤R.length∧Ext wr wq∧wq.ownsRow wr.heap.size 3 1 x.2 x.1 (((R.take x.1).map (fun n=>n.id)).map int)) (fun x=>R.length-x.1) (0,_)
      ⟨rfl,rfl,rfl,trivial⟩ ⟨Nat.zero_le _,by assumption,own_row (n:=0) (size:=1) (by assumption) rfl (by omega) (by omega)⟩ ?_
    rintro⟨j,vP⟩ wq ⟨hj,hxq,hoq⟩
    dsimp only at hj hxq hoq ⊢
    by_cases hjl:j<R.length
    · obtain⟨b,off,rfl⟩:=hp5 (by omega)
      obtain⟨q,hq⟩:∃ q,R[j]?=some q:=⟨_,List.getElem?_eq_getElem hjl⟩
      have hat:=note_elem (hS0.ext hxq) hq
      (repeat' (first|refine eV Z Z (val_indexAddr (m:=j) Z Z Z Z (by omega)) ?_|refine eV Z Z (val_load Z Z Z (hat.cellAt (j:=0) Z)) ?_|(refine EL_appO (news:=[int q.id]) (own_ext hoq xS) (hxq.trans xS) (fun _=>⟨_,_,rfl,rS.at⟩) Z Z Z Z Z Z Z Z Z (by omega) (by omega) (fun vJ wJ oJ xJ kJ hJ=>?_))|(refine at_EL ?_;first|refine eN ?_|refine eV Z Z (zA Z Z) ?_|refine eV Z Z (zB Z Z) ?_|(refine at_bin ?_;first|refine eD Z Z (zL Z Z Z) (fun hh=>?_) (fun hh=>?_)|refine eV Z Z (zU Z Z Z (by omega) (by omega)) ?_)|(refine at_call ?_;first|refine eV Z Z (zK Z Z) ?_)|refine eV Z Z (zH Z Z) ?_|refine eL Z Z Z Z Z Z Z Z (fun bS wS xS hbS rS=>?_))|(refine at_K ?_;first|refine K_then ?_|refine K_in ?_|refine K_then_exit ?_|refine K_in_exit ?_)|(refine at_E ?_;first|refine E_seq ?_|refine E_region ?_|refine E_cond_t Z ?_|refine E_cond_f Z ?_|refine E_block ?_|refine E_skip ?_|refine E_ret ?_|refine E_exit ?_)))
      all_goals (first|(exfalso;omega)|skip)
      refine K_rnd (j+1,vJ) ⟨rfl,rfl,rfl,trivial⟩ ⟨by dsimp only;omega,xJ,?_⟩ (by dsimp only;omega)
      dsimp only
      obtain⟨hj2,rfl⟩:=List.getElem?_eq_some_iff.1 hq
      rw [List.take_succ_eq_append_getElem hj2,List.map_append,List.map_append]
      exact oJ
    · obtain rfl:j=R.length:=by omega
      rw [List.take_length] at hoq
      (repeat' (first|(refine at_EL ?_;first|refine eN ?_|refine eV Z Z (zA Z Z) ?_|refine eV Z Z (zB Z Z) ?_|(refine at_bin ?_;first|refine eD Z Z (zL Z Z Z) (fun hh=>?_) (fun hh=>?_))|(refine at_call ?_;first|refine eV Z Z (zK Z Z) ?_))|(refine at_K ?_;first|refine K_then ?_|refine K_then_exit ?_|refine K_in_exit ?_)|(refine at_E ?_;first|refine E_seq ?_|refine E_region ?_|refine E_cond_t Z ?_|refine E_cond_f Z ?_|refine E_block ?_|refine E_skip ?_|refine E_ret ?_|refine E_exit ?_)))
      all_goals (first|(exfalso;omega)|skip)
      refine ret_1 Z Z ⟨xB.trans (hx.trans hxq),?_⟩
      exact own_Sl (css:=(R.map (fun n=>n.id)).map fun z=>[int z]) (by rw [ints_flat];exact hoq) (ints_ats _ _) (by simp) (by simp;omega)
end Go.Proofs.YtnifmbbpfdghmaaGreatDoor
