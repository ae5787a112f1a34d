/-
  Walks of search: ids (for any closure), Text, all, Count. Search, plainly: what the index of a document finds in it.
-/
import Derived.Test.YtnifmbbpfdghmaaGreatDoorYf
import Derived.Test.YtnifmbbpfdghmaaGreatDoorNh
import Derived.Test.YtnifmbbpfdghmaaGreatDoorYh
import Derived.Test.YtnifmbbpfdghmaaGreatDoorYc
set_option linter.all false
namespace Go.Proofs.YtnifmbbpfdghmaaGreatDoor
open Go.RowKit Go.En
def postIds (xs:List Ix.Post) (q:Ix.Post→Bool):List Int:=(xs.filter q).flatMap fun p=>p.ids
def ofText (r:Int) (p:List UInt8→Bool) (x:Ix.Post):Bool:=decide (x.role=r)&&p x.text
theorem post_snoc {xs:List Ix.Post} {q:Ix.Post→Bool} {i:Nat} {x:Ix.Post} (hx:xs[i]?=some x):postIds (xs.take (i+1)) q=postIds (xs.take i) q++(if q x=true then x.ids else []):=by
  obtain⟨hi,rfl⟩:=List.getElem?_eq_some_iff.1 hx
  unfold postIds
  rw [List.take_succ_eq_append_getElem hi,List.filter_append,List.flatMap_append]
  congr 1
  by_cases hq:q xs[i]=true <;> simp [hq]
theorem post_len (xs:List Ix.Post) (q:Ix.Post→Bool) (i:Nat):(postIds (xs.take i) q).length≤(postIds xs fun _=>true).length:=by
  have h1:∀ l:List Ix.Post,(postIds l q).length≤(postIds l fun _=>true).length:=by
    intro l
    induction l with
    | nil=>simp [postIds]
    | cons a t ih=>
      unfold postIds at ih ⊢
      by_cases hq:q a=true
      · simp [hq] at ih ⊢;omega
      · simp [hq] at ih ⊢;omega
  refine Nat.le_trans (h1 _) ?_
  have:postIds xs (fun _=>true)=postIds (xs.take i) (fun _=>true)++postIds (xs.drop i) (fun _=>true):=by
    unfold postIds
    rw [← List.flatMap_append,← List.filter_append,List.take_append_drop]
  rw [this,List.length_append];omega
attribute [local irreducible] E EL K Val Enters Rt Calls bodyPost Code.wp RQ
set_option maxHeartbeats 4000000 in
set_option maxRecDepth 8000 in
theorem ids94_any (xs:List Ix.Post) (s:Value) (r:Int) (F:FuncId) (caps:List Value) (he:∀ args w,(Go.callFunc F args).run Tryz.prog w=.ok (.enter F args) w) (p:List UInt8→Bool) (w:World) (hv:Sl w s xs) (hsum:(postIds xs fun _=>true).length≤1000000)
    (hF:∀(x:Ix.Post) (wq:World),x∈xs→Ext w wq→Calls Tryz.prog F ([str x.text]++caps).toArray wq (Rt fun u w'=>u=.bool (p x.text)∧Ext wq w')) :
    Calls Tryz.prog 94 #[.agg #[s],int r,.func (.func F) #[] caps.toArray] w (Rt fun u w'=>Ext w w'∧SlG (Nw w) w' u (sortedF (postIds xs (ofText r p)))):=by
  have hv0:=hv
  obtain⟨a,cap,rfl,hc,hm,hp⟩:=hv.sl
  refine calls_E (n:=34) (args:=[.agg #[.slice a xs.length cap],int r,.func (.func F) #[] caps.toArray]) Tryz.func94 rfl Tryz.ntmps94 (by simp) ?_
  refine E_seq ?_
  refine E_region ?_
  refine EL_box Z Z Z Z (fun bX wX xX hbX rX0=>?_)
  have rX:Row wX bX 49 [.slice a xs.length cap]:=rX0
  clear rX0
  (repeat' (first|refine eV Z Z (val_load Z Z Z (rX.cellAt (j:=0) Z)) ?_|(refine at_EL ?_;first|refine eN ?_|refine eV Z Z (zA Z Z) ?_|refine eV Z Z (zB Z Z) ?_|(refine at_call ?_;first|refine eV Z Z (zK Z Z) ?_)|refine eV Z Z (zH Z Z) ?_)|(refine at_K ?_;first|refine K_then ?_)|(refine at_E ?_;first|refine E_seq ?_|refine E_region ?_|refine E_block ?_)))
  obtain⟨q,hq⟩:∃ q,q=ofText r p:=⟨_,rfl⟩
  refine E_loop (ι:=Nat × Value) (fun z=>[(1,int r),(2,.func (.func F) #[] caps.toArray),(7,z.2),(11,.slice a xs.length cap),(12,int xs.length),(13,int z.1)])
    (fun z wr=>z.1≤xs.length∧Ext wX wr∧wr.ownsRow wX.heap.size 3 1 z.2 (postIds (xs.take z.1) q).length ((postIds (xs.take z.1) q).map int)) (fun z=>xs.length-z.1) (0,.slice none 0 0)
    ⟨rfl,rfl,rfl,rfl,rfl,rfl,trivial⟩ ⟨Nat.zero_le _,Ext.refl _,by rw [List.take_zero];exact World.ownsRow_nil _ _ _ _⟩ ?_
  rintro⟨i,vO⟩ wr ⟨hi,hx,hown⟩
  dsimp only at hi hx hown ⊢
  have hX:=xX.trans hx
  have hle:=post_len xs q i
  by_cases hlt:i<xs.length
  · obtain⟨b,off,rfl⟩:=hp (by omega)
    obtain⟨x,hx1⟩:∃ x,xs[i]?=some x:=⟨_,List.getElem?_eq_getElem hlt⟩
    obtain⟨iv,hat,hiv⟩:=Ix.post_elem (hv0.ext hX) hx1
    have hone:([int x.role,str x.text,iv]:List Value).all Value.oneCell'=true:=by obtain⟨a,c,e,_⟩:=hiv.sl;rw [e];rfl
    have hsn:=post_snoc (q:=q) hx1
    have hle2:=post_len xs q (i+1)
    rw [hsn,List.length_append] at hle2
    have hiv0:=hiv
    obtain⟨ia,ic,rfl,hic,_,_⟩:=hiv.sl
    (repeat' (first|refine eV Z Z (val_indexAddr (m:=i) Z Z Z Z hlt) ?_|refine eV Z Z (val_loadA Z Z Z hat rfl) ?_|(refine at_EL ?_;first|refine eN ?_|refine eV Z Z (zA Z Z) ?_|(refine at_bin ?_;first|refine eD Z Z (zL Z Z Z) (fun hh=>?_) (fun hh=>?_)))|(refine at_K ?_;first|refine K_then ?_|refine K_then_exit ?_|refine K_in_exit ?_)|(refine at_E ?_;first|refine E_seq ?_|refine E_region ?_|refine E_cond_t Z ?_|refine E_cond_f Z ?_|refine E_block ?_|refine E_skip ?_|refine E_exit ?_)))
    all_goals (first|(exfalso;omega)|skip)
    refine EL_alloc Z Z Z (fun b9 w9 x9 hb9 r9=>?_)
    refine EL_storeP (cs:=[int x.role,str x.text,.slice ia x.ids.length ic]) r9 x9 (by omega) Z Z Z Z Z Z Z hone (Nat.le_refl _) (fun w8 r8 x8 k8=>?_)
    have rP:Row w8 b9 102 [int x.role,str x.text,.slice ia x.ids.length ic]:=r8
    clear r9 r8 k8
    have own8:=own_ext hown x8
    have hiv8:=hiv0.ext x8
    have hx8:=hx.trans x8
    by_cases hr:x.role=r
    · have cF:=hF x w8 (List.mem_of_getElem? hx1) (hX.trans x8)
      have hqx:q x=p x.text:=by rw [hq];unfold ofText;rw [decide_eq_true hr,Bool.true_and]
      cases hpx:p x.text with
      | true=>
        rw [hpx] at cF hqx
        rw [if_pos hqx] at hsn hle2
        (repeat' (first|refine eV Z Z (val_load Z Z Z (rP.cellAt (j:=0) Z)) ?_|refine eV Z Z (val_load Z Z Z (rP.cellAt (j:=1) Z)) ?_|refine eV Z Z (val_load Z Z Z (rP.cellAt (j:=2) Z)) ?_|(refine EL_call Z Z (entersC (cap:=caps) Z Z Z he) cF (fun vC wC hC=>?_);obtain⟨rfl,xC⟩:=hC;have own2:=own_ext own8 xC;have hiv2:=hiv8.ext xC;replace rP:=rP.ext xC)|(refine EL_appO (news:=x.ids.map int) own2 (hx8.trans xC) (ints_news hiv2) Z Z Z Z Z (by show(x.ids.map int).length=x.ids.length*1;simp) (ints_ones x.ids) Z Z (by omega) (by omega) (fun vJ wJ oJ xJ kJ hJ=>?_))|(refine at_EL ?_;first|refine eN ?_|refine eO Z Z ?_|refine eV Z Z (zA Z Z) ?_|refine eV Z Z (zB Z Z) ?_|(refine at_bin ?_;first|refine eD Z Z (zM Z Z Z) (fun hh=>?_) (fun hh=>?_)|refine eV Z Z (zU Z Z Z (by omega) (by omega)) ?_)|refine eV Z Z (zC Z Z Z) ?_|refine eV Z Z (zD Z Z Z) ?_|refine eV Z Z (zH Z Z) ?_)|(refine at_K ?_;first|refine K_then ?_|refine K_in ?_)|(refine at_E ?_;first|refine E_seq ?_|refine E_region ?_|refine E_cond_t Z ?_|refine E_cond_f Z ?_|refine E_skip ?_)))
        all_goals (first|(exfalso;omega)|skip)
        refine K_rnd (i+1,vJ) ⟨rfl,rfl,rfl,rfl,rfl,rfl,trivial⟩ ⟨by dsimp only;omega,xJ,?_⟩ (by dsimp only;omega)
        dsimp only
        rw [hsn,List.length_append,List.map_append]
        exact oJ
      | false=>
        rw [hpx] at cF hqx
        rw [if_neg (by rw [hqx];exact Bool.false_ne_true),List.append_nil] at hsn
        (repeat' (first|refine eV Z Z (val_load Z Z Z (rP.cellAt (j:=0) Z)) ?_|refine eV Z Z (val_load Z Z Z (rP.cellAt (j:=1) Z)) ?_|(refine EL_call Z Z (entersC (cap:=caps) Z Z Z he) cF (fun vC wC hC=>?_);obtain⟨rfl,xC⟩:=hC;have own2:=own_ext own8 xC)|(refine at_EL ?_;first|refine eN ?_|refine eO Z Z ?_|refine eV Z Z (zA Z Z) ?_|(refine at_bin ?_;first|refine eD Z Z (zM Z Z Z) (fun hh=>?_) (fun hh=>?_)|refine eV Z Z (zU Z Z Z (by omega) (by omega)) ?_)|refine eV Z Z (zC Z Z Z) ?_|refine eV Z Z (zD Z Z Z) ?_|refine eV Z Z (zH Z Z) ?_)|(refine at_K ?_;first|refine K_then ?_|refine K_in ?_)|(refine at_E ?_;first|refine E_seq ?_|refine E_region ?_|refine E_cond_f Z ?_|refine E_skip ?_)))
        all_goals (first|(exfalso;omega)|skip)
        refine K_rnd (i+1,vO) ⟨rfl,rfl,rfl,rfl,rfl,rfl,trivial⟩ ⟨by dsimp only;omega,hx8.trans xC,?_⟩ (by dsimp only;omega)
        dsimp only
        rw [hsn]
        exact own2
    · have hqx:q x=false:=by rw [hq];unfold ofText;rw [decide_eq_false hr,Bool.false_and]
      rw [if_neg (by rw [hqx];exact Bool.false_ne_true),List.append_nil] at hsn
      (repeat' (first|refine eV Z Z (val_load Z Z Z (rP.cellAt (j:=0) Z)) ?_|(refine at_EL ?_;first|refine eN ?_|refine eO Z Z ?_|refine eV Z Z (zA Z Z) ?_|(refine at_bin ?_;first|refine eD Z Z (zM Z Z Z) (fun hh=>?_) (fun hh=>?_)|refine eV Z Z (zU Z Z Z (by omega) (by omega)) ?_)|refine eV Z Z (zD Z Z Z) ?_|refine eV Z Z (zH Z Z) ?_)|(refine at_K ?_;first|refine K_then ?_|refine K_in ?_)|(refine at_E ?_;first|refine E_seq ?_|refine E_region ?_|refine E_cond_f Z ?_|refine E_skip ?_)))
      all_goals (first|(exfalso;omega)|skip)
      refine K_rnd (i+1,vO) ⟨rfl,rfl,rfl,rfl,rfl,rfl,trivial⟩ ⟨by dsimp only;omega,hx8,?_⟩ (by dsimp only;omega)
      dsimp only
      rw [hsn]
      exact own8
  · obtain rfl:i=xs.length:=by omega
    rw [List.take_length] at hown hle
    have sO:Sl wr vO (postIds xs q):=own_Sl (css:=(postIds xs q).map fun z=>[int z]) (by rw [ints_flat];exact hown) (ints_ats _ _) rfl (by omega)
    have cs:=sortedN_any _ vO wr sO (by omega)
    (repeat' (first|(refine EL_call Z Z (entersF Z Z en106) cs (fun vE wE hE=>?_);obtain⟨xE,sE⟩:=hE)|(refine at_EL ?_;first|refine eN ?_|refine eV Z Z (zA Z Z) ?_|refine eV Z Z (zB Z Z) ?_|(refine at_bin ?_;first|refine eD Z Z (zL Z Z Z) (fun hh=>?_) (fun hh=>?_)))|(refine at_K ?_;first|refine K_then ?_|refine K_then_exit ?_|refine K_in_exit ?_)|(refine at_E ?_;first|refine E_seq ?_|refine E_region ?_|refine E_cond_t Z ?_|refine E_cond_f Z ?_|refine E_block ?_|refine E_skip ?_|refine E_ret ?_|refine E_exit ?_)))
    all_goals (first|(exfalso;omega)|skip)
    refine ret_1 Z Z ⟨hX.trans xE,?_⟩
    rw [hq] at sE
    exact sE.wk (fun b hb=>by have:=hX.size;unfold Nw at *;omega)
end Go.Proofs.YtnifmbbpfdghmaaGreatDoor
namespace Go.Proofs.YtnifmbbpfdghmaaGreatDoor
open Go.RowKit Go.En
def textX (xs:List Ix.Post) (r:Int) (p:List UInt8→Bool):List Int:=sortedF (postIds xs (ofText r p))
theorem postIds_mem {xs:List Ix.Post} {r:Int} {p:List UInt8→Bool} {x:Int}:x∈postIds xs (ofText r p)↔∃ q∈xs,q.role=r∧p q.text=true∧x∈q.ids:=by
  unfold postIds ofText
  rw [List.mem_flatMap]
  constructor
  · rintro⟨q,hq,hx⟩
    rw [List.mem_filter,Bool.and_eq_true,decide_eq_true_eq] at hq
    exact⟨q,hq.1,hq.2.1,hq.2.2,hx⟩
  · rintro⟨q,hq,h1,h2,hx⟩
    exact⟨q,List.mem_filter.2 ⟨hq,by rw [Bool.and_eq_true,decide_eq_true_eq];exact⟨h1,h2⟩⟩,hx⟩
theorem textX_mem {xs:List Ix.Post} {r:Int} {p:List UInt8→Bool} {x:Int}:x∈textX xs r p↔∃ q∈xs,q.role=r∧p q.text=true∧x∈q.ids:=by
  unfold textX
  rw [(sorted_rise _).2,postIds_mem]
theorem tier_of {d:Dc} (h:LightD d) {n:Note} (hn:n∈d.notes):∃(t:Tier) (k:Nat),n.tier=(k:Int)∧d.tiers[k]?=some t∧Ix.roleAt d.tiers n=t.role∧TierOK d.tiers k t:=by
  obtain⟨i,hi⟩:=List.getElem?_of_mem hn
  obtain⟨t,k,hk,ht,_⟩:=(h.notes i n hi).placed
  exact⟨t,k,hk,ht,by unfold Ix.roleAt;rw [hk,Int.toNat_natCast,ht],h.tiers k t ht⟩
theorem roleAt_eq {d:Dc} (h:LightD d) {n:Note} (hn:n∈d.notes) {r:Int} (hr:r≠0):Ix.roleAt d.tiers n=r↔n.tier=roleF d r:=by
  obtain⟨t,k,hk,ht,e,hok⟩:=tier_of h hn
  rw [e,hk]
  constructor
  · intro er
    exact(roleF_at (d:=d) (i:=k) hr ht er fun j hj t' ht' e'=>hok.uniq (by rw [er];exact hr) j t' hj ht' (by rw [e',er])).symm
  · intro ek
    unfold roleF at ek
    rw [if_neg hr] at ek
    cases hf:d.tiers.findIdx? (fun t=>decide (t.role=r)) with
    | none=>rw [hf] at ek;dsimp only at ek;omega
    | some j=>
      rw [hf] at ek
      dsimp only at ek
      obtain rfl:k=j:=by omega
      obtain⟨hj,h1,_⟩:=List.findIdx?_eq_some_iff_getElem.1 hf
      rw [List.getElem?_eq_getElem hj] at ht
      cases ht
      exact of_decide_eq_true h1
theorem role_is {d:Dc} (h:LightD d) {n:Note} (hn:n∈d.notes) {r:Int} (he:n.tier=roleF d r):Ix.isRole r=true:=by
  obtain⟨t,k,hk,ht,e,hok⟩:=tier_of h hn
  by_cases hr:r=0
  · subst hr
    unfold roleF at he
    rw [if_pos rfl] at he
    omega
  · have:=(roleAt_eq h hn hr).2 he
    have:=hok.role
    unfold Ix.isRole
    rw [Bool.and_eq_true,decide_eq_true_eq,decide_eq_true_eq]
    omega
theorem link {d : Dc} (h : LightD d) (r : Int) (p : List UInt8 → Bool) : textX (Ix.buildF d.tiers d.notes) r p = idsOf d (fun x => ofRoleP d r x && p (curN d.notes x).text) :=
  idsOf_eq h (sorted_rise _).1 fun x=>by
    have hR:=Ix.build_right d.tiers d.notes
    rw [textX_mem]
    constructor
    · rintro⟨q,hq,h1,h2,hx⟩
      have hr:Ix.isRole r=true:=h1▸(hR.1 q hq).1
      have hr0:r≠0:=by rintro rfl;exact absurd hr (by decide)
      have hf:x∈Ix.findF (Ix.buildF d.tiers d.notes) r q.text:=(Ix.mem_find hR.2).2 ⟨q,hq,h1,rfl,hx⟩
      have hb:=Ix.mem_build d.tiers d.notes ⟨true,r,q.text,x⟩ hr
      rw [decide_eq_true hf] at hb
      obtain⟨m,hm,hs⟩:=List.any_eq_true.1 hb.symm
      obtain⟨n,hn,rfl⟩:=List.mem_map.1 hm
      unfold Ix.sameK Ix.mvN at hs
      rw [Bool.and_eq_true,Bool.and_eq_true,decide_eq_true_eq,decide_eq_true_eq,decide_eq_true_eq] at hs
      obtain⟨e1,e2,e3⟩:=hs
      dsimp only at e1 e2 e3
      subst e3
      exact⟨⟨n,hn,rfl⟩,by rw [Bool.and_eq_true,ofRole_iff h hn,cur_of h hn];exact⟨(roleAt_eq h hn hr0).1 e1,by rw [e2];exact h2⟩⟩
    · rintro⟨⟨n,hn,rfl⟩,hx⟩
      rw [Bool.and_eq_true,ofRole_iff h hn,cur_of h hn] at hx
      have hr:=role_is h hn hx.1
      have hr0:r≠0:=by rintro rfl;exact absurd hr (by decide)
      have hb:=Ix.mem_build d.tiers d.notes ⟨true,r,n.text,n.id⟩ hr
      rw [List.any_eq_true.2 ⟨Ix.mvN true d.tiers n,List.mem_map.2 ⟨n,hn,rfl⟩,by
        unfold Ix.sameK Ix.mvN
        rw [Bool.and_eq_true,Bool.and_eq_true,decide_eq_true_eq,decide_eq_true_eq,decide_eq_true_eq]
        exact⟨(roleAt_eq h hn hr0).2 hx.1,rfl,rfl⟩⟩] at hb
      obtain⟨q,hq,h1,h2,h3⟩:=(Ix.mem_find hR.2).1 (of_decide_eq_true hb)
      exact⟨q,hq,h1,by rw [h2];exact hx.2,h3⟩
structure Linked (xs:List Ix.Post) (d:Dc):Prop where
  text:∀ r p,textX xs r (matchF p)=idsOf d (textP matchF d r p)
  all:∀ r,textX xs r (fun _=>true)=idsOf d (ofRoleP d r)
structure Fits (xs:List Ix.Post):Prop where
  few:(postIds xs fun _=>true).length≤1000000
  texts:∀ q∈xs,q.text.length≤1048576
theorem build_linked {d:Dc} (h:LightD d):Linked (Ix.buildF d.tiers d.notes) d where
  text r p:=by rw [link h];exact idsOf_congr fun n hn=>(text_of h hn).symm
  all r:=by rw [link h];exact idsOf_congr fun n hn=>Bool.and_true _
theorem postIds_few {k:Nat}:∀ {xs:List Ix.Post},(∀ q∈xs,q.ids.length≤k)→(postIds xs fun _=>true).length≤xs.length*k
  | [],_=>by simp [postIds]
  | q::xs,h=>by
    have ih:=postIds_few (xs:=xs) fun q hq=>h q (List.mem_cons_of_mem _ hq)
    have h1:=h q (List.mem_cons_self ..)
    have e:postIds (q::xs) (fun _=>true)=q.ids++postIds xs (fun _=>true):=by unfold postIds;simp
    rw [e,List.length_append,List.length_cons,Nat.add_mul]
    omega
theorem build_fits {d:Dc} (h:LightD d):Fits (Ix.buildF d.tiers d.notes) where
  few:=by
    have hs:=Ix.Small.build d.tiers d.notes d.notes.length
    rw [List.take_length] at hs
    have hn:=h.nnotes
    have h1:=postIds_few (k:=14) fun q hq=>Nat.le_trans (hs.2 q hq) hn
    have h2:(Ix.buildF d.tiers d.notes).length*14≤14*14:=Nat.mul_le_mul_right 14 (Nat.le_trans hs.1 hn)
    omega
  texts q hq:=by
    have hR:=Ix.build_right d.tiers d.notes
    obtain⟨hg1,hg2,_⟩:=hR.1 q hq
    obtain⟨x,hx⟩:∃ x,x∈q.ids:=List.exists_mem_of_ne_nil _ hg2
    have hf:x∈Ix.findF (Ix.buildF d.tiers d.notes) q.role q.text:=(Ix.mem_find hR.2).2 ⟨q,hq,rfl,rfl,hx⟩
    have hb:=Ix.mem_build d.tiers d.notes ⟨true,q.role,q.text,x⟩ hg1
    rw [decide_eq_true hf] at hb
    obtain⟨m,hm,hs⟩:=List.any_eq_true.1 hb.symm
    obtain⟨n,hn,rfl⟩:=List.mem_map.1 hm
    unfold Ix.sameK Ix.mvN at hs
    rw [Bool.and_eq_true,Bool.and_eq_true,decide_eq_true_eq,decide_eq_true_eq,decide_eq_true_eq] at hs
    obtain⟨_,e2,_⟩:=hs
    dsimp only at e2
    obtain⟨i,hi⟩:=List.getElem?_of_mem hn
    have:=(h.notes i n hi).text.1
    rw [e2] at this
    omega
theorem textX_le {xs:List Ix.Post} (hf:Fits xs) (r:Int) (p:List UInt8→Bool):(textX xs r p).length≤1000000:=by
  unfold textX
  have h1:=compG_len_le ((postIds xs (ofText r p)).mergeSort (fun x y=>decide (x≤y)))
  rw [compG_sort] at h1
  have h2:=post_len xs (ofText r p) xs.length
  rw [List.take_length] at h2
  have:=hf.few
  simp only [List.length_mergeSort] at h1
  omega
end Go.Proofs.YtnifmbbpfdghmaaGreatDoor
