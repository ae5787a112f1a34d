/-
  Own text of the proof.
-/
import Derived.Test.YtjicdgejhkgpgaaGreatDoorYg
set_option linter.all false
namespace Go.En
open Go.RowKit
section
variable {P : Program} {n : Nat} {ops : List Oper} {w0 : World} {Q : Post} {m : Nat} {G0 : List (Nat × Ent)} {Ts : Nat → Ent}
theorem C6m (p:Nat) (hchk:chk ops m=true)
    (hM:∀ k<m,∀ o,ops[k]?=some o→(Ts k).mono w0∧okd n o.dst=true)
    (hC:∀ k,p≤k→k<m→∀ o,ops[k]?=some o→OpC P n ops w0 o (Gn ops G0 Ts k) (Ts k))
    (hF:∀ a w,Ext w0 w→a.tmps.size=n→a.defers=[]→Sats (Gn ops G0 Ts m) a w→wpList P ops.toArray Q (ops.drop m) a w)
    (hG:∀ s t,gk G0 s=some t→t.mono w0) (hdom:∀ s t,gk G0 s=some t→s<n) :
    ∀(fuel:Nat) (listed:Array Bool) (a:Act) (w:World),Inv n ops w0 m G0 Ts listed a w→(∀ j,j<p→LsD listed j)→unl ops.length listed=fuel→wpAny P .any ops.toArray Q fuel listed a w:=by
  simp only [chk,Bool.and_eq_true] at hchk
  obtain⟨⟨⟨⟨hm,hlow⟩,hreads⟩,hdst⟩,htail⟩:=hchk
  have hm:m≤ops.length:=Nat.le_of_ble_eq_true hm
  have hget:∀ j,j<m→∃ o,ops[j]?=some o:=fun j hj=>⟨_,List.getElem?_eq_getElem (by omega)⟩
  have hent:∀(listed:Array Bool) (a:Act) (w:World),Inv n ops w0 m G0 Ts listed a w→∀(k s:Nat) (t:Ent),k≤m→gk (Gn ops G0 Ts k) s=some t→
      (∀ j o,j<m→ops[j]?=some o→o.dst=some s→(j<k→LsD listed j)∧(k≤j→¬ LsD listed j))→t.sat (a.tmps.getD s undef) w:=by
    intro listed a w I k s t hk hg hw
    by_cases hex:∃ j o,j<k∧ops[j]?=some o∧o.dst=some s
    · obtain⟨j,o,hj,ho,hd⟩:=hex
      rw [A3k ops G0 Ts k s j o hj ho hd (fun j' h1 h2 o' ho' hd'=>by have:=L3 hdst ho (by omega) ho' (by omega) hd hd';omega)] at hg
      cases hg
      exact I.new j o s (by omega) ho hd ((hw j o (by omega) ho hd).1 hj)
    · rw [R0 ops G0 Ts k s (fun j hj o ho hd=>hex ⟨j,o,hj,ho,hd⟩)] at hg
      refine I.old s (fun j o hj ho hd=>?_) t hg
      by_cases hjk:j<k
      · exact absurd ⟨j,o,hjk,ho,hd⟩ hex
      · exact(hw j o hj ho hd).2 (by omega)
  have hfin:∀(listed:Array Bool) (a:Act) (w:World) (fuel:Nat),Inv n ops w0 m G0 Ts listed a w→(∀ j,j<m→LsD listed j)→unl ops.length listed=fuel→wpAny P .any ops.toArray Q fuel listed a w:=by
    intro listed a w fuel I hall hu
    have hp:∀ i,LsD listed i↔i<m:=fun i=>⟨I.low i,hall i⟩
    have:=J7 hm hp
    refine A6c hlow htail fuel m listed a w (Nat.le_refl _) (by omega) I.lsz hp (hF a w I.ext I.size I.nod ?_)
    intro s t hg
    refine⟨?_,hent listed a w I m s t (Nat.le_refl _) hg fun j o hj _ _=>⟨fun _=>hall j hj,fun h=>absurd hj (by omega)⟩⟩
    rw [I.size]
    by_cases hex:∃ j o,j<m∧ops[j]?=some o∧o.dst=some s
    · obtain⟨j,o,hj,ho,hd⟩:=hex
      have:=(hM j hj o ho).2
      rw [hd] at this
      exact Nat.le_of_ble_eq_true this
    · rw [R0 ops G0 Ts m s (fun j hj o ho hd=>hex ⟨j,o,hj,ho,hd⟩)] at hg
      exact hdom s t hg
  have hleast:∀(listed:Array Bool) (a:Act) (w:World),Inv n ops w0 m G0 Ts listed a w→(¬ ∀ j,j<m→LsD listed j)→∃ i,i<m∧i∈Region.ready .any ops.toArray listed:=by
    intro listed a w I hn
    have:∃ i,i<m∧¬ LsD listed i:=by
      apply Classical.byContradiction
      intro h
      exact hn fun j hj=>Classical.byContradiction fun hj'=>h ⟨j,hj,hj'⟩
    obtain⟨i,h1,h2,h3⟩:=W8 (fun i=>by unfold LsD;infer_instance) m this
    obtain⟨o,ho⟩:=hget i h1
    exact⟨i,h1,(G5 I.lsz).2 ⟨h2,o,ho,fun e he hb=>h3 _ (O6 hlow ho he hb)⟩⟩
  intro fuel
  induction fuel with
  | zero=>
    intro listed a w I hpre hu
    by_cases hall:∀ j,j<m→LsD listed j
    · exact hfin listed a w 0 I hall hu
    · exfalso
      obtain⟨i,h1,h2⟩:=hleast listed a w I hall
      have:=T2 (N:=ops.length) (by omega) I.lsz ((G5 I.lsz).1 h2).1
      omega
  | succ fuel ih =>
    intro listed a w I hpre hu
    by_cases hall:∀ j,j<m→LsD listed j
    · exact hfin listed a w _ I hall hu
    · obtain ⟨i0, hi0m, hi0⟩ := hleast listed a w I hall
      refine⟨fun h0=>(by rw [h0] at hi0;cases hi0),fun i hi=>?_⟩
      obtain⟨hun,o,ho,hed⟩:=(G5 I.lsz).1 hi
      have hilt:=(List.getElem?_eq_some_iff.1 ho).1
      have hedge:∀ o',ops[i]?=some o'→∀ e∈o'.after,Region.binds .any e=true→LsD listed e.on:=fun o' ho'=>by rw [ho] at ho';cases ho';exact hed
      have him:i<m:=by
        apply Classical.byContradiction
        intro hge
        exact hall fun j hj=>(A1w htail hilt (by omega) (show j<i by omega)).clo I.clo hedge
      obtain⟨hmono,hokd⟩:=hM i him o ho
      have hop:=hC i (by
        by_cases hip:i<p
        · exact absurd (hpre i hip) hun
        · omega) him o ho
      have hsat:∀ s∈o.looksAt ops.toArray,∀ t,gk (Gn ops G0 Ts i) s=some t→t.sat (a.tmps.getD s undef) w:=by
        intro s hs t hg
        refine hent listed a w I i s t (by omega) hg fun j q hj hq hd=>?_
        have hr:=H9 hreads ho him hq hj hs hd
        refine⟨fun hlt=>(hr.1 hlt).clo I.clo hedge,fun hle hlj=>?_⟩
        by_cases hji:j=i
        · subst hji;exact hun hlj
        · exact hun ((hr.2 (by omega)).clo I.clo (fun o' ho' e he hb=>I.clo j o' ho' hlj e he hb))
      have hstep:=hop a w I.ext I.size I.nod hsat
      have hnext:∀ v w',(Ts i).sat v w'→Ext w w'→Inv n ops w0 m G0 Ts (listed.setIfInBounds i true) (a.put o.dst v) w':=by
        intro v w' hv hx
        have hset:∀ j,LsD (listed.setIfInBounds i true) j↔(j=i∨LsD listed j):=fun j=>by
          unfold LsD
          by_cases hij:i=j
          · subst hij;simp [I.lsz,hilt]
          · rw [getD_set_ne false hij];constructor
            · exact .inr
            · rintro(h|h)
              · exact absurd h.symm hij
              · exact h
        have hput:∀ s,o.dst≠some s→(a.put o.dst v).tmps.getD s undef=a.tmps.getD s undef:=fun s hs=>by
          cases hd:o.dst with
          | none=>rfl
          | some d=>
            have hne:d≠s:=fun e=>hs (by rw [hd,e])
            simp [Act.put,Array.getD_eq_getD_getElem?,Array.getElem?_setIfInBounds_ne hne]
        have hputs:∀ s,o.dst=some s→(a.put o.dst v).tmps.getD s undef=v:=fun s hs=>by
          have hlt:s<n:=by
            have:=hokd;rw [hs] at this;exact Nat.le_of_ble_eq_true this
          simp [Act.put,hs,Array.getD_eq_getD_getElem?,Array.getElem?_setIfInBounds_self_of_lt (show s<a.tmps.size by rw [I.size];exact hlt)]
        refine⟨by simpa using I.lsz,I.ext.trans hx,?_,?_,?_,?_,?_,?_⟩
        · cases o.dst <;> simp [Act.put,I.size]
        · cases o.dst <;> simp [Act.put,I.nod]
        · intro k q hq hk e he hb
          rw [hset] at hk ⊢
          rcases hk with rfl|hk
          · exact .inr (hedge q hq e he hb)
          · exact .inr (I.clo k q hq hk e he hb)
        · intro k hk
          rcases (hset k).1 hk with rfl|hk
          · exact him
          · exact I.low k hk
        · intro j q s hj hq hd hlj
          by_cases hji:j=i
          · subst hji
            rw [ho] at hq;cases hq
            rw [hputs s hd];exact hv
          · have hne:o.dst≠some s:=fun h=>hji (L3 hdst hq hj ho him hd h)
            rw [hput s hne]
            rcases (hset j).1 hlj with h|h
            · exact absurd h hji
            · exact(hM j hj q hq).1 _ _ _ I.ext hx (I.new j q s hj hq hd h)
        · intro s hs t hg
          have hne:o.dst≠some s:=fun h=>hs i o him ho h ((hset i).2 (.inl rfl))
          rw [hput s hne]
          exact hG s t hg _ _ _ I.ext hx (I.old s (fun j q hj hq hd hlj=>hs j q hj hq hd ((hset j).2 (.inr hlj))) t hg)
      have hpre':∀ j,j<p→LsD (listed.setIfInBounds i true) j:=fun j hj=>by
        unfold LsD
        by_cases hij:i=j
        · subst hij;simp [I.lsz,hilt]
        · rw [getD_set_ne false hij];exact hpre j hj
      have hu':unl ops.length (listed.setIfInBounds i true)=fuel:=by
        have:=T2 (N:=ops.length) hilt I.lsz hun
        omega
      have hoa:ops.toArray[i]?=some o:=by simpa using ho
      unfold wpOp
      simp only [hoa]
      split
      · rename_i hw
        rw [if_pos hw] at hstep
        exact .inl (hstep _ _ fun v w' hv hx=>ih _ _ _ (hnext v w' hv hx) hpre' hu')
      · rename_i hw
        rw [if_neg hw] at hstep
        exact ih _ _ _ (hnext undef w hstep (Ext.refl w)) hpre' hu'
def nrm (X:Act→World→Prop) (Q:Post):Post:=fun e a w=>match e with
  | .normal=>X a w
  | e=>Q e a w
theorem B5v:∀(l:List Oper) (m:Nat) (G G':List (Nat × Ent)),(∀ s,gk G s=gk G' s)→RW P n ops w0 Q l m G→RW P n ops w0 Q l m G'
  | l,0,G,G',h,hr=>by
    have hr2:∀ a w,Ext w0 w→a.tmps.size=n→a.defers=[]→Sats G a w→wpList P ops.toArray Q l a w:=by cases l <;> exact hr
    have:∀ a w,Ext w0 w→a.tmps.size=n→a.defers=[]→Sats G' a w→wpList P ops.toArray Q l a w:=fun a w h1 h2 h3 h4=>hr2 a w h1 h2 h3 fun s t hs=>h4 s t (by rw [← h s];exact hs)
    cases l <;> exact this
  | [],m+1,_,_,_,hr=>hr.elim
  | o :: r, m + 1, G, G', h, ⟨T, h1, h2, h3, h4⟩ => by
    refine⟨T,h1,h2,fun a w e1 e2 e3 e4=>h3 a w e1 e2 e3 fun s hs t ht=>e4 s hs t (by rw [← h s];exact ht),B5v r m _ _ (fun s=>?_) h4⟩
    cases o.dst with
    | none=>exact h s
    | some d=>
      simp only [gput,B2a]
      split
      · rfl
      · exact h s
theorem Gn_add:∀(l:List Oper) (G:List (Nat × Ent)) (Ts:Nat→Ent) (p k:Nat),p≤l.length→Gn l G Ts (p+k)=Gn (l.drop p) (Gn l G Ts p) (fun j=>Ts (p+j)) k
  | l,G,Ts,0,k,_=>by
    have:Gn l G Ts 0=G:=by cases l <;> rfl
    rw [this,Nat.zero_add,List.drop_zero]
    congr 1
    funext j;rw [Nat.zero_add]
  | [],G,Ts,p+1,k,h=>by simp at h
  | o::r,G,Ts,p+1,k,h=>by
    rw [show p+1+k=(p+k)+1 by omega]
    simp only [Gn,List.drop_succ_cons]
    rw [Gn_add r _ _ p k (by simpa using h)]
    congr 1
    funext j;congr 1;omega
theorem B9m:∀ {L:List (Nat × Value)} {s:Nat} {v:Value},lk L s=some v→gk (vG L) s=some (.v v)
  | [],_,_,h=>by simp [lk] at h
  | (k,u)::r,s,v,h=>by
    simp only [vG,gk,lk] at h ⊢
    cases hb:Nat.beq k s with
    | true=>rw [hb] at h;simp at h;subst h;rfl
    | false=>rw [hb] at h;exact B9m (by simpa using h)
def pres (ops:List Oper) (p:Nat) (L:List (Nat × Value)):Bool:=(ops.take p).all fun o=>match o.dst with
  | some d=>(lk L d).isSome
  | none=>true
def PreX (P:Program) (ops:List Oper) (Q:Post) (p:Nat):Act→World→Prop:=fun a w=>
  ∀ listed:Array Bool,listed.size=ops.length→(∀ i,LsD listed i↔i<p)→wpAny P .any ops.toArray Q (ops.length-p) listed a w
theorem K_pre {L : List (Nat × Value)} {w : World} (p m : Nat) (hc : chk ops m = true) (hpm : Nat.ble p m = true) (hdm : domb n L = true) (hps : pres ops p L = true) (hok : ((ops.take p).all fun o => okd n o.dst) = true)
    (h:RQ P n ops w Q ((ops.take m).drop p) (ops.drop m) (vG L)):K n (nrm (PreX P ops Q p) Q) .normal L w:=fun a ha=>by
  intro listed hsz hp
  have hpm:=Nat.le_of_ble_eq_true hpm
  have hc':=hc
  simp only [chk,Bool.and_eq_true] at hc'
  obtain⟨⟨⟨⟨hml,hlow⟩,hreads⟩,hdst⟩,htail⟩:=hc'
  have hml:=Nat.le_of_ble_eq_true hml
  have hlist:(ops.take m).drop p++ops.drop m=ops.drop p:=by
    conv=>rhs;rw [← List.take_append_drop m ops,List.drop_append_of_le_length (by rw [List.length_take];omega)]
  have hlen:((ops.take m).drop p).length=m-p:=by rw [List.length_drop,List.length_take];omega
  unfold RQ at h
  rw [hlist,hlen] at h
  obtain⟨T0,hT0⟩:∃ T0:Nat→Ent,T0=fun k=>match (ops[k]?).bind (·.dst) with|some d=>.v ((lk L d).getD undef)|none=>.v undef:=⟨_,rfl⟩
  have hT0v:∀ k o d,k<p→ops[k]?=some o→o.dst=some d→∃ x,lk L d=some x∧T0 k=.v x:=fun k o d hk ho hd=>by
    have h1:=List.all_eq_true.1 hps o (List.mem_of_getElem? (V7 ho hk))
    rw [hd] at h1
    obtain⟨x,hx⟩:=Option.isSome_iff_exists.1 h1
    exact⟨x,hx,by rw [hT0];simp [ho,hd,hx]⟩
  have hG:∀ s,gk (vG L) s=gk (Gn ops (vG L) T0 p) s:=fun s=>by
    by_cases hex:∃ j o,j<p∧ops[j]?=some o∧o.dst=some s
    · obtain⟨j,o,hj,ho,hd⟩:=hex
      obtain⟨x,hx,ht⟩:=hT0v j o s hj ho hd
      rw [A3k ops (vG L) T0 p s j o hj ho hd (fun j' h1 h2 o' ho' hd'=>by have:=L3 hdst ho (by omega) ho' (by omega) hd hd';omega),ht,B9m hx]
    · rw [R0 ops (vG L) T0 p s (fun j hj o ho hd=>hex ⟨j,o,hj,ho,hd⟩)]
  obtain⟨T1,k1,k2⟩:=C1b _ _ _ (B5v _ _ _ _ hG h)
  obtain⟨Ts,hTs⟩:∃ Ts:Nat→Ent,Ts=fun k=>if k<p then T0 k else T1 (k-p):=⟨_,rfl⟩
  have hGp:Gn ops (vG L) Ts p=Gn ops (vG L) T0 p:=by
    have:∀(l:List Oper) (G:List (Nat × Ent)) (A B:Nat→Ent) (k:Nat),(∀ j,j<k→A j=B j)→Gn l G A k=Gn l G B k:=by
      intro l
      induction l with
      | nil=>intro G A B k _;cases k <;> rfl
      | cons o r ih=>
        intro G A B k hAB
        cases k with
        | zero=>rfl
        | succ k=>
          simp only [Gn]
          rw [hAB 0 (by omega)]
          exact ih _ _ _ k fun j hj=>hAB (j+1) (by omega)
    exact this _ _ _ _ _ fun j hj=>by rw [hTs];simp [hj]
  have hGk:∀ k,p≤k→Gn ops (vG L) Ts k=Gn (ops.drop p) (Gn ops (vG L) T0 p) T1 (k-p):=fun k hk=>by
    have:=Gn_add ops (vG L) Ts p (k-p) (by omega)
    rw [show p+(k-p)=k by omega,hGp] at this
    rw [this]
    congr 1
    funext j
    rw [hTs]
    dsimp only
    rw [if_neg (by omega),Nat.add_sub_cancel_left]
  have hdrop:∀ k o,p≤k→ops[k]?=some o→(ops.drop p)[k-p]?=some o:=fun k o hk ho=>by
    rw [List.getElem?_drop,show p+(k-p)=k by omega];exact ho
  have hTk:∀ k,p≤k→Ts k=T1 (k-p):=fun k hk=>by rw [hTs];simp [show ¬ k<p by omega]
  have hTp:∀ k,k<p→Ts k=T0 k:=fun k hk=>by rw [hTs];simp [hk]
  have hT0m:∀ k,(T0 k).mono w:=fun k=>by
    rw [hT0];dsimp only
    split <;> exact fun _ _ _ _ _ h=>h
  refine C6m (w0:=w) (m:=m) (G0:=vG L) (Ts:=Ts) p hc (fun k hk o ho=>?_) (fun k hpk hk o ho=>?_) (fun a' w' x1 x2 x3 x4=>?_)
    (fun s t hs=>by obtain⟨v,rfl,_⟩:=V2 L s t hs;exact fun _ _ _ _ _ h=>h) (fun s t hs=>by obtain⟨v,rfl,hl⟩:=V2 L s t hs;exact A3a hdm hl)
    (ops.length-p) listed a w ⟨hsz,Ext.refl w,ha.size,ha.nod,fun i o ho hi e he hb=>(hp _).2 (Nat.lt_trans (O6 hlow ho he hb) ((hp i).1 hi)),fun i hi=>by have:=(hp i).1 hi;omega,?_,?_⟩ (fun j hj=>(hp j).2 hj) ?_
  · by_cases hkp:k<p
    · rw [hTp k hkp]
      exact⟨hT0m k,List.all_eq_true.1 hok o (List.mem_of_getElem? (V7 ho hkp))⟩
    · rw [hTk k (by omega)]
      obtain⟨e1,e2,_⟩:=k1 (k-p) (by omega) o (hdrop k o (by omega) ho)
      exact⟨e1,e2⟩
  · rw [hTk k hpk,hGk k hpk]
    exact(k1 (k-p) (by omega) o (hdrop k o hpk ho)).2.2
  · rw [hGk m hpm] at x4
    have:=k2 a' w' x1 x2 x3 x4
    rwa [List.drop_drop,show p+(m-p)=m by omega] at this
  · intro j o s hj ho hd hlj
    have hjp:=(hp j).1 hlj
    obtain⟨x,hx,ht⟩:=hT0v j o s hjp ho hd
    rw [hTp j hjp,ht]
    simp [Ent.sat,Array.getD_eq_getD_getElem?,ha.get s x hx]
  · intro s _ t hs
    obtain⟨v,rfl,hl⟩:=V2 L s t hs
    simp [Ent.sat,Array.getD_eq_getD_getElem?,ha.get s v hl]
  · have:=J7 (N:=ops.length) (show p≤ops.length by omega) hp
    omega
end
end Go.En
namespace Go.En
open Go.RowKit
section
variable {P : Program} {n : Nat} {ops : List Oper} {w0 : World} {Q : Post} {m : Nat} {G0 : List (Nat × Ent)} {Ts : Nat → Ent}
theorem any_two (hm:m≤ops.length) (hlow:Z1 ops=true) (hreads:S5 ops m=true) (hdst:A3y ops m=true) (htwo:∀ k j,m≤k→k<ops.length→j<m→Rch ops k j)
    (hC:∀ k<m,∀ o,ops[k]?=some o→(Ts k).mono w0∧okd n o.dst=true∧OpC P n ops w0 o (Gn ops G0 Ts k) (Ts k))
    (hF:∀ a w,Ext w0 w→a.tmps.size=n→a.defers=[]→Sats (Gn ops G0 Ts m) a w→PreX P ops Q m a w)
    (hG:∀ s t,gk G0 s=some t→t.mono w0) (hdom:∀ s t,gk G0 s=some t→s<n) :
    ∀(fuel:Nat) (listed:Array Bool) (a:Act) (w:World),Inv n ops w0 m G0 Ts listed a w→unl ops.length listed=fuel→wpAny P .any ops.toArray Q fuel listed a w:=by
  have hget:∀ j,j<m→∃ o,ops[j]?=some o:=fun j hj=>⟨_,List.getElem?_eq_getElem (by omega)⟩
  have hent:∀(listed:Array Bool) (a:Act) (w:World),Inv n ops w0 m G0 Ts listed a w→∀(k s:Nat) (t:Ent),k≤m→gk (Gn ops G0 Ts k) s=some t→
      (∀ j o,j<m→ops[j]?=some o→o.dst=some s→(j<k→LsD listed j)∧(k≤j→¬ LsD listed j))→t.sat (a.tmps.getD s undef) w:=by
    intro listed a w I k s t hk hg hw
    by_cases hex:∃ j o,j<k∧ops[j]?=some o∧o.dst=some s
    · obtain⟨j,o,hj,ho,hd⟩:=hex
      rw [A3k ops G0 Ts k s j o hj ho hd (fun j' h1 h2 o' ho' hd'=>by have:=L3 hdst ho (by omega) ho' (by omega) hd hd';omega)] at hg
      cases hg
      exact I.new j o s (by omega) ho hd ((hw j o (by omega) ho hd).1 hj)
    · rw [R0 ops G0 Ts k s (fun j hj o ho hd=>hex ⟨j,o,hj,ho,hd⟩)] at hg
      refine I.old s (fun j o hj ho hd=>?_) t hg
      by_cases hjk:j<k
      · exact absurd ⟨j,o,hjk,ho,hd⟩ hex
      · exact(hw j o hj ho hd).2 (by omega)
  have hfin:∀(listed:Array Bool) (a:Act) (w:World) (fuel:Nat),Inv n ops w0 m G0 Ts listed a w→(∀ j,j<m→LsD listed j)→unl ops.length listed=fuel→wpAny P .any ops.toArray Q fuel listed a w:=by
    intro listed a w fuel I hall hu
    have hp:∀ i,LsD listed i↔i<m:=fun i=>⟨I.low i,hall i⟩
    have:=J7 hm hp
    have hfu:fuel=ops.length-m:=by omega
    subst hfu
    refine hF a w I.ext I.size I.nod ?_ listed I.lsz hp
    intro s t hg
    refine⟨?_,hent listed a w I m s t (Nat.le_refl _) hg fun j o hj _ _=>⟨fun _=>hall j hj,fun h=>absurd hj (by omega)⟩⟩
    rw [I.size]
    by_cases hex:∃ j o,j<m∧ops[j]?=some o∧o.dst=some s
    · obtain⟨j,o,hj,ho,hd⟩:=hex
      have:=(hC j hj o ho).2.1
      rw [hd] at this
      exact Nat.le_of_ble_eq_true this
    · rw [R0 ops G0 Ts m s (fun j hj o ho hd=>hex ⟨j,o,hj,ho,hd⟩)] at hg
      exact hdom s t hg
  have hleast:∀(listed:Array Bool) (a:Act) (w:World),Inv n ops w0 m G0 Ts listed a w→(¬ ∀ j,j<m→LsD listed j)→∃ i,i<m∧i∈Region.ready .any ops.toArray listed:=by
    intro listed a w I hn
    have:∃ i,i<m∧¬ LsD listed i:=by
      apply Classical.byContradiction
      intro h
      exact hn fun j hj=>Classical.byContradiction fun hj'=>h ⟨j,hj,hj'⟩
    obtain⟨i,h1,h2,h3⟩:=W8 (fun i=>by unfold LsD;infer_instance) m this
    obtain⟨o,ho⟩:=hget i h1
    exact⟨i,h1,(G5 I.lsz).2 ⟨h2,o,ho,fun e he hb=>h3 _ (O6 hlow ho he hb)⟩⟩
  intro fuel
  induction fuel with
  | zero=>
    intro listed a w I hu
    by_cases hall:∀ j,j<m→LsD listed j
    · exact hfin listed a w 0 I hall hu
    · exfalso
      obtain⟨i,h1,h2⟩:=hleast listed a w I hall
      have:=T2 (N:=ops.length) (by omega) I.lsz ((G5 I.lsz).1 h2).1
      omega
  | succ fuel ih =>
    intro listed a w I hu
    by_cases hall:∀ j,j<m→LsD listed j
    · exact hfin listed a w _ I hall hu
    · obtain ⟨i0, hi0m, hi0⟩ := hleast listed a w I hall
      refine⟨fun h0=>(by rw [h0] at hi0;cases hi0),fun i hi=>?_⟩
      obtain⟨hun,o,ho,hed⟩:=(G5 I.lsz).1 hi
      have hilt:=(List.getElem?_eq_some_iff.1 ho).1
      have hedge:∀ o',ops[i]?=some o'→∀ e∈o'.after,Region.binds .any e=true→LsD listed e.on:=fun o' ho'=>by rw [ho] at ho';cases ho';exact hed
      have him:i<m:=by
        apply Classical.byContradiction
        intro hge
        exact hall fun j hj=>(htwo i j (by omega) hilt hj).clo I.clo hedge
      obtain⟨hmono,hokd,hop⟩:=hC i him o ho
      have hsat:∀ s∈o.looksAt ops.toArray,∀ t,gk (Gn ops G0 Ts i) s=some t→t.sat (a.tmps.getD s undef) w:=by
        intro s hs t hg
        refine hent listed a w I i s t (by omega) hg fun j q hj hq hd=>?_
        have hr:=H9 hreads ho him hq hj hs hd
        refine⟨fun hlt=>(hr.1 hlt).clo I.clo hedge,fun hle hlj=>?_⟩
        by_cases hji:j=i
        · subst hji;exact hun hlj
        · exact hun ((hr.2 (by omega)).clo I.clo (fun o' ho' e he hb=>I.clo j o' ho' hlj e he hb))
      have hstep:=hop a w I.ext I.size I.nod hsat
      have hnext:∀ v w',(Ts i).sat v w'→Ext w w'→Inv n ops w0 m G0 Ts (listed.setIfInBounds i true) (a.put o.dst v) w':=by
        intro v w' hv hx
        have hset:∀ j,LsD (listed.setIfInBounds i true) j↔(j=i∨LsD listed j):=fun j=>by
          unfold LsD
          by_cases hij:i=j
          · subst hij;simp [I.lsz,hilt]
          · rw [getD_set_ne false hij];constructor
            · exact .inr
            · rintro(h|h)
              · exact absurd h.symm hij
              · exact h
        have hput:∀ s,o.dst≠some s→(a.put o.dst v).tmps.getD s undef=a.tmps.getD s undef:=fun s hs=>by
          cases hd:o.dst with
          | none=>rfl
          | some d=>
            have hne:d≠s:=fun e=>hs (by rw [hd,e])
            simp [Act.put,Array.getD_eq_getD_getElem?,Array.getElem?_setIfInBounds_ne hne]
        have hputs:∀ s,o.dst=some s→(a.put o.dst v).tmps.getD s undef=v:=fun s hs=>by
          have hlt:s<n:=by
            have:=hokd;rw [hs] at this;exact Nat.le_of_ble_eq_true this
          simp [Act.put,hs,Array.getD_eq_getD_getElem?,Array.getElem?_setIfInBounds_self_of_lt (show s<a.tmps.size by rw [I.size];exact hlt)]
        refine⟨by simpa using I.lsz,I.ext.trans hx,?_,?_,?_,?_,?_,?_⟩
        · cases o.dst <;> simp [Act.put,I.size]
        · cases o.dst <;> simp [Act.put,I.nod]
        · intro k q hq hk e he hb
          rw [hset] at hk ⊢
          rcases hk with rfl|hk
          · exact .inr (hedge q hq e he hb)
          · exact .inr (I.clo k q hq hk e he hb)
        · intro k hk
          rcases (hset k).1 hk with rfl|hk
          · exact him
          · exact I.low k hk
        · intro j q s hj hq hd hlj
          by_cases hji:j=i
          · subst hji
            rw [ho] at hq;cases hq
            rw [hputs s hd];exact hv
          · have hne:o.dst≠some s:=fun h=>hji (L3 hdst hq hj ho him hd h)
            rw [hput s hne]
            rcases (hset j).1 hlj with h|h
            · exact absurd h hji
            · exact(hC j hj q hq).1 _ _ _ I.ext hx (I.new j q s hj hq hd h)
        · intro s hs t hg
          have hne:o.dst≠some s:=fun h=>hs i o him ho h ((hset i).2 (.inl rfl))
          rw [hput s hne]
          exact hG s t hg _ _ _ I.ext hx (I.old s (fun j q hj hq hd hlj=>hs j q hj hq hd ((hset j).2 (.inr hlj))) t hg)
      have hu':unl ops.length (listed.setIfInBounds i true)=fuel:=by
        have:=T2 (N:=ops.length) hilt I.lsz hun
        omega
      have hoa:ops.toArray[i]?=some o:=by simpa using ho
      unfold wpOp
      simp only [hoa]
      split
      · rename_i hw
        rw [if_pos hw] at hstep
        exact .inl (hstep _ _ fun v w' hv hx=>ih _ _ _ (hnext v w' hv hx) hu')
      · rename_i hw
        rw [if_neg hw] at hstep
        exact ih _ _ _ (hnext undef w hstep (Ext.refl w)) hu'
def C6c (ops:List Oper) (m:Nat):Bool:=
  let b:=bf ops
  (List.range ops.length).all fun k=>Nat.blt k m||(List.range m).all fun j=>(b.getD k 0).testBit j
theorem C2u {ops:List Oper} {m:Nat} (h:C6c ops m=true) {k j:Nat} (hk:k<ops.length) (hmk:m≤k) (hj:j<m):Rch ops k j:=by
  have h1:=List.all_eq_true.1 h k (by simpa using hk)
  have h0:Nat.blt k m=false:=by
    cases hb:Nat.blt k m with
    | false=>rfl
    | true=>have:=Nat.le_of_ble_eq_true hb;omega
  rw [h0,Bool.false_or] at h1
  exact A0t (List.all_eq_true.1 h1 j (by simpa using hj))
def chk2 (ops:List Oper) (m:Nat):Bool:=Nat.ble m ops.length&&(Z1 ops&&(S5 ops m&&(A3y ops m&&C6c ops m)))
theorem B2q:∀(l:List Oper) (G:List (Nat × Ent)) (Ts:Nat→Ent) (m k:Nat),k≤m→Gn (l.take m) G Ts k=Gn l G Ts k
  | l,G,Ts,m,0,_=>by
    have e1:Gn (l.take m) G Ts 0=G:=by cases l.take m <;> rfl
    have e2:Gn l G Ts 0=G:=by cases l <;> rfl
    rw [e1,e2]
  | [],_,_,m,k+1,_=>by rw [List.take_nil]
  | o::r,G,Ts,0,k+1,h=>absurd h (by omega)
  | o::r,G,Ts,m+1,k+1,h=>by
    rw [List.take_succ_cons,Gn,Gn]
    exact B2q r _ _ m k (by omega)
theorem E_two {id:Nat} {L:List (Nat × Value)} {w:World} (m:Nat) (hm:P.follows .mixedOrders=true) (hc:chk2 ops m=true) (hdm:domb n L=true)
    (h:RQ P n ops w (nrm (PreX P ops Q m) Q) (ops.take m) [] (vG L)):E P n (.region id ops.toArray true) Q L w:=by
  intro a ha
  simp only [chk2,Bool.and_eq_true] at hc
  obtain⟨hml,hlow,hreads,hdst,htwo⟩:=hc
  have hml:=Nat.le_of_ble_eq_true hml
  unfold RQ at h
  rw [List.append_nil,List.length_take,Nat.min_eq_left hml] at h
  obtain⟨Ts,h1,h2⟩:=C1b (ops.take m) m _ h
  refine wp_region_any hm ?_
  rw [show ops.toArray.size=ops.length by simp]
  have hp:∀ i,LsD (Array.replicate ops.length false) i↔i<0:=fun i=>by
    unfold LsD;simp [Array.getElem?_replicate];split <;> rfl
  refine any_two (Ts:=Ts) (G0:=vG L) (w0:=w) (n:=n) hml hlow hreads hdst (fun k j h1 h2 h3=>C2u htwo h2 h1 h3) (fun k hk o ho=>?_) (fun a' w' x1 x2 x3 x4=>?_)
    (fun s t hs=>by obtain⟨v,rfl,_⟩:=V2 L s t hs;exact fun _ _ _ _ _ h=>h) (fun s t hs=>by obtain⟨v,rfl,hl⟩:=V2 L s t hs;exact A3a hdm hl)
    _ _ a _ ⟨by simp,P9 w,ha.size,ha.nod,fun i o _ hi=>absurd ((hp i).1 hi) (Nat.not_lt_zero _),fun i hi=>absurd ((hp i).1 hi) (Nat.not_lt_zero _),
    fun j o s _ _ _ hj=>absurd ((hp j).1 hj) (Nat.not_lt_zero _),fun s _ t hs=>?_⟩ ?_
  · have:=h1 k hk o (by rw [List.getElem?_take_of_lt hk];exact ho)
    rw [B2q _ _ _ _ _ (by omega)] at this
    exact this
  · have:=h2 a' w' x1 x2 x3 (by rw [B2q _ _ _ _ _ (Nat.le_refl _)];exact x4)
    rw [List.drop_eq_nil_of_le (by rw [List.length_take];omega)] at this
    exact this
  · obtain⟨v,rfl,hl⟩:=V2 L s t hs
    simp [Ent.sat,Array.getD_eq_getD_getElem?,ha.get s v hl]
  · have:=J7 (N:=ops.length) (Nat.zero_le _) hp
    omega
end
end Go.En
