/-
  Own text of the proof.
-/
import Derived.Test.YtjicdgejhkgpgaaGreatDoorUb
import Derived.Test.YtjicdgejhkgpgaaGreatDoorY7
import Derived.Test.YtjicdgejhkgpgaaGreatDoorYs
import Derived.Test.YtjicdgejhkgpgaaGreatDoorY8
import Derived.Test.YtjicdgejhkgpgaaGreatDoorYp
import Derived.Test.YtjicdgejhkgpgaaGreatDoorYz
import Derived.Test.YtjicdgejhkgpgaaGreatDoorYf
import Derived.MapKept
import Derived.Test.YtjicdgejhkgpgaaGreatDoorYk
set_option linter.all false
set_option maxHeartbeats 8000000
set_option maxRecDepth 8000
namespace Go.Proofs.YtjicdgejhkgpgaaGreatDoor
section
open Go.RowKit Go.En Go.Pv
theorem grow_row {α:Type} [Rep α] {Gx:Nat→Prop} {u0 w:World} {e:TypeId} {xs:List α} {ov:Value} (h:Grow Gx u0 e xs ov w) (h0:0<xs.length) :
    ∃ g cap cur css,ov=.slice (some ⟨g,0,none⟩) xs.length cap∧u0.heap.size≤g∧Row w g e cur∧xs.length≤cap∧cur.length=cap*Rep.sz α∧cap≤maxLen∧cur.take (xs.length*Rep.sz α)=css.flatten∧AtsG (Gq Gx ov) w xs css:=by
  obtain⟨h1,css,h2,h3⟩:=h
  obtain⟨h4,h5⟩:=h2
  rcases h5 with⟨_,hn⟩|⟨g,cap,cur,hv,hb,hg,hc,hm,hs,ht⟩
  · omega
  · exact⟨g,cap,cur.toList,css,hv,hb,hg,hc,by simpa using hs,hm,ht,h3⟩
theorem grow_of {α:Type} [Rep α] {Gx:Nat→Prop} {u0 w:World} {e:TypeId} {xs:List α} {g cap:Nat} {cur:List Value} {css:List (List Value)} (x:Ext u0 w) (hb:u0.heap.size≤g) (hr:Row w g e cur) (hc:xs.length≤cap) (hs:cur.length=cap*Rep.sz α) (hm:cap≤maxLen)
    (ht:cur.take (xs.length*Rep.sz α)=css.flatten) (ha:AtsG (Gq Gx (.slice (some ⟨g,0,none⟩) xs.length cap)) w xs css):Grow Gx u0 e xs (.slice (some ⟨g,0,none⟩) xs.length cap) w:=by
  refine⟨x,css,⟨AtsG.flat ha,.inr ⟨g,cap,cur.toArray,rfl,hb,hr,hc,hm,by simpa using hs,by simpa using ht⟩⟩,ha⟩
theorem ins_cells {cur A B z r:List Value} {i n:Nat} (hA:A.length=i*2) (hB:B.length=(n-i)*2) (hz:z.length=2) (hr:r.length=2) (hi:i≤n) (hcur:cur.take ((n+1)*2)=A++B++z) :
    (((cur.take ((i+1)*2)++B++cur.drop ((i+1)*2+B.length)).take (i*2)++r++(cur.take ((i+1)*2)++B++cur.drop ((i+1)*2+B.length)).drop (i*2+r.length)).take ((n+1)*2)=A++r++B)∧
    ((cur.take ((i+1)*2)++B++cur.drop ((i+1)*2+B.length)).take (i*2)++r++(cur.take ((i+1)*2)++B++cur.drop ((i+1)*2+B.length)).drop (i*2+r.length)).length=cur.length:=by
  obtain⟨S,hS⟩:∃ S,S=cur.drop ((n+1)*2):=⟨_,rfl⟩
  have hc:cur=A++((B++z)++S):=by rw [← List.take_append_drop ((n+1)*2) cur,hcur,hS];simp
  have hT:cur.take ((i+1)*2)=A++(B++z).take 2:=by
    rw [hc,show(i+1)*2=A.length+2 by omega,List.take_length_add_append,List.take_append_of_le_length (by rw [List.length_append];omega)]
  have hD:cur.drop ((i+1)*2+B.length)=S:=by rw [hS];congr 1;omega
  have hl:((B++z).take 2).length=2:=by rw [List.length_take,List.length_append];omega
  have h1:cur.take ((i+1)*2)++B++cur.drop ((i+1)*2+B.length)=A++(((B++z).take 2)++(B++S)):=by rw [hT,hD];simp only [List.append_assoc]
  have h2:(A++(((B++z).take 2)++(B++S))).take (i*2)=A:=by rw [← hA,List.take_left'];rfl
  have h3:(A++(((B++z).take 2)++(B++S))).drop (i*2+r.length)=B++S:=by
    revert hl
    generalize (B++z).take 2=T
    intro hl
    rw [hr,← hA,List.drop_length_add_append,← hl,List.drop_left'];rfl
  rw [h1,h2,h3]
  constructor
  · have:A++r++(B++S)=(A++r++B)++S:=by simp only [List.append_assoc]
    rw [this,List.take_left']
    rw [List.length_append,List.length_append];omega
  · have:=congrArg List.length hc
    simp only [List.length_append] at this ⊢
    omega
attribute [local irreducible] E EL K Val Enters Rt Calls bodyPost Code.wp RQ
theorem Px {ds:List Dc} (hL:LightDs ds) (l:List Pnt) (hn:l.length≤100) (hr:∀ p∈l,p.refs.length≤1000) (dv v:Value) (w:World) (hd:Sl w dv ds) (hv:Sl w v l):Calls Tryz.prog 29 #[dv,v] w (Rt fun u w'=>SlG (fun b=>w.heap.size≤b) w' u (danglF (Bf ds) l)∧Ext w w'):=by
  rw [dangl_eq]
  have hv1:=hv
  have hv0:=hv
  have hd0:=hd
  obtain⟨a,c,rfl,_,hm,hpp⟩:=hv.sl
  refine A7 (n:=78) (args:=[dv,.slice a l.length c]) Tryz.func29 rfl Tryz.ntmps29 (by simp) ?_
  (repeat' (first|refine Sy ?_))
  refine Ae (ι:=Nat × Value) (fun z=>[(0,dv),(5,z.2),(13,.slice a l.length c),(14,int l.length),(15,int z.1)])
    (fun z wr=>z.1≤l.length∧Grow (fun b=>w.heap.size≤b) w 39 (Cj [] (Fm (Bf ds) (l.take z.1))) z.2 wr) (fun z=>l.length-z.1) (0,.slice none 0 0)
    ⟨rfl,rfl,rfl,rfl,rfl,trivial⟩ ⟨Nat.zero_le _,Grow.none⟩ ?_
  rintro⟨i,ov⟩ wr ⟨hi,ho⟩
  dsimp only at hi ho ⊢
  have hx:=ho.x
  replace hv0:=hv0.ext hx
  by_cases hlt:i<l.length
  · obtain⟨b,off,rfl⟩:=hpp (by omega)
    obtain⟨p,hpi⟩:∃ p,l[i]?=some p:=⟨_,List.getElem?_eq_getElem hlt⟩
    have hs:=refsTo_succ (leads:=Bf ds) hpi
    obtain⟨O,hO⟩:∃ O,O=Cj [] (Fm (Bf ds) (l.take i)):=⟨_,rfl⟩
    rw [← hO] at ho
    have hnext:Cj [] (Fm (Bf ds) (l.take (i+1)))=Cj O (p.refs.filter fun r=>!Bf ds r):=by rw [hs,K5,hO]
    have hOu:UpR O:=by rw [hO];exact Mc List.Pairwise.nil _
    have hOl:O.length≤100000:=by
      have h1:=Hx (rs:=Fm (Bf ds) (l.take i)) (l:=[])
      have h2:=Ow (leads:=Bf ds) (l:=l.take i) (m:=100) (fun q hq=>hr q (List.mem_of_mem_take hq)) (by rw [List.length_take];omega)
      rw [← hO] at h1
      simp only [List.length_nil] at h1
      omega
    have hpr:=hr p (List.mem_of_getElem? hpi)
    obtain⟨a0,c0,a1,c1,hat0,_,_,hrs⟩:=Iv hv1 hpi
    have hrs1:=hrs
    have hat:=hat0.ext hx
    obtain⟨_,_,ee,_,_,hrp⟩:=hrs.sl
    cases ee
    have hxr:=Ext.refl wr
    (repeat' (first|refine eV Z Z (A0 (m:=i) Z Z Z (by first|rfl|omega) (by omega)) ?_|(refine Am Z Z Z Z Z Z Z Z Z Z (fun bP wP xP hbP rP=>?_);replace hxr:=hxr.trans xP)|refine Ly ?_|refine Dy (fun hh=>?_) fun hh=>?_))
    all_goals (try (exfalso;omega))
    refine Ae (ι:=Nat × Value) (fun z=>[(0,dv),(5,z.2),(13,.slice (some ⟨b,off,none⟩) l.length c),(14,int l.length),(15,int i),(20,.slice a1 p.refs.length c1),(21,int p.refs.length),(22,int z.1)])
      (fun z wk=>z.1≤p.refs.length∧Grow (fun b=>w.heap.size≤b) w 39 (Cj O ((p.refs.take z.1).filter fun r=>!Bf ds r)) z.2 wk) (fun z=>p.refs.length-z.1) (0,ov)
      ⟨rfl,rfl,rfl,rfl,rfl,rfl,rfl,rfl,trivial⟩ ⟨Nat.zero_le _,ho.ext hxr⟩ ?_
    clear hxr
    rintro⟨k,o2⟩ wk ⟨hk,ho2⟩
    dsimp only at hk ho2 ⊢
    by_cases hlk:k<p.refs.length
    · obtain⟨rb,ro,rfl⟩:=hrp (by omega)
      obtain⟨x,hxi⟩:∃ x,p.refs[k]?=some x:=⟨_,List.getElem?_eq_getElem hlk⟩
      have hatx:=Dk (hrs1.ext ho2.x) hxi
      have hft:=filter_snoc (f:=fun r=>!Bf ds r) hxi
      obtain⟨O2,hO2⟩:∃ O2,O2=Cj O ((p.refs.take k).filter fun r=>!Bf ds r):=⟨_,rfl⟩
      have hO2u:UpR O2:=by rw [hO2];exact Mc hOu _
      have hO2l:O2.length≤1000000:=by
        have h1:=Hx (rs:=(p.refs.take k).filter fun r=>!Bf ds r) (l:=O)
        have h2:=C0 (p:=fun r=>!Bf ds r) (l:=p.refs) (i:=k)
        rw [← hO2] at h1
        omega
      rw [← hO2] at ho2
      have cw:=fun wz (hz:Ext w wz)=>Fe hL x dv wz (hd0.ext hz)
      have hVV:Cz ds x=.tuple #[.agg #[int (Cc ds x).1,int (Cc ds x).2],.bool (Bf ds x)]:=rfl
      rw [hVV] at cw
      have hxk:=ho2.x
      obtain⟨oa,oc,rfl,_,_,hop⟩:=(ho2.sl (fun _ h=>h) (by omega)).sl
      cases hb:Bf ds x with
      | true=>
        rw [hb] at cw hft
        rw [show(if (!true)=true then [x] else [])=([]:List Rf) from rfl,List.append_nil] at hft
        (repeat' (first|refine eV Z Z (A0 (m:=k) Z Z Z (by first|rfl|omega) (by omega)) ?_|(refine Am (t:=39) Z Z Z Z Z Z Z Z Z Z (fun bX wX xX hbX rX=>?_);replace hxk:=hxk.trans xX;replace ho2:=ho2.ext xX)|(refine cqC (cw _ hxk) en35 fun wC xC=>?_;replace hxk:=hxk.trans xC;replace ho2:=ho2.ext xC;replace rX:=rX.ext xC)|(refine Am (t:=76) Z Z Z Z Z Z Z Z Z Z (fun bN wN xN hbN rN=>?_);replace hxk:=hxk.trans xN;replace ho2:=ho2.ext xN)|refine Ly ?_|refine Dy (fun hh=>?_) fun hh=>?_))
        all_goals (try (exfalso;omega))
        exact Ad (k+1,_) ⟨rfl,rfl,rfl,rfl,rfl,rfl,rfl,rfl,trivial⟩ ⟨by dsimp only;omega,by dsimp only;rw [hft,← hO2];exact ho2⟩ (by dsimp only;omega)
      | false =>
        rw [hb] at cw hft
        rw [show(if (!false)=true then [x] else [])=[x] from rfl] at hft
        have hput:Cj O ((p.refs.take (k+1)).filter fun r=>!Bf ds r)=putR O2 x:=by rw [hft,K5,← hO2];rfl
        have hown:=ho2
        (repeat' (first|refine eV Z Z (A0 (m:=k) Z Z Z (by first|rfl|omega) (by omega)) ?_|(refine Am (t:=39) Z Z Z Z Z Z Z Z Z Z (fun bX wX xX hbX rX=>?_);have hnX:=hown.nbn (b:=bX) (by omega);replace hxk:=hxk.trans xX;replace ho2:=ho2.ext xX)|(refine cqC (cw _ hxk) en35 fun wC xC=>?_;replace hxk:=hxk.trans xC;replace ho2:=ho2.ext xC;replace rX:=rX.ext xC)|(refine Am (t:=76) Z Z Z Z Z Z Z Z Z Z (fun bN wN xN hbN rN=>?_);replace hxk:=hxk.trans xN;replace ho2:=ho2.ext xN;replace rX:=rX.ext xN)|refine Ly ?_|refine Dy (fun hh=>?_) fun hh=>?_))
        all_goals (try (exfalso;omega))
        refine Ae (ι:=Nat) (fun j=>[(0,dv),(5,.slice oa O2.length oc),(9,.pointer (some ⟨bX,0,none⟩)),(12,int j),(13,.slice (some ⟨b,off,none⟩) l.length c),(14,int l.length),(15,int i),(20,.slice (some ⟨rb,ro,none⟩) p.refs.length c1),(21,int p.refs.length),(22,int k)])
          (fun j wj=>j≤O2.length∧Ext wN wj∧∀(q:Nat) (y:Rf),j≤q→O2[q]?=some y→ltR x y) (fun j=>j) O2.length
          ⟨rfl,rfl,rfl,rfl,rfl,rfl,rfl,rfl,rfl,rfl,trivial⟩ ⟨Nat.le_refl _,Ext.refl _,fun q y hq hy=>absurd (List.getElem?_eq_some_iff.1 hy).1 (by omega)⟩ ?_
        rintro j wj ⟨hj,hxj,hhigh⟩
        have rXj:=rX.ext hxj
        have hgrj:=ho2.ext hxj
        have slj:=hgrj.sl (fun _ h=>h) (by omega)
        by_cases h0:0<j
        · obtain ⟨ob, oo, rfl⟩ := hop (by omega)
          obtain⟨y,hyj⟩:∃ y,O2[j-1]?=some y:=⟨_,List.getElem?_eq_getElem (by omega)⟩
          have haty:=Dk slj hyj
          have cp:=fun wz=>P2 x y wz
          by_cases hlr:ltR x y
          · rw [decide_eq_true hlr] at cp
            (repeat' (first|(refine yN Z (fun wq xq=>?_);replace hxj:=hxj.trans xq)|refine yV Z Z (fun _ _ _=>A0 (m:=j-1) Z Z Z (by first|rfl|omega) (by omega)) ?_|refine An Z Z (fun _ _ _=>A3 Z Z en64) (fun wq _=>cp wq) ?_|refine Sy ?_|refine yqY ?_|refine yqZ ?_|refine yqX (fun hh=>?_) fun hh=>?_|refine E_dq Aa (by kernel_rfl) Z ?_|refine yO Z Z ?_))
            all_goals (try (exfalso;omega))
            refine Ad (j-1) ⟨rfl,rfl,rfl,by(show some (int _)=some (int _);congr 2;omega),rfl,rfl,rfl,rfl,rfl,rfl,trivial⟩ ⟨by omega,hxj,fun q z hq hz=>?_⟩ (by omega)
            by_cases e:q=j-1
            · subst e;rw [hyj] at hz;cases hz;exact hlr
            · exact hhigh q z (by omega) hz
          · rw [decide_eq_false hlr] at cp
            have hpe:=put_end hO2u hj hhigh (fun z _ hz=>by rw [hyj] at hz;cases hz;exact hlr)
            by_cases hxy:y=x
            · rw [if_pos ⟨h0,by rw [hyj,hxy]⟩] at hpe
              (repeat' (first|(refine yN Z (fun wq xq=>?_);replace hxj:=hxj.trans xq;replace rXj:=rXj.ext xq;replace hgrj:=hgrj.ext xq;replace haty:=haty.ext xq)|refine yV Z Z (fun _ _ _=>A0 (m:=j-1) Z Z Z (by first|rfl|omega) (by omega)) ?_|refine An Z Z (fun _ _ _=>A3 Z Z en64) (fun wq _=>cp wq) ?_|refine yV Z Z (fun _ _ _=>Gt [y.rcd,y.note] [x.rcd,x.note] (r:=true) ints39 rfl rfl rfl rfl rfl rfl (decide_eq_true (rf_eq.2 hxy))) ?_|refine Sy ?_|refine yqY ?_|refine yqZ ?_|refine yqX (fun hh=>?_) fun hh=>?_|refine E_dq Aa (by kernel_rfl) Z ?_|refine yO Z Z ?_))
              all_goals (try (exfalso;omega))
              exact Ad (k+1,_) ⟨rfl,rfl,rfl,rfl,rfl,rfl,rfl,rfl,trivial⟩ ⟨by dsimp only;omega,by dsimp only;rw [hput,hpe];exact hgrj⟩ (by dsimp only;omega)
            · rw [if_neg (fun h=>hxy (by have:=h.2;rw [hyj] at this;cases this;rfl))] at hpe
              (repeat' ((fail_if_success (refine Ac (x:=(Code.region 14 _ _)) ?_));first|(refine yN Z (fun wq xq=>?_);replace hxj:=hxj.trans xq;replace rXj:=rXj.ext xq;replace hgrj:=hgrj.ext xq;replace haty:=haty.ext xq)|refine yV Z Z (fun _ _ _=>A0 (m:=j-1) Z Z Z (by first|rfl|omega) (by omega)) ?_|refine An Z Z (fun _ _ _=>A3 Z Z en64) (fun wq _=>cp wq) ?_|refine yV Z Z (fun _ _ _=>Gt [y.rcd,y.note] [x.rcd,x.note] (r:=false) ints39 rfl rfl rfl rfl rfl rfl (decide_eq_false (fun h=>hxy (rf_eq.1 h)))) ?_|refine Sy ?_|refine yqY ?_|refine yqZ ?_|refine yqX (fun hh=>?_) fun hh=>?_|refine E_dq Aa (by kernel_rfl) Z ?_|refine yO Z Z ?_))
              all_goals (try (exfalso;omega))
              refine E.sub (M:=[(0,dv),(5,_),(9,.pointer (some ⟨bX,0,none⟩)),(12,int j),(13,.slice (some ⟨b,off,none⟩) l.length c),(14,int l.length),(15,int i),(20,.slice (some ⟨rb,ro,none⟩) p.refs.length c1),(21,int p.refs.length),(22,int k)]) ⟨rfl,rfl,rfl,rfl,rfl,rfl,rfl,rfl,rfl,rfl,trivial⟩ ?_
              (repeat' ((fail_if_success (refine Ac (x:=(Code.region 15 _ _)) ?_));first|refine eV Z Z (Af (vs:=[]) [int 0,int 0] rfl rfl rfl) ?_|(refine M2 (x:=(⟨0,0⟩:Rf)) (hgrj.ext xS) rS rfl rfl rfl rfl rfl rfl rfl rfl (by omega) (by omega) (fun vK wK hK kK hJ=>?_))|refine Sy ?_|refine eL Z Z Z Z Z Z Z Z (fun bS wS xS hbS rS=>?_)))
              have hkp:Kp _ vK wS wK:=⟨kK,hJ.imp (fun h=>h) (fun h=>⟨_,h,Nat.le_refl _⟩)⟩
              obtain⟨rXK,hnK⟩:=hkp.row (rXj.ext xS) hnX
              obtain⟨g,cap,cur,css,rfl,hge,rG,hcap,hcl,hcm,hct,hcs⟩:=grow_row hK (by simp)
              have ecs:=ats_rf hcs
              subst ecs
              have hgX:bX≠g:=fun e=>hnK (by rw [e];rfl)
              have hl1:(O2++[(⟨0,0⟩:Rf)]).length=O2.length+1:=by simp
              rw [hl1] at hct hcap
              have hxK:=hK.x
              have hct2:cur.take ((O2.length+1)*2)=((O2.take j).map rfC).flatten++((O2.drop j).map rfC).flatten++[int 0,int 0]:=by
                have e1:(O2++[(⟨0,0⟩:Rf)]).map rfC=((O2.take j).map rfC++(O2.drop j).map rfC)++[rfC ⟨0,0⟩]:=by
                  rw [List.map_append,← List.map_append (l₁:=O2.take j),List.take_append_drop];rfl
                rw [show(O2.length+1)*2=(O2.length+1)*Rep.sz Rf from rfl,hct,e1,List.flatten_append,List.flatten_append];rfl
              have hfa:((O2.take j).map rfC).flatten.length=j*2:=by rw [F5 (k:=2) (fun c hc=>by obtain⟨q,_,rfl⟩:=List.mem_map.1 hc;rfl),List.length_map,List.length_take,Nat.min_eq_left hj]
              have hfb:((O2.drop j).map rfC).flatten.length=(O2.length-j)*2:=by rw [F5 (k:=2) (fun c hc=>by obtain⟨q,_,rfl⟩:=List.mem_map.1 hc;rfl),List.length_map,List.length_drop]
              have hcl2:cur.length=cap*2:=hcl
              have hseg:(cur.drop (j*2)).take ((O2.length-j)*2)=((O2.drop j).map rfC).flatten:=by
                have h1:(cur.drop (j*2)).take ((O2.length-j)*2)=((cur.take ((O2.length+1)*2)).drop (j*2)).take ((O2.length-j)*2):=by
                  rw [List.drop_take,List.take_take];congr 1;omega
                rw [h1,hct2,List.append_assoc,← hfa,List.drop_left',← hfb,List.take_left'] <;> rfl
              have hone:((O2.drop j).map rfC).flatten.all Value.oneCell'=true:=AtsG.ones (Ip (G:=Tt) wK (O2.drop j))
              (repeat' (first|(refine E_dq Aa (by kernel_rfl) Z ?_)|(refine at_RQ ?_;refine yN Z (fun wq xq=>?_);replace hxK:=hxK.trans xq;replace rG:=rG.ext xq;replace rXK:=rXK.ext xq)|refine yV Z Z (fun _ _ _=>Cb (b:=j+1) Z Z Z (by omega) (by omega)) ?_|refine yV Z Z (fun _ _ _=>Cb (b:=j) Z Z Z Z (by omega)) ?_|refine Sy ?_|refine yqZ ?_))
              refine EL_copy (cs:=((O2.drop j).map rfC).flatten) (off:=(j+1)*2) rG hxK hge rfl rfl rfl rfl rfl (q:=O2.length-j) (by first|omega|(simp only [List.length_append,List.length_take,List.length_drop,List.length_cons,List.length_nil,List.length_set];omega)) hfb (fun h0=>⟨?_,g,0+j*2,?_,?_⟩) (by omega) (by omega) hone (fun w1 r1 x1 k1=>?_)
              · rw [if_neg (by omega),Option.map_some,B7,Nat.zero_add]
              · rw [if_neg (by omega),Option.map_some,B7]
              · have:=rG.at.seg (j*2) (n:=(O2.length-j)*2)
                rw [hseg] at this
                exact this
              have rX1:=k1.row rXK (fun e=>hgX (Option.some.inj e))
              have hfit:0+j*2+[int x.rcd,int x.note].length≤(cur.take ((j+1)*2)++((O2.drop j).map rfC).flatten++cur.drop ((j+1)*2+((O2.drop j).map rfC).flatten.length)).length:=by
                simp only [List.length_append,List.length_take,List.length_drop,List.length_cons,List.length_nil]
                omega
              (repeat' (first|refine eV Z Z (A0 (m:=j) Z Z Z (by first|rfl|omega) (by omega)) ?_|(refine Ah (cs:=[int x.rcd,int x.note]) r1 x1 hge rfl rfl rfl rfl rfl rfl rfl rfl hfit (fun w2 r2 x2 k2=>?_))|refine Ly ?_))
              all_goals (try (exfalso;omega))
              obtain⟨ht1,ht2⟩:=ins_cells (r:=[int x.rcd,int x.note]) (n:=O2.length) hfa hfb (z:=[int 0,int 0]) rfl rfl hj hct2
              rw [show 0+j*2=j*2 by omega] at r2
              have hln:(O2.take j++x::O2.drop j).length=O2.length+1:=by rw [List.length_append,List.length_cons,List.length_take,List.length_drop];omega
              have hcs2:((O2.take j).map rfC).flatten++[int x.rcd,int x.note]++((O2.drop j).map rfC).flatten=((O2.take j++x::O2.drop j).map rfC).flatten:=by
                rw [List.map_append,List.map_cons,List.flatten_append,List.flatten_cons,List.append_assoc];rfl
              have hgn:=grow_of (Gx:=fun b=>w.heap.size≤b) (xs:=O2.take j++x::O2.drop j) (css:=(O2.take j++x::O2.drop j).map rfC) x2 hge r2 (by omega) (by rw [ht2];exact hcl) hcm (by rw [hln,← hcs2];exact ht1) (Ip _ _)
              rw [← hpe] at hgn
              have hln2:(O2++[(⟨0,0⟩:Rf)]).length=(putR O2 x).length:=by rw [hpe,hln,hl1]
              rw [hln2]
              exact Ad (k+1,.slice (some ⟨g,0,none⟩) (putR O2 x).length cap) ⟨rfl,rfl,rfl,rfl,rfl,rfl,rfl,rfl,trivial⟩ ⟨by dsimp only;omega,by dsimp only;rw [hput];exact hgn⟩ (by dsimp only;omega)
        · have hj0:j=0:=by omega
          have hpe:=put_end hO2u hj hhigh (fun z h _=>absurd h (by omega))
          rw [if_neg (fun h=>absurd h.1 (by omega))] at hpe
          (repeat' ((fail_if_success (refine Ac (x:=(Code.region 14 _ _)) ?_));first|(refine yN Z (fun wq xq=>?_);replace hxj:=hxj.trans xq;replace rXj:=rXj.ext xq;replace hgrj:=hgrj.ext xq)|refine Sy ?_|refine yqZ ?_|refine yqX (fun hh=>?_) fun hh=>?_|refine E_dq Aa (by kernel_rfl) Z ?_|refine yO Z Z ?_))
          all_goals (try (exfalso;omega))
          refine E.sub (M:=[(0,dv),(5,_),(9,.pointer (some ⟨bX,0,none⟩)),(12,int j),(13,.slice (some ⟨b,off,none⟩) l.length c),(14,int l.length),(15,int i),(20,.slice (some ⟨rb,ro,none⟩) p.refs.length c1),(21,int p.refs.length),(22,int k)]) ⟨rfl,rfl,rfl,rfl,rfl,rfl,rfl,rfl,rfl,rfl,trivial⟩ ?_
          (repeat' ((fail_if_success (refine Ac (x:=(Code.region 15 _ _)) ?_));first|refine eV Z Z (Af (vs:=[]) [int 0,int 0] rfl rfl rfl) ?_|(refine M2 (x:=(⟨0,0⟩:Rf)) (hgrj.ext xS) rS rfl rfl rfl rfl rfl rfl rfl rfl (by omega) (by omega) (fun vK wK hK kK hJ=>?_))|refine Sy ?_|refine eL Z Z Z Z Z Z Z Z (fun bS wS xS hbS rS=>?_)))
          have hkp:Kp _ vK wS wK:=⟨kK,hJ.imp (fun h=>h) (fun h=>⟨_,h,Nat.le_refl _⟩)⟩
          obtain⟨rXK,hnK⟩:=hkp.row (rXj.ext xS) hnX
          obtain⟨g,cap,cur,css,rfl,hge,rG,hcap,hcl,hcm,hct,hcs⟩:=grow_row hK (by simp)
          have ecs:=ats_rf hcs
          subst ecs
          have hgX:bX≠g:=fun e=>hnK (by rw [e];rfl)
          have hl1:(O2++[(⟨0,0⟩:Rf)]).length=O2.length+1:=by simp
          rw [hl1] at hct hcap
          have hxK:=hK.x
          have hct2:cur.take ((O2.length+1)*2)=((O2.take j).map rfC).flatten++((O2.drop j).map rfC).flatten++[int 0,int 0]:=by
            have e1:(O2++[(⟨0,0⟩:Rf)]).map rfC=((O2.take j).map rfC++(O2.drop j).map rfC)++[rfC ⟨0,0⟩]:=by
              rw [List.map_append,← List.map_append (l₁:=O2.take j),List.take_append_drop];rfl
            rw [show(O2.length+1)*2=(O2.length+1)*Rep.sz Rf from rfl,hct,e1,List.flatten_append,List.flatten_append];rfl
          have hfa:((O2.take j).map rfC).flatten.length=j*2:=by rw [F5 (k:=2) (fun c hc=>by obtain⟨q,_,rfl⟩:=List.mem_map.1 hc;rfl),List.length_map,List.length_take,Nat.min_eq_left hj]
          have hfb:((O2.drop j).map rfC).flatten.length=(O2.length-j)*2:=by rw [F5 (k:=2) (fun c hc=>by obtain⟨q,_,rfl⟩:=List.mem_map.1 hc;rfl),List.length_map,List.length_drop]
          have hcl2:cur.length=cap*2:=hcl
          have hseg:(cur.drop (j*2)).take ((O2.length-j)*2)=((O2.drop j).map rfC).flatten:=by
            have h1:(cur.drop (j*2)).take ((O2.length-j)*2)=((cur.take ((O2.length+1)*2)).drop (j*2)).take ((O2.length-j)*2):=by
              rw [List.drop_take,List.take_take];congr 1;omega
            rw [h1,hct2,List.append_assoc,← hfa,List.drop_left',← hfb,List.take_left'] <;> rfl
          have hone:((O2.drop j).map rfC).flatten.all Value.oneCell'=true:=AtsG.ones (Ip (G:=Tt) wK (O2.drop j))
          (repeat' (first|(refine E_dq Aa (by kernel_rfl) Z ?_)|(refine at_RQ ?_;refine yN Z (fun wq xq=>?_);replace hxK:=hxK.trans xq;replace rG:=rG.ext xq;replace rXK:=rXK.ext xq)|refine yV Z Z (fun _ _ _=>Cb (b:=j+1) Z Z Z (by omega) (by omega)) ?_|refine yV Z Z (fun _ _ _=>Cb (b:=j) Z Z Z Z (by omega)) ?_|refine Sy ?_|refine yqZ ?_))
          refine EL_copy (cs:=((O2.drop j).map rfC).flatten) (off:=(j+1)*2) rG hxK hge rfl rfl rfl rfl rfl (q:=O2.length-j) (by first|omega|(simp only [List.length_append,List.length_take,List.length_drop,List.length_cons,List.length_nil,List.length_set];omega)) hfb (fun h0=>⟨?_,g,0+j*2,?_,?_⟩) (by omega) (by omega) hone (fun w1 r1 x1 k1=>?_)
          · rw [if_neg (by omega),Option.map_some,B7,Nat.zero_add]
          · rw [if_neg (by omega),Option.map_some,B7]
          · have:=rG.at.seg (j*2) (n:=(O2.length-j)*2)
            rw [hseg] at this
            exact this
          have rX1:=k1.row rXK (fun e=>hgX (Option.some.inj e))
          have hfit:0+j*2+[int x.rcd,int x.note].length≤(cur.take ((j+1)*2)++((O2.drop j).map rfC).flatten++cur.drop ((j+1)*2+((O2.drop j).map rfC).flatten.length)).length:=by
            simp only [List.length_append,List.length_take,List.length_drop,List.length_cons,List.length_nil]
            omega
          (repeat' (first|refine eV Z Z (A0 (m:=j) Z Z Z (by first|rfl|omega) (by omega)) ?_|(refine Ah (cs:=[int x.rcd,int x.note]) r1 x1 hge rfl rfl rfl rfl rfl rfl rfl rfl hfit (fun w2 r2 x2 k2=>?_))|refine Ly ?_))
          all_goals (try (exfalso;omega))
          obtain⟨ht1,ht2⟩:=ins_cells (r:=[int x.rcd,int x.note]) (n:=O2.length) hfa hfb (z:=[int 0,int 0]) rfl rfl hj hct2
          rw [show 0+j*2=j*2 by omega] at r2
          have hln:(O2.take j++x::O2.drop j).length=O2.length+1:=by rw [List.length_append,List.length_cons,List.length_take,List.length_drop];omega
          have hcs2:((O2.take j).map rfC).flatten++[int x.rcd,int x.note]++((O2.drop j).map rfC).flatten=((O2.take j++x::O2.drop j).map rfC).flatten:=by
            rw [List.map_append,List.map_cons,List.flatten_append,List.flatten_cons,List.append_assoc];rfl
          have hgn:=grow_of (Gx:=fun b=>w.heap.size≤b) (xs:=O2.take j++x::O2.drop j) (css:=(O2.take j++x::O2.drop j).map rfC) x2 hge r2 (by omega) (by rw [ht2];exact hcl) hcm (by rw [hln,← hcs2];exact ht1) (Ip _ _)
          rw [← hpe] at hgn
          have hln2:(O2++[(⟨0,0⟩:Rf)]).length=(putR O2 x).length:=by rw [hpe,hln,hl1]
          rw [hln2]
          exact Ad (k+1,.slice (some ⟨g,0,none⟩) (putR O2 x).length cap) ⟨rfl,rfl,rfl,rfl,rfl,rfl,rfl,rfl,trivial⟩ ⟨by dsimp only;omega,by dsimp only;rw [hput];exact hgn⟩ (by dsimp only;omega)
    · obtain rfl:k=p.refs.length:=by omega
      rw [List.take_length] at ho2
      (repeat' (first|refine Sy ?_|refine Dy (fun hh=>?_) fun hh=>?_))
      all_goals (try (exfalso;omega))
      exact Ad (i+1,o2) ⟨rfl,rfl,rfl,rfl,rfl,trivial⟩ ⟨by dsimp only;omega,by dsimp only;rw [hnext];exact ho2⟩ (by dsimp only;omega)
  · obtain rfl:i=l.length:=by omega
    rw [List.take_length] at ho
    have hOl:(Cj [] (Fm (Bf ds) l)).length≤100000:=by
      have h1:=Hx (rs:=Fm (Bf ds) l) (l:=[])
      have h2:=Ow (leads:=Bf ds) (l:=l) (m:=100) hr hn
      simp only [List.length_nil] at h1
      omega
    (repeat' (first|refine Sy ?_|refine Dy (fun hh=>?_) fun hh=>?_))
    all_goals (try (exfalso;omega))
    exact A5 Z Z ⟨ho.sl (fun _ h=>h) (by omega),hx⟩
end
section
open Go.RowKit Go.En Go.Pv
theorem pt_id {lab:List UInt8→Bool} {txt:List UInt8→Int} {lex:List En} {l:List Pnt} {i:Nat} {p:Pnt} (h:l[i]?=some p) (hi:B0 p.id=false):D1 lab txt lex l i=2:=by
  unfold D1;rw [h];dsimp only;rw [hi];rfl
theorem pt_zero {lab:List UInt8→Bool} {txt:List UInt8→Int} {lex:List En} {l:List Pnt} {p:Pnt} (h:l[0]?=some p) (hi:B0 p.id=true):D1 lab txt lex l 0=F3 lab txt lex p:=by
  unfold D1;rw [h];dsimp only;rw [hi];rfl
theorem pt_up {lab:List UInt8→Bool} {txt:List UInt8→Int} {lex:List En} {l:List Pnt} {i:Nat} {p q:Pnt} (h:l[i]?=some p) (hi:B0 p.id=true) (h0:0<i) (hq:l[i-1]?=some q) (hlt:q.id<p.id):D1 lab txt lex l i=F3 lab txt lex p:=by
  unfold D1;rw [h];dsimp only;rw [hi,if_pos h0,hq];simp [hlt]
theorem pt_ten {lab:List UInt8→Bool} {txt:List UInt8→Int} {lex:List En} {l:List Pnt} {i:Nat} {p q:Pnt} (h:l[i]?=some p) (hi:B0 p.id=true) (h0:0<i) (hq:l[i-1]?=some q) (hlt:¬ q.id<p.id):D1 lab txt lex l i=10:=by
  unfold D1;rw [h];dsimp only;rw [hi,if_pos h0,hq];simp [hlt]
attribute [local irreducible] E EL K Val Enters Rt Calls bodyPost Code.wp RQ
theorem usesL_len {l:List Pnt} {id:Int}:(Oa l id).length≤l.length:=by unfold Oa;rw [List.length_map];exact List.length_filter_le _ _
end
section
open Go.RowKit Go.En
attribute [local irreducible] E EL K Val Enters Rt Calls bodyPost Code.wp RQ
end
section
open Go.RowKit Go.En
end
end Go.Proofs.YtjicdgejhkgpgaaGreatDoor
namespace Go.En
open Go.RowKit Go.MapKept
def MapF (w:World) (r:Nat) (f:Int→Option Value):Prop:=
  ∃ es clock,w.heap[r]?=some (.map es clock)∧Stamped es clock∧(∀ x∈es.toList,IsKey (.int .i64) x.key)∧∀ k v,f k=some v↔∃ e∈es.toList,e.key=int k∧e.val=v
theorem MapF.lt {w:World} {r:Nat} {f:Int→Option Value} (h:MapF w r f):r<w.heap.size:=by
  obtain⟨_,_,h,_⟩:=h;exact(Array.getElem?_eq_some_iff.1 h).1
theorem MapF.same {w w':World} {r:Nat} {f:Int→Option Value} (h:MapF w r f) (e:w'.heap[r]?=w.heap[r]?):MapF w' r f:=by
  obtain⟨es,c,h1,h2⟩:=h;exact⟨es,c,e.trans h1,h2⟩
theorem MapF.ext {w w':World} {r:Nat} {f:Int→Option Value} (h:MapF w r f) (x:Ext w w'):MapF w' r f:=h.same (x.block h.lt)
section
variable {P : Program} {n : Nat} {Q : Post} {L : List (Nat × Value)} {w : World} {ops : List Oper} {o : Oper} {rest : List Oper}
end
end Go.En
namespace Go.En
open Go.RowKit Go.MapKept
end Go.En
namespace Go.Proofs.YtjicdgejhkgpgaaGreatDoor
section
open Go.RowKit Go.En
attribute [local irreducible] E EL K Val Enters Rt Calls bodyPost Code.wp RQ
end
section
open Go.RowKit Go.En
def kidsT (d:Dc) (i:Nat) (k:Int):List Int:=((d.notes.take i).filter fun n=>decide (n.parent=k)).map fun n=>n.id
structure KF (d:Dc) (i:Nat) (Bw:Nat) (w:World) (f:Int→Option Value):Prop where
  none_:∀ k,f k=none→kidsT d i k=[]
  some_:∀ k v,f k=some v→w.ownsRow Bw 3 1 v (kidsT d i k).length ((kidsT d i k).map int)∧0<(kidsT d i k).length
  apart:∀ k k' v v',k≠k'→f k=some v→f k'=some v'→v.ownBlock≠v'.ownBlock
theorem KF.ext {d:Dc} {i Bw:Nat} {w w':World} {f:Int→Option Value} (h:KF d i Bw w f) (x:Ext w w'):KF d i Bw w' f:=
  ⟨h.none_,fun k v hv=>⟨Ak (h.some_ k v hv).1 x,(h.some_ k v hv).2⟩,h.apart⟩
attribute [local irreducible] E EL K Val Enters Rt Calls bodyPost Code.wp RQ
end
end Go.Proofs.YtjicdgejhkgpgaaGreatDoor