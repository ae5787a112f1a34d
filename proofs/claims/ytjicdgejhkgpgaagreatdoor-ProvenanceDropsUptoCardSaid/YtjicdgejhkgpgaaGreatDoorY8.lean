/-
  Own text of the proof.
-/
import Derived.Test.YtjicdgejhkgpgaaGreatDoorY7
import Derived.Test.YtjicdgejhkgpgaaGreatDoorY3
import Derived.Test.YtjicdgejhkgpgaaGreatDoorYm
import Derived.Test.YtjicdgejhkgpgaaGreatDoorY4
import Derived.Test.YtjicdgejhkgpgaaGreatDoorYx
import Derived.Test.YtjicdgejhkgpgaaGreatDoorYk
import Derived.Test.YtjicdgejhkgpgaaGreatDoorYs
import Derived.Test.YtjicdgejhkgpgaaGreatDoorYp
set_option linter.all false
set_option maxHeartbeats 8000000
set_option maxRecDepth 8000
namespace Go.Proofs.YtjicdgejhkgpgaaGreatDoor
section
open Go.RowKit Go.En Go.Pv
theorem B4x {α:Type} [Rep α] {Gx:Nat→Prop} {u0 w:World} {e:TypeId} {xs:List α} {ov:Value} (h:Grow Gx u0 e xs ov w) (h0:0<xs.length) :
    ∃ g cap cur css,ov=.slice (some ⟨g,0,none⟩) xs.length cap∧u0.heap.size≤g∧Row w g e cur∧xs.length≤cap∧cur.length=cap*Rep.sz α∧cap≤maxLen∧cur.take (xs.length*Rep.sz α)=css.flatten∧AtsG (Gq Gx ov) w xs css:=by
  obtain⟨h1,css,h2,h3⟩:=h
  obtain⟨h4,h5⟩:=h2
  rcases h5 with⟨_,hn⟩|⟨g,cap,cur,hv,hb,hg,hc,hm,hs,ht⟩
  · omega
  · exact⟨g,cap,cur.toList,css,hv,hb,hg,hc,by simpa using hs,hm,ht,h3⟩
theorem C0k {α:Type} [Rep α] {Gx:Nat→Prop} {u0 w:World} {e:TypeId} {xs:List α} {g cap:Nat} {cur:List Value} {css:List (List Value)} (x:Ext u0 w) (hb:u0.heap.size≤g) (hr:Row w g e cur) (hc:xs.length≤cap) (hs:cur.length=cap*Rep.sz α) (hm:cap≤maxLen)
    (ht:cur.take (xs.length*Rep.sz α)=css.flatten) (ha:AtsG (Gq Gx (.slice (some ⟨g,0,none⟩) xs.length cap)) w xs css):Grow Gx u0 e xs (.slice (some ⟨g,0,none⟩) xs.length cap) w:=by
  refine⟨x,css,⟨AtsG.flat ha,.inr ⟨g,cap,cur.toArray,rfl,hb,hr,hc,hm,by simpa using hs,by simpa using ht⟩⟩,ha⟩
theorem A9v {cur A B z r:List Value} {i n:Nat} (hA:A.length=i*2) (hB:B.length=(n-i)*2) (hz:z.length=2) (hr:r.length=2) (hi:i≤n) (hcur:cur.take ((n+1)*2)=A++B++z) :
    (((cur.take ((i+1)*2)++B++cur.drop ((i+1)*2+B.length)).take (i*2)++r++(cur.take ((i+1)*2)++B++cur.drop ((i+1)*2+B.length)).drop (i*2+r.length)).take ((n+1)*2)=A++r++B)∧
    ((cur.take ((i+1)*2)++B++cur.drop ((i+1)*2+B.length)).take (i*2)++r++(cur.take ((i+1)*2)++B++cur.drop ((i+1)*2+B.length)).drop (i*2+r.length)).length=cur.length:=by
  obtain⟨S,hS⟩:∃ S,S=cur.drop ((n+1)*2):=⟨_,rfl⟩
  have hc:cur=A++((B++z)++S):=by rw [← List.take_append_drop ((n+1)*2) cur,hcur,hS];simp
  have hT:cur.take ((i+1)*2)=A++(B++z).take 2:=by
    rw [hc,show(i+1)*2=A.length+2 by omega,List.take_length_add_append,List.take_append_of_le_length (by rw [List.length_append];omega)]
  have hD:cur.drop ((i+1)*2+B.length)=S:=by rw [hS];congr 1;omega
  have hl:((B++z).take 2).length=2:=by rw [List.length_take,List.length_append];omega
  have h1:cur.take ((i+1)*2)++B++cur.drop ((i+1)*2+B.length)=A++(((B++z).take 2)++(B++S)):=by rw [hT,hD];simp only [List.append_assoc]
  have h2:(A++(((B++z).take 2)++(B++S))).take (i*2)=A:=by rw [← hA,List.take_left'];rfl
  have h3:(A++(((B++z).take 2)++(B++S))).drop (i*2+r.length)=B++S:=by
    revert hl
    generalize (B++z).take 2=T
    intro hl
    rw [hr,← hA,List.drop_length_add_append,← hl,List.drop_left'];rfl
  rw [h1,h2,h3]
  constructor
  · have:A++r++(B++S)=(A++r++B)++S:=by simp only [List.append_assoc]
    rw [this,List.take_left']
    rw [List.length_append,List.length_append];omega
  · have:=congrArg List.length hc
    simp only [List.length_append] at this ⊢
    omega
attribute [local irreducible] E EL K Val Enters Rt Calls bodyPost Code.wp RQ
theorem A7m {ds:List Dc} (hL:LightDs ds) (l:List Pnt) (hn:l.length≤100) (hr:∀ p∈l,p.refs.length≤1000) (dv v:Value) (w:World) (hd:Sl w dv ds) (hv:Sl w v l):Calls Tryz.prog 29 #[dv,v] w (Rt fun u w'=>SlG (fun b=>w.heap.size≤b) w' u (B8q (H6 ds) l)∧Ext w w'):=by
  rw [C6a]
  have hv1:=hv
  have hv0:=hv
  have hd0:=hd
  obtain⟨a,c,rfl,_,hm,hpp⟩:=hv.sl
  refine A6 (n:=78) (args:=[dv,.slice a l.length c]) Tryz.func29 rfl Tryz.ntmps29 (by simp) ?_
  (repeat' (first|refine Sy ?_))
  refine B0 (ι:=Nat × Value) (fun z=>[(0,dv),(5,z.2),(13,.slice a l.length c),(14,int l.length),(15,int z.1)])
    (fun z wr=>z.1≤l.length∧Grow (fun b=>w.heap.size≤b) w 39 (K2 [] (Q2 (H6 ds) (l.take z.1))) z.2 wr) (fun z=>l.length-z.1) (0,.slice none 0 0)
    ⟨rfl,rfl,rfl,rfl,rfl,trivial⟩ ⟨Nat.zero_le _,Grow.none⟩ ?_
  rintro⟨i,ov⟩ wr ⟨hi,ho⟩
  dsimp only at hi ho ⊢
  have hx:=ho.x
  replace hv0:=hv0.ext hx
  by_cases hlt:i<l.length
  · obtain⟨b,off,rfl⟩:=hpp (by omega)
    obtain⟨p,hpi⟩:∃ p,l[i]?=some p:=⟨_,List.getElem?_eq_getElem hlt⟩
    have hs:=B3x (leads:=H6 ds) hpi
    obtain⟨O,hO⟩:∃ O,O=K2 [] (Q2 (H6 ds) (l.take i)):=⟨_,rfl⟩
    rw [← hO] at ho
    have hnext:K2 [] (Q2 (H6 ds) (l.take (i+1)))=K2 O (p.refs.filter fun r=>!H6 ds r):=by rw [hs,A1i,hO]
    have hOu:UpR O:=by rw [hO];exact A3t List.Pairwise.nil _
    have hOl:O.length≤100000:=by
      have h1:=X8 (rs:=Q2 (H6 ds) (l.take i)) (l:=[])
      have h2:=A6n (leads:=H6 ds) (l:=l.take i) (m:=100) (fun q hq=>hr q (List.mem_of_mem_take hq)) (by rw [List.length_take];omega)
      rw [← hO] at h1
      simp only [List.length_nil] at h1
      omega
    have hpr:=hr p (List.mem_of_getElem? hpi)
    obtain⟨a0,c0,a1,c1,hat0,_,_,hrs⟩:=A0i hv1 hpi
    have hrs1:=hrs
    have hat:=hat0.ext hx
    obtain⟨_,_,ee,_,_,hrp⟩:=hrs.sl
    cases ee
    have hxr:=Ext.refl wr
    (repeat' (first|refine eV Z Z (A0 (m:=i) Z Z Z (by first|rfl|omega) (by omega)) ?_|(refine C1 Z Z Z Z Z Z Z Z Z Z (fun bP wP xP hbP rP=>?_);replace hxr:=hxr.trans xP)|refine Ly ?_|refine Dy (fun hh=>?_) fun hh=>?_))
    all_goals (try (exfalso;omega))
    refine B0 (ι:=Nat × Value) (fun z=>[(0,dv),(5,z.2),(13,.slice (some ⟨b,off,none⟩) l.length c),(14,int l.length),(15,int i),(20,.slice a1 p.refs.length c1),(21,int p.refs.length),(22,int z.1)])
      (fun z wk=>z.1≤p.refs.length∧Grow (fun b=>w.heap.size≤b) w 39 (K2 O ((p.refs.take z.1).filter fun r=>!H6 ds r)) z.2 wk) (fun z=>p.refs.length-z.1) (0,ov)
      ⟨rfl,rfl,rfl,rfl,rfl,rfl,rfl,rfl,trivial⟩ ⟨Nat.zero_le _,ho.ext hxr⟩ ?_
    clear hxr
    rintro⟨k,o2⟩ wk ⟨hk,ho2⟩
    dsimp only at hk ho2 ⊢
    by_cases hlk:k<p.refs.length
    · obtain⟨rb,ro,rfl⟩:=hrp (by omega)
      obtain⟨x,hxi⟩:∃ x,p.refs[k]?=some x:=⟨_,List.getElem?_eq_getElem hlk⟩
      have hatx:=O8 (hrs1.ext ho2.x) hxi
      have hft:=B5e (f:=fun r=>!H6 ds r) hxi
      obtain⟨O2,hO2⟩:∃ O2,O2=K2 O ((p.refs.take k).filter fun r=>!H6 ds r):=⟨_,rfl⟩
      have hO2u:UpR O2:=by rw [hO2];exact A3t hOu _
      have hO2l:O2.length≤1000000:=by
        have h1:=X8 (rs:=(p.refs.take k).filter fun r=>!H6 ds r) (l:=O)
        have h2:=L9 (p:=fun r=>!H6 ds r) (l:=p.refs) (i:=k)
        rw [← hO2] at h1
        omega
      rw [← hO2] at ho2
      have cw:=fun wz (hz:Ext w wz)=>Z7 hL x dv wz (hd0.ext hz)
      have hVV:S8 ds x=.tuple #[.agg #[int (A3n ds x).1,int (A3n ds x).2],.bool (H6 ds x)]:=rfl
      rw [hVV] at cw
      have hxk:=ho2.x
      obtain⟨oa,oc,rfl,_,_,hop⟩:=(ho2.sl (fun _ h=>h) (by omega)).sl
      cases hb:H6 ds x with
      | true=>
        rw [hb] at cw hft
        rw [show(if (!true)=true then [x] else [])=([]:List Rf) from rfl,List.append_nil] at hft
        (repeat' (first|refine eV Z Z (A0 (m:=k) Z Z Z (by first|rfl|omega) (by omega)) ?_|(refine C1 (t:=39) Z Z Z Z Z Z Z Z Z Z (fun bX wX xX hbX rX=>?_);replace hxk:=hxk.trans xX;replace ho2:=ho2.ext xX)|(refine cqC (cw _ hxk) en35 fun wC xC=>?_;replace hxk:=hxk.trans xC;replace ho2:=ho2.ext xC;replace rX:=rX.ext xC)|(refine C1 (t:=76) Z Z Z Z Z Z Z Z Z Z (fun bN wN xN hbN rN=>?_);replace hxk:=hxk.trans xN;replace ho2:=ho2.ext xN)|refine Ly ?_|refine Dy (fun hh=>?_) fun hh=>?_))
        all_goals (try (exfalso;omega))
        exact B3 (k+1,_) ⟨rfl,rfl,rfl,rfl,rfl,rfl,rfl,rfl,trivial⟩ ⟨by dsimp only;omega,by dsimp only;rw [hft,← hO2];exact ho2⟩ (by dsimp only;omega)
      | false =>
        rw [hb] at cw hft
        rw [show(if (!false)=true then [x] else [])=[x] from rfl] at hft
        have hput:K2 O ((p.refs.take (k+1)).filter fun r=>!H6 ds r)=putR O2 x:=by rw [hft,A1i,← hO2];rfl
        have hown:=ho2
        (repeat' (first|refine eV Z Z (A0 (m:=k) Z Z Z (by first|rfl|omega) (by omega)) ?_|(refine C1 (t:=39) Z Z Z Z Z Z Z Z Z Z (fun bX wX xX hbX rX=>?_);have hnX:=hown.nbn (b:=bX) (by omega);replace hxk:=hxk.trans xX;replace ho2:=ho2.ext xX)|(refine cqC (cw _ hxk) en35 fun wC xC=>?_;replace hxk:=hxk.trans xC;replace ho2:=ho2.ext xC;replace rX:=rX.ext xC)|(refine C1 (t:=76) Z Z Z Z Z Z Z Z Z Z (fun bN wN xN hbN rN=>?_);replace hxk:=hxk.trans xN;replace ho2:=ho2.ext xN;replace rX:=rX.ext xN)|refine Ly ?_|refine Dy (fun hh=>?_) fun hh=>?_))
        all_goals (try (exfalso;omega))
        refine B0 (ι:=Nat) (fun j=>[(0,dv),(5,.slice oa O2.length oc),(9,.pointer (some ⟨bX,0,none⟩)),(12,int j),(13,.slice (some ⟨b,off,none⟩) l.length c),(14,int l.length),(15,int i),(20,.slice (some ⟨rb,ro,none⟩) p.refs.length c1),(21,int p.refs.length),(22,int k)])
          (fun j wj=>j≤O2.length∧Ext wN wj∧∀(q:Nat) (y:Rf),j≤q→O2[q]?=some y→ltR x y) (fun j=>j) O2.length
          ⟨rfl,rfl,rfl,rfl,rfl,rfl,rfl,rfl,rfl,rfl,trivial⟩ ⟨Nat.le_refl _,Ext.refl _,fun q y hq hy=>absurd (List.getElem?_eq_some_iff.1 hy).1 (by omega)⟩ ?_
        rintro j wj ⟨hj,hxj,hhigh⟩
        have rXj:=rX.ext hxj
        have hgrj:=ho2.ext hxj
        have slj:=hgrj.sl (fun _ h=>h) (by omega)
        by_cases h0:0<j
        · obtain ⟨ob, oo, rfl⟩ := hop (by omega)
          obtain⟨y,hyj⟩:∃ y,O2[j-1]?=some y:=⟨_,List.getElem?_eq_getElem (by omega)⟩
          have haty:=O8 slj hyj
          have cp:=fun wz=>A6r x y wz
          by_cases hlr:ltR x y
          · rw [decide_eq_true hlr] at cp
            (repeat' (first|(refine yN Z (fun wq xq=>?_);replace hxj:=hxj.trans xq)|refine yV Z Z (fun _ _ _=>A0 (m:=j-1) Z Z Z (by first|rfl|omega) (by omega)) ?_|refine C4 Z Z (fun _ _ _=>A5 Z Z en64) (fun wq _=>cp wq) ?_|refine Sy ?_|refine yqY ?_|refine yqZ ?_|refine yqX (fun hh=>?_) fun hh=>?_|refine E_dq B5 (by kernel_rfl) Z ?_|refine yO Z Z ?_))
            all_goals (try (exfalso;omega))
            refine B3 (j-1) ⟨rfl,rfl,rfl,by(show some (int _)=some (int _);congr 2;omega),rfl,rfl,rfl,rfl,rfl,rfl,trivial⟩ ⟨by omega,hxj,fun q z hq hz=>?_⟩ (by omega)
            by_cases e:q=j-1
            · subst e;rw [hyj] at hz;cases hz;exact hlr
            · exact hhigh q z (by omega) hz
          · rw [decide_eq_false hlr] at cp
            have hpe:=C0a hO2u hj hhigh (fun z _ hz=>by rw [hyj] at hz;cases hz;exact hlr)
            by_cases hxy:y=x
            · rw [if_pos ⟨h0,by rw [hyj,hxy]⟩] at hpe
              (repeat' (first|(refine yN Z (fun wq xq=>?_);replace hxj:=hxj.trans xq;replace rXj:=rXj.ext xq;replace hgrj:=hgrj.ext xq;replace haty:=haty.ext xq)|refine yV Z Z (fun _ _ _=>A0 (m:=j-1) Z Z Z (by first|rfl|omega) (by omega)) ?_|refine C4 Z Z (fun _ _ _=>A5 Z Z en64) (fun wq _=>cp wq) ?_|refine yV Z Z (fun _ _ _=>S9 [y.rcd,y.note] [x.rcd,x.note] (r:=true) C5e rfl rfl rfl rfl rfl rfl (decide_eq_true (rf_eq.2 hxy))) ?_|refine Sy ?_|refine yqY ?_|refine yqZ ?_|refine yqX (fun hh=>?_) fun hh=>?_|refine E_dq B5 (by kernel_rfl) Z ?_|refine yO Z Z ?_))
              all_goals (try (exfalso;omega))
              exact B3 (k+1,_) ⟨rfl,rfl,rfl,rfl,rfl,rfl,rfl,rfl,trivial⟩ ⟨by dsimp only;omega,by dsimp only;rw [hput,hpe];exact hgrj⟩ (by dsimp only;omega)
            · rw [if_neg (fun h=>hxy (by have:=h.2;rw [hyj] at this;cases this;rfl))] at hpe
              (repeat' ((fail_if_success (refine B4 (x:=(Code.region 14 _ _)) ?_));first|(refine yN Z (fun wq xq=>?_);replace hxj:=hxj.trans xq;replace rXj:=rXj.ext xq;replace hgrj:=hgrj.ext xq;replace haty:=haty.ext xq)|refine yV Z Z (fun _ _ _=>A0 (m:=j-1) Z Z Z (by first|rfl|omega) (by omega)) ?_|refine C4 Z Z (fun _ _ _=>A5 Z Z en64) (fun wq _=>cp wq) ?_|refine yV Z Z (fun _ _ _=>S9 [y.rcd,y.note] [x.rcd,x.note] (r:=false) C5e rfl rfl rfl rfl rfl rfl (decide_eq_false (fun h=>hxy (rf_eq.1 h)))) ?_|refine Sy ?_|refine yqY ?_|refine yqZ ?_|refine yqX (fun hh=>?_) fun hh=>?_|refine E_dq B5 (by kernel_rfl) Z ?_|refine yO Z Z ?_))
              all_goals (try (exfalso;omega))
              refine E.sub (M:=[(0,dv),(5,_),(9,.pointer (some ⟨bX,0,none⟩)),(12,int j),(13,.slice (some ⟨b,off,none⟩) l.length c),(14,int l.length),(15,int i),(20,.slice (some ⟨rb,ro,none⟩) p.refs.length c1),(21,int p.refs.length),(22,int k)]) ⟨rfl,rfl,rfl,rfl,rfl,rfl,rfl,rfl,rfl,rfl,trivial⟩ ?_
              (repeat' ((fail_if_success (refine B4 (x:=(Code.region 15 _ _)) ?_));first|refine eV Z Z (B6 (vs:=[]) [int 0,int 0] rfl rfl rfl) ?_|(refine A7w (x:=(⟨0,0⟩:Rf)) (hgrj.ext xS) rS rfl rfl rfl rfl rfl rfl rfl rfl (by omega) (by omega) (fun vK wK hK kK hJ=>?_))|refine Sy ?_|refine eL Z Z Z Z Z Z Z Z (fun bS wS xS hbS rS=>?_)))
              have hkp:Kp _ vK wS wK:=⟨kK,hJ.imp (fun h=>h) (fun h=>⟨_,h,Nat.le_refl _⟩)⟩
              obtain⟨rXK,hnK⟩:=hkp.row (rXj.ext xS) hnX
              obtain⟨g,cap,cur,css,rfl,hge,rG,hcap,hcl,hcm,hct,hcs⟩:=B4x hK (by simp)
              have ecs:=B8z hcs
              subst ecs
              have hgX:bX≠g:=fun e=>hnK (by rw [e];rfl)
              have hl1:(O2++[(⟨0,0⟩:Rf)]).length=O2.length+1:=by simp
              rw [hl1] at hct hcap
              have hxK:=hK.x
              have hct2:cur.take ((O2.length+1)*2)=((O2.take j).map rfC).flatten++((O2.drop j).map rfC).flatten++[int 0,int 0]:=by
                have e1:(O2++[(⟨0,0⟩:Rf)]).map rfC=((O2.take j).map rfC++(O2.drop j).map rfC)++[rfC ⟨0,0⟩]:=by
                  rw [List.map_append,← List.map_append (l₁:=O2.take j),List.take_append_drop];rfl
                rw [show(O2.length+1)*2=(O2.length+1)*Rep.sz Rf from rfl,hct,e1,List.flatten_append,List.flatten_append];rfl
              have hfa:((O2.take j).map rfC).flatten.length=j*2:=by rw [N0 (k:=2) (fun c hc=>by obtain⟨q,_,rfl⟩:=List.mem_map.1 hc;rfl),List.length_map,List.length_take,Nat.min_eq_left hj]
              have hfb:((O2.drop j).map rfC).flatten.length=(O2.length-j)*2:=by rw [N0 (k:=2) (fun c hc=>by obtain⟨q,_,rfl⟩:=List.mem_map.1 hc;rfl),List.length_map,List.length_drop]
              have hcl2:cur.length=cap*2:=hcl
              have hseg:(cur.drop (j*2)).take ((O2.length-j)*2)=((O2.drop j).map rfC).flatten:=by
                have h1:(cur.drop (j*2)).take ((O2.length-j)*2)=((cur.take ((O2.length+1)*2)).drop (j*2)).take ((O2.length-j)*2):=by
                  rw [List.drop_take,List.take_take];congr 1;omega
                rw [h1,hct2,List.append_assoc,← hfa,List.drop_left',← hfb,List.take_left'] <;> rfl
              have hone:((O2.drop j).map rfC).flatten.all Value.oneCell'=true:=AtsG.ones (A0e (G:=Tt) wK (O2.drop j))
              (repeat' (first|(refine E_dq B5 (by kernel_rfl) Z ?_)|(refine at_RQ ?_;refine yN Z (fun wq xq=>?_);replace hxK:=hxK.trans xq;replace rG:=rG.ext xq;replace rXK:=rXK.ext xq)|refine yV Z Z (fun _ _ _=>H8 (b:=j+1) Z Z Z (by omega) (by omega)) ?_|refine yV Z Z (fun _ _ _=>H8 (b:=j) Z Z Z Z (by omega)) ?_|refine Sy ?_|refine yqZ ?_))
              refine B2u (cs:=((O2.drop j).map rfC).flatten) (off:=(j+1)*2) rG hxK hge rfl rfl rfl rfl rfl (q:=O2.length-j) (by first|omega|(simp only [List.length_append,List.length_take,List.length_drop,List.length_cons,List.length_nil,List.length_set];omega)) hfb (fun h0=>⟨?_,g,0+j*2,?_,?_⟩) (by omega) (by omega) hone (fun w1 r1 x1 k1=>?_)
              · rw [if_neg (by omega),Option.map_some,D2,Nat.zero_add]
              · rw [if_neg (by omega),Option.map_some,D2]
              · have:=rG.at.seg (j*2) (n:=(O2.length-j)*2)
                rw [hseg] at this
                exact this
              have rX1:=k1.row rXK (fun e=>hgX (Option.some.inj e))
              have hfit:0+j*2+[int x.rcd,int x.note].length≤(cur.take ((j+1)*2)++((O2.drop j).map rfC).flatten++cur.drop ((j+1)*2+((O2.drop j).map rfC).flatten.length)).length:=by
                simp only [List.length_append,List.length_take,List.length_drop,List.length_cons,List.length_nil]
                omega
              (repeat' (first|refine eV Z Z (A0 (m:=j) Z Z Z (by first|rfl|omega) (by omega)) ?_|(refine B7 (cs:=[int x.rcd,int x.note]) r1 x1 hge rfl rfl rfl rfl rfl rfl rfl rfl hfit (fun w2 r2 x2 k2=>?_))|refine Ly ?_))
              all_goals (try (exfalso;omega))
              obtain⟨ht1,ht2⟩:=A9v (r:=[int x.rcd,int x.note]) (n:=O2.length) hfa hfb (z:=[int 0,int 0]) rfl rfl hj hct2
              rw [show 0+j*2=j*2 by omega] at r2
              have hln:(O2.take j++x::O2.drop j).length=O2.length+1:=by rw [List.length_append,List.length_cons,List.length_take,List.length_drop];omega
              have hcs2:((O2.take j).map rfC).flatten++[int x.rcd,int x.note]++((O2.drop j).map rfC).flatten=((O2.take j++x::O2.drop j).map rfC).flatten:=by
                rw [List.map_append,List.map_cons,List.flatten_append,List.flatten_cons,List.append_assoc];rfl
              have hgn:=C0k (Gx:=fun b=>w.heap.size≤b) (xs:=O2.take j++x::O2.drop j) (css:=(O2.take j++x::O2.drop j).map rfC) x2 hge r2 (by omega) (by rw [ht2];exact hcl) hcm (by rw [hln,← hcs2];exact ht1) (A0e _ _)
              rw [← hpe] at hgn
              have hln2:(O2++[(⟨0,0⟩:Rf)]).length=(putR O2 x).length:=by rw [hpe,hln,hl1]
              rw [hln2]
              exact B3 (k+1,.slice (some ⟨g,0,none⟩) (putR O2 x).length cap) ⟨rfl,rfl,rfl,rfl,rfl,rfl,rfl,rfl,trivial⟩ ⟨by dsimp only;omega,by dsimp only;rw [hput];exact hgn⟩ (by dsimp only;omega)
        · have hj0:j=0:=by omega
          have hpe:=C0a hO2u hj hhigh (fun z h _=>absurd h (by omega))
          rw [if_neg (fun h=>absurd h.1 (by omega))] at hpe
          (repeat' ((fail_if_success (refine B4 (x:=(Code.region 14 _ _)) ?_));first|(refine yN Z (fun wq xq=>?_);replace hxj:=hxj.trans xq;replace rXj:=rXj.ext xq;replace hgrj:=hgrj.ext xq)|refine Sy ?_|refine yqZ ?_|refine yqX (fun hh=>?_) fun hh=>?_|refine E_dq B5 (by kernel_rfl) Z ?_|refine yO Z Z ?_))
          all_goals (try (exfalso;omega))
          refine E.sub (M:=[(0,dv),(5,_),(9,.pointer (some ⟨bX,0,none⟩)),(12,int j),(13,.slice (some ⟨b,off,none⟩) l.length c),(14,int l.length),(15,int i),(20,.slice (some ⟨rb,ro,none⟩) p.refs.length c1),(21,int p.refs.length),(22,int k)]) ⟨rfl,rfl,rfl,rfl,rfl,rfl,rfl,rfl,rfl,rfl,trivial⟩ ?_
          (repeat' ((fail_if_success (refine B4 (x:=(Code.region 15 _ _)) ?_));first|refine eV Z Z (B6 (vs:=[]) [int 0,int 0] rfl rfl rfl) ?_|(refine A7w (x:=(⟨0,0⟩:Rf)) (hgrj.ext xS) rS rfl rfl rfl rfl rfl rfl rfl rfl (by omega) (by omega) (fun vK wK hK kK hJ=>?_))|refine Sy ?_|refine eL Z Z Z Z Z Z Z Z (fun bS wS xS hbS rS=>?_)))
          have hkp:Kp _ vK wS wK:=⟨kK,hJ.imp (fun h=>h) (fun h=>⟨_,h,Nat.le_refl _⟩)⟩
          obtain⟨rXK,hnK⟩:=hkp.row (rXj.ext xS) hnX
          obtain⟨g,cap,cur,css,rfl,hge,rG,hcap,hcl,hcm,hct,hcs⟩:=B4x hK (by simp)
          have ecs:=B8z hcs
          subst ecs
          have hgX:bX≠g:=fun e=>hnK (by rw [e];rfl)
          have hl1:(O2++[(⟨0,0⟩:Rf)]).length=O2.length+1:=by simp
          rw [hl1] at hct hcap
          have hxK:=hK.x
          have hct2:cur.take ((O2.length+1)*2)=((O2.take j).map rfC).flatten++((O2.drop j).map rfC).flatten++[int 0,int 0]:=by
            have e1:(O2++[(⟨0,0⟩:Rf)]).map rfC=((O2.take j).map rfC++(O2.drop j).map rfC)++[rfC ⟨0,0⟩]:=by
              rw [List.map_append,← List.map_append (l₁:=O2.take j),List.take_append_drop];rfl
            rw [show(O2.length+1)*2=(O2.length+1)*Rep.sz Rf from rfl,hct,e1,List.flatten_append,List.flatten_append];rfl
          have hfa:((O2.take j).map rfC).flatten.length=j*2:=by rw [N0 (k:=2) (fun c hc=>by obtain⟨q,_,rfl⟩:=List.mem_map.1 hc;rfl),List.length_map,List.length_take,Nat.min_eq_left hj]
          have hfb:((O2.drop j).map rfC).flatten.length=(O2.length-j)*2:=by rw [N0 (k:=2) (fun c hc=>by obtain⟨q,_,rfl⟩:=List.mem_map.1 hc;rfl),List.length_map,List.length_drop]
          have hcl2:cur.length=cap*2:=hcl
          have hseg:(cur.drop (j*2)).take ((O2.length-j)*2)=((O2.drop j).map rfC).flatten:=by
            have h1:(cur.drop (j*2)).take ((O2.length-j)*2)=((cur.take ((O2.length+1)*2)).drop (j*2)).take ((O2.length-j)*2):=by
              rw [List.drop_take,List.take_take];congr 1;omega
            rw [h1,hct2,List.append_assoc,← hfa,List.drop_left',← hfb,List.take_left'] <;> rfl
          have hone:((O2.drop j).map rfC).flatten.all Value.oneCell'=true:=AtsG.ones (A0e (G:=Tt) wK (O2.drop j))
          (repeat' (first|(refine E_dq B5 (by kernel_rfl) Z ?_)|(refine at_RQ ?_;refine yN Z (fun wq xq=>?_);replace hxK:=hxK.trans xq;replace rG:=rG.ext xq;replace rXK:=rXK.ext xq)|refine yV Z Z (fun _ _ _=>H8 (b:=j+1) Z Z Z (by omega) (by omega)) ?_|refine yV Z Z (fun _ _ _=>H8 (b:=j) Z Z Z Z (by omega)) ?_|refine Sy ?_|refine yqZ ?_))
          refine B2u (cs:=((O2.drop j).map rfC).flatten) (off:=(j+1)*2) rG hxK hge rfl rfl rfl rfl rfl (q:=O2.length-j) (by first|omega|(simp only [List.length_append,List.length_take,List.length_drop,List.length_cons,List.length_nil,List.length_set];omega)) hfb (fun h0=>⟨?_,g,0+j*2,?_,?_⟩) (by omega) (by omega) hone (fun w1 r1 x1 k1=>?_)
          · rw [if_neg (by omega),Option.map_some,D2,Nat.zero_add]
          · rw [if_neg (by omega),Option.map_some,D2]
          · have:=rG.at.seg (j*2) (n:=(O2.length-j)*2)
            rw [hseg] at this
            exact this
          have rX1:=k1.row rXK (fun e=>hgX (Option.some.inj e))
          have hfit:0+j*2+[int x.rcd,int x.note].length≤(cur.take ((j+1)*2)++((O2.drop j).map rfC).flatten++cur.drop ((j+1)*2+((O2.drop j).map rfC).flatten.length)).length:=by
            simp only [List.length_append,List.length_take,List.length_drop,List.length_cons,List.length_nil]
            omega
          (repeat' (first|refine eV Z Z (A0 (m:=j) Z Z Z (by first|rfl|omega) (by omega)) ?_|(refine B7 (cs:=[int x.rcd,int x.note]) r1 x1 hge rfl rfl rfl rfl rfl rfl rfl rfl hfit (fun w2 r2 x2 k2=>?_))|refine Ly ?_))
          all_goals (try (exfalso;omega))
          obtain⟨ht1,ht2⟩:=A9v (r:=[int x.rcd,int x.note]) (n:=O2.length) hfa hfb (z:=[int 0,int 0]) rfl rfl hj hct2
          rw [show 0+j*2=j*2 by omega] at r2
          have hln:(O2.take j++x::O2.drop j).length=O2.length+1:=by rw [List.length_append,List.length_cons,List.length_take,List.length_drop];omega
          have hcs2:((O2.take j).map rfC).flatten++[int x.rcd,int x.note]++((O2.drop j).map rfC).flatten=((O2.take j++x::O2.drop j).map rfC).flatten:=by
            rw [List.map_append,List.map_cons,List.flatten_append,List.flatten_cons,List.append_assoc];rfl
          have hgn:=C0k (Gx:=fun b=>w.heap.size≤b) (xs:=O2.take j++x::O2.drop j) (css:=(O2.take j++x::O2.drop j).map rfC) x2 hge r2 (by omega) (by rw [ht2];exact hcl) hcm (by rw [hln,← hcs2];exact ht1) (A0e _ _)
          rw [← hpe] at hgn
          have hln2:(O2++[(⟨0,0⟩:Rf)]).length=(putR O2 x).length:=by rw [hpe,hln,hl1]
          rw [hln2]
          exact B3 (k+1,.slice (some ⟨g,0,none⟩) (putR O2 x).length cap) ⟨rfl,rfl,rfl,rfl,rfl,rfl,rfl,rfl,trivial⟩ ⟨by dsimp only;omega,by dsimp only;rw [hput];exact hgn⟩ (by dsimp only;omega)
    · obtain rfl:k=p.refs.length:=by omega
      rw [List.take_length] at ho2
      (repeat' (first|refine Sy ?_|refine Dy (fun hh=>?_) fun hh=>?_))
      all_goals (try (exfalso;omega))
      exact B3 (i+1,o2) ⟨rfl,rfl,rfl,rfl,rfl,trivial⟩ ⟨by dsimp only;omega,by dsimp only;rw [hnext];exact ho2⟩ (by dsimp only;omega)
  · obtain rfl:i=l.length:=by omega
    rw [List.take_length] at ho
    have hOl:(K2 [] (Q2 (H6 ds) l)).length≤100000:=by
      have h1:=X8 (rs:=Q2 (H6 ds) l) (l:=[])
      have h2:=A6n (leads:=H6 ds) (l:=l) (m:=100) hr hn
      simp only [List.length_nil] at h1
      omega
    (repeat' (first|refine Sy ?_|refine Dy (fun hh=>?_) fun hh=>?_))
    all_goals (try (exfalso;omega))
    exact A4 Z Z ⟨ho.sl (fun _ h=>h) (by omega),hx⟩
end
section
open Go.RowKit Go.En Go.Pv
theorem pt_id {lab:List UInt8→Bool} {txt:List UInt8→Int} {lex:List En} {l:List Pnt} {i:Nat} {p:Pnt} (h:l[i]?=some p) (hi:D0 p.id=false):L8 lab txt lex l i=2:=by
  unfold L8;rw [h];dsimp only;rw [hi];rfl
theorem pt_zero {lab:List UInt8→Bool} {txt:List UInt8→Int} {lex:List En} {l:List Pnt} {p:Pnt} (h:l[0]?=some p) (hi:D0 p.id=true):L8 lab txt lex l 0=O1 lab txt lex p:=by
  unfold L8;rw [h];dsimp only;rw [hi];rfl
theorem pt_up {lab:List UInt8→Bool} {txt:List UInt8→Int} {lex:List En} {l:List Pnt} {i:Nat} {p q:Pnt} (h:l[i]?=some p) (hi:D0 p.id=true) (h0:0<i) (hq:l[i-1]?=some q) (hlt:q.id<p.id):L8 lab txt lex l i=O1 lab txt lex p:=by
  unfold L8;rw [h];dsimp only;rw [hi,if_pos h0,hq];simp [hlt]
theorem pt_ten {lab:List UInt8→Bool} {txt:List UInt8→Int} {lex:List En} {l:List Pnt} {i:Nat} {p q:Pnt} (h:l[i]?=some p) (hi:D0 p.id=true) (h0:0<i) (hq:l[i-1]?=some q) (hlt:¬ q.id<p.id):L8 lab txt lex l i=10:=by
  unfold L8;rw [h];dsimp only;rw [hi,if_pos h0,hq];simp [hlt]
attribute [local irreducible] E EL K Val Enters Rt Calls bodyPost Code.wp RQ
theorem C1k {l:List Pnt} {id:Int}:(A5z l id).length≤l.length:=by unfold A5z;rw [List.length_map];exact List.length_filter_le _ _
end
end Go.Proofs.YtjicdgejhkgpgaaGreatDoor
namespace Go.En
open Go.RowKit
section
variable {P : Program} {L : List (Nat × Value)} {w : World} {o : Oper}
def EqS (P:Program) (d:Nat) (t:TypeId) (v:Value):Prop:=∀ w,(Op.equalIn d t v v).run P w=.ok true w
theorem C0p {d:Nat} {t:TypeId} {k k':IntKind} {a:Int} (h:P.underlying t=some (.int k')):EqS P (d+1) t (.int k a):=fun w=>by
  have:=run_equalIn_int (P:=P) w d t k k' a a h
  simpa using this
def FSS (P:Program) (d:Nat) (cs:Array Value):List (Bool × TypeId × Nat)→Prop
  | []=>True
  | (b,t,o)::r=>b=false∧(∃ v,(∀ w,(part t cs o).run P w=.ok v w)∧EqS P d t v)∧FSS P d cs r
theorem Z4 {d:Nat} {cs:Array Value}:∀(fs:List Field) (S:List (Bool × TypeId × Nat)),(fs.map fun f=>(f.name== "_",f.type,f.offset))=S→FSS P d cs S→(Op.eqFields d cs cs fs).run P w=.ok true w
  | [],_,_,_=>by simp [Op.eqFields,go_sem]
  | f::fs,S,h,hS=>by
    rw [List.map_cons] at h
    subst h
    obtain⟨n1,⟨v,hp,he⟩,hr⟩:=hS
    have m1:f.name≠ "_" := by simpa using n1
    have ih:=Z4 (d:=d) (cs:=cs) fs _ rfl hr
    simp only [Op.eqFields,m1,ne_eq,not_false_eq_true,if_true,Sem.run_bind]
    rw [hp]
    simp only [Result.andThen_ok]
    rw [hp]
    simp only [Result.andThen_ok]
    rw [he]
    simp only [Result.andThen_ok,Bool.not_true,Bool.false_eq_true,if_false]
    exact ih
structure Shp (P:Program) (t:TypeId) (S:List (Bool × TypeId × Nat)):Prop where
  st:P.underlying t=some (.struct (P.fieldsOf t))
  hp:P.stoodInHeld t=false
  hg:P.eqGuardType P.depth t=false
  hf:((P.fieldsOf t).toList.map fun f=>(f.name== "_",f.type,f.offset))=S
theorem B8j {d:Nat} {t:TypeId} {cs:Array Value} {S:List (Bool × TypeId × Nat)} (h:Shp P t S) (hS:FSS P d cs S):EqS P (d+1) t (.agg cs):=fun w=>by
  rw [run_equalIn_struct w d t _ _ h.st h.hp]
  exact Z4 _ _ h.hf hS
theorem B4a {e:TypeId} {xs:Array Value} {off:Nat} {v:Value} (he:P.underlying e=some (.int .i64)) (hx:xs[off]?=some v) (w:World):(part e xs off).run P w=.ok v w:=N3 he hx
theorem B0r {t u:TypeId} {x y:Operand} {c:Array Value} {S:List (Bool × TypeId × Nat)} (h:Shp P t S) (hE:EqS P 10000 t (.agg c)) (ho:o.op=.binOp .neq t x y u) (hx:ev L x=some (.agg c)) (hy:ev L y=some (.agg c)):Val P L w o (.bool false):=fun ρ ha=>by
  have h1:=ha.ev (by rw [ho];simp [Op.operands]) hx
  have h2:=ha.ev (by rw [ho];simp [Op.operands]) hy
  have h3:=run_eqGuard_agg (P:=P) w .neq t x y c c h.hg
  have h4:=run_neq_struct (P:=P) w t c c
  simp only [execOp,ho,h1,h2,Sem.run_bind]
  rw [h3]
  simp only [Result.andThen_ok]
  rw [h4,hE]
  rfl
end
end Go.En
