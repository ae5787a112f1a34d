/-
  Own text of the proof.
-/
import Derived.Test.YtjicdgejhkgpgaaGreatDoorY3
import Derived.Test.YtjicdgejhkgpgaaGreatDoorYp
import Derived.Test.YtjicdgejhkgpgaaGreatDoorYh
import Derived.Test.YtjicdgejhkgpgaaGreatDoorYb
import Derived.Lib.SliceRun
import Derived.Test.YtjicdgejhkgpgaaGreatDoorYj
import Derived.Test.YtjicdgejhkgpgaaGreatDoorYi
import Derived.Test.YtjicdgejhkgpgaaGreatDoorYs
set_option linter.all false
set_option maxHeartbeats 8000000
set_option maxRecDepth 8000
namespace Go.Proofs.YtjicdgejhkgpgaaGreatDoor
section
open Go.RowKit Go.En Go.Pv
def SensC (lex:List En):Prop:=∀(id:Int) (v:Value) (w:World),Sl w v lex→Calls Tryz.prog 185 #[v,int id] w (Rt fun u w'=>Ext w w'∧Sl w' u (B6 lex id))
attribute [local irreducible] E EL K Val Enters Rt Calls bodyPost Code.wp RQ
theorem forms186_G (G:Nat→Prop) (e:En) (X:List Value) (w:World) (h:Rep.at_ G w e X) (hG:∀ b,w.heap.size≤b→G b) (hl:e.alts.length≤1000000):Calls Tryz.prog 186 #[.agg X.toArray] w (Rt fun u w'=>Ext w w'∧SlG G w' u (Ai e)):=by
  obtain⟨fv,av,sv,lv,rv,rfl,hf,ha,_,_,_⟩:=h
  have hf0:=hf
  obtain⟨fa,fc,rfl,_,_,_⟩:=hf.sl
  have ha0:=ha
  obtain⟨aa,ac,rfl,_,_,_⟩:=ha.sl
  obtain⟨ss,s1,s2⟩:=ha0.css
  have fs:ss.flatten.length=e.alts.length*1:=AtsG.flat s1
  refine A7 (n:=9) (args:=[.agg #[int e.id,.slice fa e.form.length fc,int e.cls,.slice aa e.alts.length ac,int e.main,sv,lv,rv] ]) Tryz.func186 rfl Tryz.ntmps186 (by simp) ?_
  refine Ac ?_
  refine A8 ?_
  refine Aj Z Z Z Z (fun bX wX xX hbX rX0=>?_)
  have rX:Row wX bX 65 [int e.id,.slice fa e.form.length fc,int e.cls,.slice aa e.alts.length ac,int e.main,sv,lv,rv]:=rX0
  clear rX0
  (repeat' (first|(refine eL Z Z Z Z Z Z Z Z (fun bS wS xS hbS rS=>?_);replace rX:=rX.ext xS)|refine Ly ?_))
  have rS':Row wS bS 32 [.slice fa e.form.length fc]:=rS
  refine Ay (w0:=wX) (news:=ss.flatten) (Cq (n:=1) (size:=1) rS' rfl (by omega) (by omega)) xS (fun h0=>?_) Z Z Z Z Z fs (AtsG.ones s1) Z Z (by omega) (by omega) (fun vJ wJ oJ xJ kJ hJ=>?_)
  · obtain⟨b,so,e,_,hat⟩:=s2 (by omega)
    exact⟨b,so,e,hat.ext (xX.trans xS)⟩
  (repeat' (first|refine Sy ?_))
  refine A5 Z Z ⟨xX.trans xJ,?_⟩
  have hat:AtsG G wJ (Ai e) ([.slice fa e.form.length fc]::ss):=⟨⟨_,rfl,hf0.ext (xX.trans xJ)⟩,AtsG.ext s1 (xX.trans xJ)⟩
  exact C5 (xs:=Ai e) (css:=[.slice fa e.form.length fc]::ss) (show wJ.ownsRow wX.heap.size 32 1 vJ (1+e.alts.length) (([.slice fa e.form.length fc]::ss).flatten) from oJ) hat (fun b hb=>hG b (by have:=xX.size;omega)) (by simp [Ai];omega) (by simp [Ai];omega)
theorem step_of_walk {g:Lg} (hok:LangOK g) (h185:SensC g.lex) {ws:List Int} (hws:ws.length≤24) {id:Int} {pv uv tv rv sv fv ev wv:Value} {fin:Nat} {bS bT bI bU:Nat} (k:Nat)
    (hwalk:WalkC g ws id pv uv tv rv sv fv ev wv fin bS bT bI bU k):StepC g ws id pv uv tv rv sv fv ev wv fin bS bT bI bU k:=by
  intro e a S m base X av bv w hem hak hm hob hbl hs hrep ha hbv
  have ha0:=ha
  have hb0:=hbv
  have hw0:=hs.word
  have hl0:=hs.lex
  have hrep0:=hrep
  obtain⟨aa,ac,rfl,_,ham,_⟩:=ha.sl
  obtain⟨ba,bc,rfl,_,hbm,_⟩:=hbv.sl
  obtain⟨wa,wc,rfl,_,_,_⟩:=hw0.sl
  obtain⟨la,lc,rfl,_,hlm,hlp⟩:=hl0.sl
  have hlx:=hok.lex e hem
  have hUlt:=hs.is.lt
  have hTlt:=hs.tlt
  have hGn:∀ b,w.heap.size≤b→b≠bT∧b≠bU:=fun b hb=>⟨by omega,by omega⟩
  have hrow:=hs.row
  unfold srC at hrow
  obtain⟨fv0,av0,sv0,lv0,rv0,rfl,hf⟩:=hrep
  refine A7 (n:=78) (args:=[.pointer (some ⟨bS,0,none⟩),.agg #[int e.id,fv0,int e.cls,av0,int e.main,sv0,lv0,rv0],.slice aa a.length ac,.int .u32 (m:Int),.slice ba base.length bc]) Tryz.func141 rfl Tryz.ntmps141 (by simp) ?_
  refine Ac ?_
  refine A8 ?_
  refine Aj Z Z Z Z (fun bE wE xE hbE rE0=>?_)
  have rE:Row wE bE 65 [int e.id,fv0,int e.cls,av0,int e.main,sv0,lv0,rv0]:=rE0
  clear rE0
  replace hrow:=hrow.ext xE
  (repeat' ((fail_if_success (refine Ac (x:=(Code.region 1 _ _)) ?_));first|refine Sy ?_))
  refine E.sub (M:=[(0,.pointer (some ⟨bS,0,none⟩)),(2,.slice aa a.length ac),(3,.int .u32 (m:Int)),(4,.slice ba base.length bc),(6,.pointer (some ⟨bE,0,none⟩)),(10,.bool false)]) ⟨rfl,rfl,rfl,rfl,rfl,rfl,trivial⟩ ?_
  obtain⟨Zq,hZ⟩:∃ Zq,B6 g.lex e.id=Zq:=⟨_,rfl⟩
  have hbx:belX (lxOf g ws) ws id k a S base e=(decide (Zq.length≠0)&&(Ai e).zipIdx.any fun fi=>decide (base.length+fi.1.length≤(lxOf g ws).most)&&(Go.Pv.hereB (lxOf g ws) ws id (a++[⟨e.id,(fi.2:Int),0⟩]) S (base++fi.1)||belB (lxOf g ws) ws id k (a++[⟨e.id,(fi.2:Int),0⟩]) S (base++fi.1))):=by rw [← hZ];rfl
  have c185:=fun wz (hx:Ext w wz)=>h185 e.id _ wz (hl0.ext hx).any
  rw [hZ] at c185
  refine Fl (ι:=Bool) (fun c=>[(0,.pointer (some ⟨bS,0,none⟩)),(2,.slice aa a.length ac),(3,.int .u32 (m:Int)),(4,.slice ba base.length bc),(6,.pointer (some ⟨bE,0,none⟩)),(10,.bool false),(25,.bool c)])
    (fun c wr=>c=decide (Zq.length=0)∧Ext wE wr) ?_ ?_
  · (repeat' (first|refine Al (f:=185) (fun u w'=>Sl w' u Zq) (fun _=>#[.slice la g.lex.length lc,int e.id]) Z Z (fun _ _ _ _ xe h=>SlG.ext h xe) (fun _ _ _=>A3 Z Z en185) (fun wq _ xq _=>Ag (c185 wq (xE.trans xq)) (fun _ _ hh=>⟨hh.2,hh.1⟩)) ?_|refine M0 Z Z Z Z (fun _=>rfl) ?_|refine B8 (fun wq δ xq hR=>?_)|refine Sy ?_|refine yqY ?_|refine yqZ ?_|refine yqX (fun hh=>?_) fun hh=>?_|refine E_dq Aa (by kernel_rfl) Z ?_))
    all_goals first
      | exact Bx true ⟨rfl,rfl,rfl,rfl,rfl,rfl,rfl,trivial⟩ ⟨(decide_eq_true (by omega)).symm,xq⟩
      | exact Bx false ⟨rfl,rfl,rfl,rfl,rfl,rfl,rfl,trivial⟩ ⟨(decide_eq_false (by omega)).symm,xq⟩
  rintro c w1 ⟨hcz,x1⟩
  have hX1:Ext w w1:=xE.trans x1
  replace rE:=rE.ext x1
  have hs1:=hs.ext hX1
  cases c with
  | true=>
    have hz:=of_decide_eq_true hcz.symm
    have hb0:belX (lxOf g ws) ws id k a S base e=false:=by rw [hbx,decide_eq_false (by omega)];rfl
    rw [hb0]
    (repeat' (first|refine Sy ?_))
    exact A5 Z Z ⟨rfl,Kx.of_ext hX1,hs1.tried,hs1.is⟩
  | false =>
    have hz:=of_decide_eq_false hcz.symm
    rw [decide_eq_true (show Zq.length≠0 by omega),Bool.true_and] at hbx
    have cfo:=fun wz (hx:Ext w wz)=>forms186_G (fun b=>b≠bT∧b≠bU) e _ wz (Rep.move hrep0 hx.mv) (fun b hb=>hGn b (by have:=hx.size;omega)) (by have:=hlx.2.2.2.2.1;omega)
    have hX2:=hX1
    (repeat' (first|(refine A9 Z Z (A3 Z Z en186) (cfo _ hX2) (fun vC w2 hC=>?_);obtain⟨xC,sF⟩:=hC;replace hX2:=hX2.trans xC;replace rE:=rE.ext xC;obtain⟨fa,fc,rfl,_,_,hfp⟩:=sF.sl)|refine Ly ?_))
    obtain⟨P,hP⟩:∃ P:List Int × Nat→Bool,∀ fi,P fi=(decide (base.length+fi.1.length≤(lxOf g ws).most)&&(Go.Pv.hereB (lxOf g ws) ws id (a++[⟨e.id,(fi.2:Int),0⟩]) S (base++fi.1)||belB (lxOf g ws) ws id k (a++[⟨e.id,(fi.2:Int),0⟩]) S (base++fi.1))):=⟨_,fun _=>rfl⟩
    have hbx2:belX (lxOf g ws) ws id k a S base e=(Ai e).zipIdx.any P:=by rw [hbx];congr 1;funext fi;exact(hP fi).symm
    rw [hbx2]
    have hs2:=hs.ext hX2
    refine Ae (ι:=Nat) (fun j=>[(0,.pointer (some ⟨bS,0,none⟩)),(2,.slice aa a.length ac),(3,.int .u32 (m:Int)),(4,.slice ba base.length bc),(6,.pointer (some ⟨bE,0,none⟩)),(27,.slice fa (Ai e).length fc),(28,int (Ai e).length),(29,int j)])
      (fun j wl=>j≤(Ai e).length∧Kx (TU bT bU) w2 wl∧Tried g ws wl bT∧Row wl bU 4 [.bool false]∧∀(i:Nat) (F:List Int),i<j→(Ai e)[i]?=some F→P (F,i)=false) (fun j=>(Ai e).length-j) 0
      ⟨rfl,rfl,rfl,rfl,rfl,rfl,rfl,rfl,trivial⟩ ⟨Nat.zero_le _,Kx.of_ext (Ext.refl _),hs2.tried,hs2.is,fun _ _ h=>absurd h (by omega)⟩ ?_
    rintro j wl ⟨hj,hkl,htl,hul,hall⟩
    have hs3:=hs2.kx hkl htl hul
    have ha3:=(ha0.ext hX2).move (hkl.mv fun _ hb=>gxT hb)
    have hb3:=(hb0.ext hX2).move (hkl.mv fun _ hb=>gxT hb)
    have sF3:=sF.move (hkl.mv fun _ hb=>gxT hb)
    have rE3:=hkl.row rE (gxT ⟨by omega,by omega⟩)
    have hrow3:=hs3.row
    unfold srC at hrow3
    have hk0:Kx (TU bT bU) w wl:=(Kx.of_ext hX2).trans hkl
    have hmost:(lxOf g ws).most=if shrB g.rules then 24 else ws.length:=rfl
    by_cases hlt:j<(Ai e).length
    · obtain ⟨fb, fo, rfl⟩ := hfp (by omega)
      obtain⟨F,hF1⟩:∃ F,(Ai e)[j]?=some F:=⟨_,List.getElem?_eq_getElem hlt⟩
      obtain⟨cs,⟨Fv,rfl,hF2⟩,hatF⟩:=sF3.elem hF1
      obtain⟨Fa,Fc,rfl,_,_,_⟩:=hF2.sl
      have hatF2:=(show At wl fb (fo+j*1) [.slice Fa F.length Fc] from hatF).one
      have hFm:=hlx.2.2.2.2.2.1 F (List.mem_of_getElem? hF1)
      obtain⟨sb,b1,b2⟩:=hb3.css
      have fsb:sb.flatten.length=base.length*1:=AtsG.flat b1
      obtain⟨sf,f1,f2⟩:=hF2.css
      have fsf:sf.flatten.length=F.length*1:=AtsG.flat f1
      by_cases hmo:base.length+F.length≤(lxOf g ws).most
      · obtain⟨sa,a1,a2⟩:=ha3.css
        have fsa:sa.flatten.length=a.length*3:=AtsG.flat a1
        have hm24:(lxOf g ws).most≤24:=by rw [hmost];split <;> omega
        have hmost2:base.length+F.length≤24∧(shrB g.rules=false→base.length+F.length≤ws.length):=by
          rw [hmost] at hmo
          refine⟨by split at hmo <;> omega,fun h=>?_⟩
          rw [h,if_neg Bool.false_ne_true] at hmo;exact hmo
        obtain⟨sh,hsh⟩:∃ sh,shrB g.rules=sh:=⟨_,rfl⟩
        rw [hsh] at hrow3 hmost2
        cases sh
        all_goals
          (repeat' (first|refine eV Z Z (A0 (m:=j) Z Z Z (by first|rfl|omega) (by omega)) ?_|(refine eL Z Z Z Z Z Z Z Z (fun bN wN xN hbN rN=>?_))|(refine Ay (w0:=wl) (news:=sb.flatten) (Cq (n:=0) (size:=1) rN rfl (by omega) (by omega)) xN (fun h0=>?_) Z Z Z Z Z fsb (AtsG.ones b1) Z Z (by omega) (by omega) (fun v1 w4 o1 x1 _ _=>?_);(obtain⟨b,so,e1,_,hat⟩:=b2 (by omega);exact⟨b,so,e1,hat.ext xN⟩))|(refine Ay (w0:=wl) (news:=sf.flatten) o1 x1 (fun h0=>?_) Z Z Z Z Z fsf (AtsG.ones f1) Z Z (by omega) (by omega) (fun v2 w5 o2 x2 _ _=>?_);(obtain⟨b,so,e1,_,hat⟩:=f2 (by omega);exact⟨b,so,e1,hat.ext x1⟩))|refine Ly ?_|refine Dy (fun hh=>?_) fun hh=>?_))
        all_goals (try (have hm3:=hmost2.2 rfl))
        all_goals (try (exfalso;omega))
        all_goals
          have rE5:=rE3.ext x2
          have z2:=hX2.size
          have zl:=hkl.size
          have z5:=x2.size
          refine E.sub (M:=[(0,.pointer (some ⟨bS,0,none⟩)),(2,.slice aa a.length ac),(3,.int .u32 (m:Int)),(4,.slice ba base.length bc),(6,.pointer (some ⟨bE,0,none⟩)),(11,int j),(14,v2),(27,.slice (some ⟨fb,fo,none⟩) (Ai e).length fc),(28,int (Ai e).length),(29,int j)]) ⟨rfl,rfl,rfl,rfl,rfl,rfl,rfl,rfl,rfl,rfl,trivial⟩ ?_
          refine E_res (id:=9) [.r (some 62) 62 (ROwn w5.heap.size 129 3 0 []) [],.v 63 (.slice aa a.length ac),.r (some 64) 64 (ROwn w5.heap.size 129 3 (0+a.length) ([]++sa.flatten)) [0],.v 65 (.pointer (some ⟨bE,0+0,none⟩)),.v 66 (int e.id),.v 67 (int j),.v 68 (.agg #[int e.id,int j,int 0]),
            .r (some 69) 69 (ROwn w5.heap.size 129 3 1 [int e.id,int j,int 0]) [],.r (some 70) 70 (ROwn w5.heap.size 129 3 (0+a.length+1) ([]++sa.flatten++[int e.id,int j,int 0])) [2,7],.r (some 15) 15 (ROwn w5.heap.size 129 3 (0+a.length+1) ([]++sa.flatten++[int e.id,int j,int 0])) [8] ] [9] Aa (by kernel_rfl) (by kernel_rfl) (by kernel_rfl)
            ⟨st_lit (vs:=[]) (cs:=[]) Z Z Z Z Z Z Z (by omega),vcV fun _ _=>zA Z Z,
              st_app (c:=ac) (a:=aa) (q:=a.length) rfl rfl (fun _=>rfl) (fun w' x' h0=>by obtain⟨b,so,e1,_,hat⟩:=a2 (by omega);exact⟨b,so,e1,hat.ext (x2.trans x')⟩) fsa (AtsG.ones a1) rfl rfl (by omega) (by omega),
              vcV fun _ _=>zH Z Z,vcV fun wq xq=>(by first|exact A6 Z Z Z ((Row.ext (by assumption) xq).cellAt (by rfl))|exact Ab Z Z Z (Row.ext (by assumption) xq).at (by rfl)|exact A6 Z Z Z ((At.ext (by assumption) xq).cellAt (by rfl))|exact Ab Z Z Z (At.ext (by assumption) xq) (by rfl)|exact A6 Z Z Z (Ext.cell xq (by assumption))),vcV fun _ _=>zA Z Z,vcV fun _ _=>Af (vs:=[(0,int e.id),(1,int j)]) [int e.id,int j,int 0] rfl rfl rfl,
              st_lit (vs:=[.agg #[int e.id,int j,int 0] ]) (cs:=[int e.id,int j,int 0]) rfl rfl rfl rfl rfl rfl rfl (by omega),st_app2 rfl rfl rfl (by decide) rfl rfl rfl (by omega) (by omega),
              st_val P8 (fun w' δ' Gs' x' hr'=>⟨δ' 70,Cn Z Z,?_⟩),trivial⟩ (fun w6 δ6 Gs6 x6 hr6 _=>?_)
          · have h8:=hr' 8 (List.mem_singleton.2 rfl)
            exact⟨h8.1,fun b hb=>⟨8,List.mem_singleton.2 rfl,h8.2 b hb⟩⟩
          have h9:=(hr6 9 (List.mem_singleton.2 rfl)).1
          change ROwn w5.heap.size 129 3 (0+a.length+1) ([]++sa.flatten++[int e.id,int j,int 0]) (Gs6 9) (δ6 15) w6 at h9
          obtain⟨b,hb⟩:∃ b:List Prt,b=a++[⟨e.id,(j:Int),0⟩]:=⟨_,rfl⟩
          have hblen:b.length=a.length+1:=by rw [hb];simp
          have hv2:w6.ownsRow w5.heap.size 129 3 (δ6 15) (0+a.length+1) ((sa++[[int e.id,int j,int 0] ]).flatten):=by
            rw [List.flatten_append]
            simpa only [List.nil_append,List.flatten_cons,List.flatten_nil,List.append_nil] using h9.1
          have hvb:SlG (fun c=>c≠bT∧c≠bU) w6 (δ6 15) b:=by
            rw [hb]
            exact C5 (e:=129) (n:=0+a.length+1) (css:=sa++[[int e.id,int j,int 0] ]) hv2 (AllAt.append (AllAt.mono (fun _ _ h=>h) a1) (AllAt.one rfl)) (fun c hc=>hGn c (by omega)) (by rw [← hb,hblen];omega) (by rw [← hb,hblen];omega)
          have hbB5:SlG (fun c=>c≠bT∧c≠bU) w5 v2 (base++F):=
            C5 (e:=3) (B:=wl.heap.size) (n:=0+base.length+F.length) (css:=sb++sf) (by rw [List.flatten_append];exact o2) (AllAt.append (AllAt.mono (fun _ _ h=>h) b1) (AllAt.mono (fun _ _ h=>h) f1)) (fun c hc=>hGn c (by omega)) (by rw [List.length_append];omega) (by rw [List.length_append];omega)
          have hbB:=hbB5.ext x6
          have hob2:OKb (base++F):=fun x hx=>by
            rcases List.mem_append.1 hx with h|h
            · exact hob x h
            · exact hFm.2 x h
          have hl6:Ext wl w6:=x2.trans x6
          have cw:=hwalk b S m (base++F) _ _ w6 (by rw [hblen];omega) hm hob2 (by rw [List.length_append];omega) (hs3.ext hl6) hvb hbB
          obtain⟨r,hr⟩:∃ r,(Go.Pv.hereB (lxOf g ws) ws id b S (base++F)||belB (lxOf g ws) ws id k b S (base++F))=r:=⟨_,rfl⟩
          have hPj:P (F,j)=r:=by rw [hP];dsimp only;rw [decide_eq_true hmo,Bool.true_and,← hb];exact hr
          rw [hr] at cw
          refine K.sub (M:=[(0,.pointer (some ⟨bS,0,none⟩)),(2,.slice aa a.length ac),(3,.int .u32 (m:Int)),(4,.slice ba base.length bc),(6,.pointer (some ⟨bE,0,none⟩)),(14,v2),(15,δ6 15),(27,.slice (some ⟨fb,fo,none⟩) (Ai e).length fc),(28,int (Ai e).length),(29,int j)]) ⟨rfl,rfl,rfl,rfl,rfl,rfl,rfl,rfl,rfl,rfl,trivial⟩ ?_
          cases r
          · (repeat' (first|(refine A9 Z Z (A3 Z Z en108) cw (fun vC w7 hC=>?_);obtain⟨rfl,k7,t7,u7⟩:=hC)|refine Sy ?_))
            all_goals (try (exfalso;omega))
            refine Ad (j+1) ⟨rfl,rfl,rfl,rfl,rfl,rfl,rfl,rfl,trivial⟩ ⟨by omega,(hkl.trans (Kx.of_ext hl6)).trans k7,t7,u7,fun i z hi hz=>?_⟩ (by omega)
            by_cases ee:i=j
            · subst ee;rw [hF1] at hz;cases hz;exact hPj
            · exact hall i z (by omega) hz
          · (repeat' (first|(refine A9 Z Z (A3 Z Z en108) cw (fun vC w7 hC=>?_);obtain⟨rfl,k7,t7,u7⟩:=hC)|refine Sy ?_))
            all_goals (try (exfalso;omega))
            have:(Ai e).zipIdx.any P=true:=List.any_eq_true.2 ⟨(F,j),List.mem_zipIdx_iff_getElem?.2 hF1,hPj⟩
            rw [this]
            exact A5 Z Z ⟨rfl,(hk0.trans (Kx.of_ext hl6)).trans k7,t7,u7⟩
      · have hPj:P (F,j)=false:=by rw [hP];dsimp only;rw [decide_eq_false hmo];rfl
        cases hsh:shrB g.rules
        all_goals (rw [hsh] at hrow3 hmost;first|rw [if_pos rfl] at hmost|rw [if_neg Bool.false_ne_true] at hmost)
        all_goals (repeat' (first|refine eV Z Z (A0 (m:=j) Z Z Z (by first|rfl|omega) (by omega)) ?_|refine Ly ?_|refine Dy (fun hh=>?_) fun hh=>?_|refine eL Z Z Z Z Z Z Z Z (fun bS wS xS hbS rS=>?_)))
        all_goals (try (exfalso;omega))
        all_goals refine Ad (j+1) ⟨rfl,rfl,rfl,rfl,rfl,rfl,rfl,rfl,trivial⟩ ⟨by omega,hkl,htl,hul,fun i z hi hz=>?_⟩ (by omega)
        all_goals
          by_cases ee:i=j
          · subst ee;rw [hF1] at hz;cases hz;exact hPj
          · exact hall i z (by omega) hz
    · have:(Ai e).zipIdx.any P=false:=by
        rw [List.any_eq_false]
        rintro⟨F,i⟩ hi
        have:=List.mem_zipIdx_iff_getElem?.1 hi
        rw [hall i F (by have:=(List.getElem?_eq_some_iff.1 this).1;omega) this];simp
      rw [this]
      (repeat' (first|refine Sy ?_|refine Dy (fun hh=>?_) fun hh=>?_))
      all_goals (try (exfalso;omega))
      exact A5 Z Z ⟨rfl,hk0,htl,hul⟩
end
section
open Go.RowKit Go.En Go.Pv
theorem walk_all {g:Lg} (hok:LangOK g) (hro:∀ r∈g.rules,RulOK r) (h185:SensC g.lex) {ws:List Int} (hws:ws.length≤24) {id:Int} {pv uv tv rv sv fv ev wv:Value} {fin:Nat} (hfin:MaskIs fin (finB g.net)) {bS bT bI bU:Nat} :
    ∀ k:Nat,WalkC g ws id pv uv tv rv sv fv ev wv fin bS bT bI bU k
  | 0=>L2 hok hro hws hfin 0 (fun k' h=>absurd h (by omega))
  | k + 1 => L2 hok hro hws hfin (k + 1) (fun k' h => by
      obtain rfl:k=k':=by omega
      exact step_of_walk hok h185 hws k (walk_all hok hro h185 hws hfin k))
end
end Go.Proofs.YtjicdgejhkgpgaaGreatDoor
namespace Go.En
open Go.RowKit
section
variable {P : Program} {n : Nat} {Q : Post} {L : List (Nat × Value)} {w : World} {ops : List Oper} {o : Oper} {rest : List Oper}
theorem EL_valn {v:Value} {w':World} (hg:gst ops L o=some true) (hd:o.dst=none) (h:∀ ρ,Agree L o ρ→(execOp ρ o).run P w=.ok (.value v) w') (k:EL P n ops Q rest L w'):EL P n ops Q (o::rest) L w:=
  fun a ha=>wpList_step fun K hK=>by
    rw [F0 ha hg,if_pos rfl]
    unfold Oper.wp
    rw [h a.eval (ha.agree o)]
    refine hK _ _ (k _ ?_)
    rw [hd]
    exact ha
theorem K2 (z:Value) (n:Nat):(Builtin.zeroCells #[z] n).toList=List.replicate n z:=by
  unfold Builtin.zeroCells
  apply List.ext_getElem?
  intro i
  simp only [Array.toList_map,Array.toList_range,List.getElem?_map,List.getElem?_replicate]
  by_cases hi:i<n
  · rw [List.getElem?_range (by simpa using hi),if_pos hi]
    simp [Nat.mod_one]
  · rw [if_neg hi,List.getElem?_eq_none (by simpa using hi)]
    rfl
theorem EL_clear {t e:TypeId} {x:Operand} {z:Value} {bytes:Nat} {b off m cap:Nat} {cur:List Value} [ut:UT P t (.slice e)] [ti:TI P e z 1 bytes] (hr:Row w b e cur) (hg:gst ops L o=some true) (hd:o.dst=none) (ho:o.op=.call { callee:=.builtin .clear,args:=#[x],argTypes:=#[t] })
    (hx:ev L x=some (.slice (some ⟨b,off,none⟩) m cap)) (hz:z.cells=#[z]) (h1:z.oneCell'=true) (hfit:off+m≤cur.length)
    (k:∀ w',Row w' b e (cur.take off++List.replicate m z++cur.drop (off+m))→Kb (some b) w w'→EL P n ops Q rest L w'):EL P n ops Q (o::rest) L w:=by
  obtain⟨i0,hi,hz0,hz1,hz2⟩:=info_parts ti.i
  have hzv:(zeroValue e).run P w=.ok z w:=H7 (P:=P) (t:=e) w
  have hu:=C7 (t:=t) (P:=P) w
  by_cases h0:m=0
  · subst h0
    refine EL_valn (w':=w) (v:=.tuple #[]) hg hd (fun ρ ha=>?_) (k w (by simpa using hr) (World.grownBy.refl _ _))
    have a1:=ha.ev (by rw [ho];simp [Op.operands,Call.operands]) hx
    simp [execOp,ho,resolve,invoke,builtin,Builtin.clear_,a1,hu]
  · have hst:=run_storeCells_at (P:=P) b off e (List.replicate m z) 0 cur.toArray w hr (by simp;omega) (fun u hu=>by rw [List.eq_of_mem_replicate hu];exact h1)
    simp only [Nat.add_zero] at hst
    have hkb:Kb (some b) w (w.setRow b (cur.take off++List.replicate m z++cur.drop (off+m)).toArray):=⟨rfl,rfl,rfl,by simp,fun k hk hne=>setRow_other w b k _ (fun e=>hne (by rw [e]))⟩
    refine EL_valn (w':=w.setRow b (cur.take off++List.replicate m z++cur.drop (off+m)).toArray) (v:=.tuple #[]) hg hd (fun ρ ha=>?_) (k _ (setRow_heap w b cur.toArray _ e (0,0) hr) hkb)
    have a1:=ha.ev (by rw [ho];simp [Op.operands,Call.operands]) hx
    obtain⟨m',rfl⟩:∃ m',m=m'+1:=⟨m-1,by omega⟩
    simp only [execOp,ho,resolve,invoke,builtin,Builtin.clear_,Sem.run_bind,Sem.run_pure,Result.andThen_ok,List.map_toArray,List.map_cons,List.map_nil,a1,hu,hzv,hz,K2]
    simp [hu,hzv,hz,K2,hst]
end
section
variable {P : Program} {L : List (Nat × Value)} {w : World} {o : Oper}
theorem O7 {t e u:TypeId} {x y:Operand} {a:Option Addr} {m c:Nat} [ut:UT P t (.slice e)] (ho:o.op=.binOp .eql t x y u) (hx:ev L x=some (.slice a m c)) (hy:ev L y=some (.slice none 0 0)):Val P L w o (.bool a.isNone):=fun ρ ha=>by
  have h1:=ha.ev (by rw [ho];simp [Op.operands]) hx
  have h2:=ha.ev (by rw [ho];simp [Op.operands]) hy
  have h3:=C7 (t:=t) (P:=P) w
  have h4:=Lib.run_eql_slice_nil (P:=P) w t e a m c 0 0 ut.u
  simp [execOp,ho,h1,h2,h3,h4,eqGuard]
end
end Go.En
namespace Go.Proofs.YtjicdgejhkgpgaaGreatDoor
section
open Go.RowKit Go.En Go.Pv
attribute [local irreducible] E EL K Val Enters Rt Calls bodyPost Code.wp RQ
theorem clone219_any (l:List Sns) (v:Value) (w:World) (hv:Sl w v l) (hln:l.length≤1000000):Calls Tryz.prog 219 #[v] w (Rt fun u w'=>SlG (fun b=>w.heap.size≤b) w' u l∧Ext w w'):=by
  have hv0:=hv
  obtain⟨a,cap,rfl,hc,hm,hp⟩:=hv.sl
  refine A7 (n:=8) (args:=[.slice a l.length cap]) Tryz.func219 rfl Tryz.ntmps219 (by simp) ?_
  cases a with
  | none=>
    have hl:l=[]:=by
      cases l with
      | nil=>rfl
      | cons x r=>obtain⟨b,off,h⟩:=hp (by simp);cases h
    subst hl
    (repeat' (first|refine eV Z Z (O7 Z Z Z) ?_|refine Sy ?_))
    exact A5 Z Z ⟨SlG.nil,Ext.refl _⟩
  | some p=>
    (repeat' (first|refine eV Z Z (O7 Z Z Z) ?_|(refine eL Z Z Z Z Z Z Z Z (fun bS wS xS hbS rS=>?_))|(refine Gr (G':=fun b=>w.heap.size≤b) hv0 xS rS (by omega) (fun b hb=>hb) Z Z Z Z Z Z Z (by omega) (fun vJ wJ sJ xJ=>?_))|refine Sy ?_))
    exact A5 Z Z ⟨sJ,xJ⟩
end
section
open Go.RowKit Go.En Go.Pv
def Q2 (lex : List En) : Nat → Int → List En
  | 0,_=>[]
  | k+1,id=>match getE lex id with
    | none=>[]
    | some e=>e::if e.main=0 then [] else Q2 lex k e.main
theorem Ha (lex : List En) : ∀ (k : Nat) (id : Int), Jl lex k id = match (Q2 lex k id).find? (fun e => decide (0 < e.senses.length)) with | some e => e.senses | none => []
  | 0,_=>rfl
  | k + 1, id => by
    rw [Q2,Jl]
    cases hg:getE lex id with
    | none=>rfl
    | some e=>
      dsimp only
      rw [List.find?_cons]
      cases hs:e.senses with
      | cons s r=>
        rw [if_pos (by simp)]
        have:decide (0<(s::r).length)=true:=by simp
        rw [this]
        exact hs.symm
      | nil=>
        rw [if_neg (by simp)]
        have:decide (0<([]:List Sns).length)=false:=by simp
        rw [this]
        by_cases h0:e.main=0
        · rw [if_pos h0,if_pos h0];rfl
        · rw [if_neg h0,if_neg h0]
          exact Ha lex k e.main
end
section
open Go.RowKit Go.En Go.Pv
def Cv (lex : List En) : Nat → Int → List Int
  | 0,_=>[]
  | k+1,id=>match getE lex id with
    | none=>[]
    | some e=>id::if e.main=0 then [] else Cv lex k e.main
theorem N8 {lex:List En} {k:Nat} {id:Int} {e:En} (h:getE lex id=some e):Cv lex (k+1) id=id::if e.main=0 then [] else Cv lex k e.main:=by
  rw [Cv,h]
theorem N9 {lex:List En} {k:Nat} {id:Int} (h:getE lex id=none):Cv lex (k+1) id=[]:=by
  rw [Cv,h]
theorem Ks (lex:List En):∀(k:Nat) (id:Int),(Cv lex k id).map (entD lex)=Q2 lex k id
  | 0,_=>rfl
  | k + 1, id => by
    rw [Q2]
    cases h:getE lex id with
    | none=>rw [N9 h];rfl
    | some e=>
      rw [N8 h,List.map_cons]
      have:entD lex id=e:=by unfold entD;rw [h];rfl
      rw [this]
      dsimp only
      by_cases h0:e.main=0
      · rw [if_pos h0,if_pos h0];rfl
      · rw [if_neg h0,if_neg h0,Ks lex k e.main]
theorem senses_none {lex:List En} {id:Int} (h:∀ x∈Cv lex (lex.length+1) id,(entD lex x).senses.length=0):B6 lex id=[]:=by
  unfold B6
  rw [Ha,← Ks,List.find?_eq_none.2]
  intro e he
  obtain⟨x,hx,rfl⟩:=List.mem_map.1 he
  rw [h x hx];simp
theorem senses_first {lex:List En} {id x:Int} {pre:List Int} (hp:pre++[x] <+: Cv lex (lex.length+1) id) (h:∀ y∈pre,(entD lex y).senses.length=0) (hx:0<(entD lex x).senses.length):B6 lex id=(entD lex x).senses:=by
  obtain⟨r,hr⟩:=hp
  unfold B6
  rw [Ha,← Ks,← hr,List.map_append,List.map_append,List.find?_append,List.find?_append]
  have h1:(pre.map (entD lex)).find? (fun e=>decide (0<e.senses.length))=none:=by
    rw [List.find?_eq_none]
    intro e he
    obtain⟨y,hy,rfl⟩:=List.mem_map.1 he
    rw [h y hy];simp
  have h2:([x].map (entD lex)).find? (fun e=>decide (0<e.senses.length))=some (entD lex x):=by
    rw [List.map_cons,List.map_nil,List.find?_cons,decide_eq_true hx]
  rw [h1,h2];rfl
end
end Go.Proofs.YtjicdgejhkgpgaaGreatDoor