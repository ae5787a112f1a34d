/-
  Own text of the proof.
-/
import Derived.Test.YtjicdgejhkgpgaaGreatDoorYp
set_option linter.all false
set_option maxHeartbeats 8000000
set_option maxRecDepth 8000
namespace Go.Proofs.YtjicdgejhkgpgaaGreatDoor
section
open Go.RowKit Go.En Go.Pv
attribute [local irreducible] E EL K Val Enters Rt Calls bodyPost Code.wp RQ
def RES (g:Lg) (ws:List Int) (w0 w:World) (ov:Value) (outs:List (List Prt)) (k:Nat) (a:List Prt):Value→World→Prop:=fun u w'=>
  Ext w0 w'∧Kp ov u w w'∧∃ css,w'.ownsRow w0.heap.size 159 1 u (outs++furL (lxOf g ws) ws k a).length css.flatten∧AtsG (Nb u) w' (outs++furL (lxOf g ws) ws k a) css
theorem Pl (g:Lg) (hok:LangOK g) (n:Nat) (hn:g.net.states=(n:Int)) (ws:List Int) (hws:ws.length≤24) (pv uv tv rv sv fv ev wv:Value) (w0:World):∀(k:Nat) (a:List Prt) (av:Value) (outs:List (List Prt)) (css:List (List Value)) (ov:Value) (w:World),a.length+k=4→Ext w0 w→
    w.ownsRow w0.heap.size 159 1 ov outs.length css.flatten→AtsG (Nb ov) w outs css→SlG (Nb ov) w av a→SlG (Nb ov) w wv ws→LangG (Nb ov) w g pv uv tv rv sv fv ev→outs.length+nFur k≤100000→
    Calls Tryz.prog 126 #[.agg #[pv,str g.oname,uv,tv,rv,int n,sv,fv,ev],wv,.agg #[av],int (lxOf g ws).most,ov] w (Rt (RES g ws w0 w ov outs k a)):=by
  intro k
  induction k with
  | zero=>
    intro a av outs css ov w hak x0 hown hats ha hw hg hbd
    obtain⟨aa,ac,rfl,_,_,_⟩:=ha.sl
    refine A7 (n:=91) (args:=[.agg #[pv,str g.oname,uv,tv,rv,int n,sv,fv,ev],wv,.agg #[.slice aa a.length ac],int (lxOf g ws).most,ov]) Tryz.func126 rfl Tryz.ntmps126 (by simp) ?_
    refine Ac ?_
    refine A8 ?_
    refine Aj Z Z Z Z (fun bG wG xG hbG rG0=>?_)
    refine Aj Z Z Z Z (fun bA wA xA hbA rA0=>?_)
    have rA:Row wA bA 159 [.slice aa a.length ac]:=rA0
    have hX:=xG.trans xA
    (repeat' (first|refine Ly ?_|refine Dy (fun hh=>?_) fun hh=>?_))
    all_goals (try (exfalso;omega))
    refine A5 Z Z ⟨x0.trans hX,Kp.of_ext hX,css,?_,?_⟩
    · rw [furL,List.append_nil];exact Ak hown hX
    · rw [furL,List.append_nil];exact AtsG.ext hats hX
  | succ k ih=>
    intro a av outs css ov w hak x0 hown hats ha hw hg hbd
    have ha0:=ha;have hw0:=hw
    obtain⟨aa,ac,rfl,_,_,hap⟩:=ha.sl
    obtain⟨wa,wc,rfl,_,_,_⟩:=hw.sl
    have hev0:=hg.lex
    obtain⟨ea,ec,rfl,_,_,hep⟩:=hg.lex.sl
    obtain⟨L0,hL0⟩:∃ L0,L0=lxOf g ws:=⟨_,rfl⟩
    have hmost:(lxOf g ws).most≤24:=(lx_ok hok hws).most
    have hlexL:(lxOf g ws).lex=g.lex:=rfl
    refine A7 (n:=91) (args:=[.agg #[pv,str g.oname,uv,tv,rv,int n,sv,fv,.slice ea g.lex.length ec],.slice wa ws.length wc,.agg #[.slice aa a.length ac],int (lxOf g ws).most,ov]) Tryz.func126 rfl Tryz.ntmps126 (by simp) ?_
    refine Ac ?_
    refine A8 ?_
    refine Aj Z Z Z Z (fun bG wG xG hbG rG0=>?_)
    have rG1:Row wG bG 37 [pv,str g.oname,uv,tv,rv,int n,sv,fv,.slice ea g.lex.length ec]:=rG0
    refine Aj Z Z Z Z (fun bA wA xA hbA rA0=>?_)
    have rA:Row wA bA 159 [.slice aa a.length ac]:=rA0
    have rG:=rG1.ext xA
    have hX:=xG.trans xA
    have hGs:=rG1.lt
    have hAs:=rA.lt
    have hno:∀ b,ov.ownBlock=some b→b<w.heap.size:=fun b hb=>(hown.lt b hb).2
    have nG:Nb ov bG:=fun e=>by have:=hno bG e.symm;omega
    have nA:Nb ov bA:=fun e=>by have:=hno bA e.symm;have:=xG.size;omega
    clear rG0 rA0 rG1
    have hN:At wA bG (0+5) [int n,sv,fv]:=At.sub (xs:=[pv,str g.oname,uv,tv,rv]) (ys:=[int n,sv,fv]) (zs:=[.slice ea g.lex.length ec]) rG.at
    (repeat' ((fail_if_success (refine Ac (x:=(Code.region 4 _ _)) ?_));first|refine Al (f:=164) (fun u w'=>Sl w' u (Aq g.lex a)) (fun _=>#[.agg #[pv,str g.oname,uv,tv,rv,int n,sv,fv,.slice ea g.lex.length ec],.agg #[.slice aa a.length ac] ]) Z Z (fun _ _ _ _ xe h=>SlG.ext h xe) (fun _ _ _=>A3 Z Z en164) (fun wq _ xq _=>Ag (J8 g n pv uv tv rv sv fv _ a _ wq (hev0.any.ext (hX.trans xq)) (ha0.any.ext (hX.trans xq)) (by omega) hok.alts) (fun _ _ hh=>⟨hh.2,hh.1⟩)) ?_|(refine Al (f:=163) (fun u w'=>SlG (Nb ov) w' u (Cr g.net (Aq g.lex a) 20)) (fun δ=>#[.agg #[int n,sv,fv],δ 26]) Z Z (fun _ _ _ _ xe h=>SlG.ext h xe) (fun _ _ _=>A3 Z Z en163) (fun wq δ xq hd=>?_) ?_;exact Ag (follow163_any g.net hok.net n hn sv fv _ _ wq (hg.steps.any.ext (hX.trans xq)) (hg.final.any.ext (hX.trans xq)) (hd 26 rfl _ rfl) (hok.cls a)) (fun _ _ hh=>⟨hh.2.wk (fun b hb e=>by have:=hno b e.symm;have:=(hX.trans xq).size;omega),hh.1⟩))|refine K0 Z Z Z Z (fun _=>rfl) ?_|(refine B8 (fun wq δ xq hR=>?_);have hF:=hR 11 _ rfl)|refine Ly ?_|refine Dy (fun hh=>?_) fun hh=>?_|refine yqY ?_|refine yqZ ?_|refine E_dq Aa (by kernel_rfl) Z ?_))
    all_goals (try (exfalso;omega))
    replace hX:=hX.trans xq
    replace rG:=rG.ext xq;replace rA:=rA.ext xq
    obtain⟨na,nc,e11,_,_,_⟩:=SlG.sl hF
    rw [e11] at hF
    obtain⟨NL,hNL⟩:∃ NL,NL=Cr g.net (Aq g.lex a) 20:=⟨_,rfl⟩
    rw [← hNL] at hF
    have e11':δ 11=.slice na NL.length nc:=by rw [hNL];exact e11
    refine E.sub (M:=[(1,.slice wa ws.length wc),(3,int (lxOf g ws).most),(4,ov),(5,.pointer (some ⟨bG,0,none⟩)),(7,.pointer (some ⟨bA,0,none⟩)),(11,.slice na NL.length nc)]) ⟨rfl,rfl,rfl,rfl,rfl,congrArg some e11',trivial⟩ ?_
    have hown1:=Ak hown hX
    have hats1:=AtsG.ext hats hX
    have x01:=x0.trans hX
    have hal:a.length≤3:=by omega
    have hnf:nFur (k+1)=10*(1+nFur k):=rfl
    (repeat' (first|refine Sy ?_))
    refine Ae (ι:=Nat × Value) (fun z=>[(1,.slice wa ws.length wc),(3,int (lxOf g ws).most),(4,z.2),(5,.pointer (some ⟨bG,0,none⟩)),(7,.pointer (some ⟨bA,0,none⟩)),(11,.slice na NL.length nc),(12,int z.1)])
      (fun z wr=>z.1≤g.lex.length∧Ext w0 wr∧Kp ov z.2 wq wr∧∃ cs1,wr.ownsRow w0.heap.size 159 1 z.2 (outs++(g.lex.take z.1).flatMap (furX (lxOf g ws) ws k a)).length cs1.flatten∧AtsG (Nb z.2) wr (outs++(g.lex.take z.1).flatMap (furX (lxOf g ws) ws k a)) cs1) (fun z=>g.lex.length-z.1) (0,ov)
      ⟨rfl,rfl,rfl,rfl,rfl,rfl,rfl,trivial⟩ ⟨Nat.zero_le _,x01,Kp.of_ext (Ext.refl _),css,by simpa using hown1,by simpa using hats1⟩ ?_
    rintro⟨i,vO⟩ wr ⟨hi,x0r,hkp,cs1,hownr,hatsr⟩
    dsimp only at hi x0r hkp hownr hatsr ⊢
    have hlenI:((g.lex.take i).flatMap (furX (lxOf g ws) ws k a)).length≤i*(2*(1+nFur k)):=by
      have:=Fi (l:=g.lex.take i) (fun e he=>furX_len hok ws k a e (List.mem_of_mem_take he))
      rw [List.length_take] at this
      exact Nat.le_trans this (Nat.mul_le_mul_right _ (Nat.min_le_left _ _))
    have hnl:=hok.nlex
    obtain⟨O1,hO1⟩:∃ O1,O1=outs++(g.lex.take i).flatMap (furX (lxOf g ws) ws k a):=⟨_,rfl⟩
    rw [← hO1] at hownr hatsr
    have hO1l:O1.length≤outs.length+i*(2*(1+nFur k)):=by rw [hO1,List.length_append];omega
    obtain⟨rGr,nGr⟩:=hkp.row rG nG
    obtain⟨rAr,nAr⟩:=hkp.row rA nA
    have hevr:=(hev0.ext hX).move hkp.mv
    have hFr:=hF.move hkp.mv
    have har:=(ha0.ext hX).move hkp.mv
    have hwr:=(hw0.ext hX).move hkp.mv
    have hgr:=(hg.ext hX).move hkp.mv
    by_cases hlt:i<g.lex.length
    · obtain⟨eb,eo,rfl⟩:=hep (by omega)
      obtain⟨e,he⟩:∃ e,g.lex[i]?=some e:=⟨_,List.getElem?_eq_getElem hlt⟩
      have hem:=List.mem_of_getElem? he
      have hO1s:outs++(g.lex.take (i+1)).flatMap (furX (lxOf g ws) ws k a)=O1++furX (lxOf g ws) ws k a e:=by
        obtain⟨h1,h2⟩:=List.getElem?_eq_some_iff.1 he
        rw [List.take_succ_eq_append_getElem h1,h2,List.flatMap_append,hO1];simp
      obtain⟨d0,f0,d1,f1,d2,f2,d3,f3,d4,f4,hat,hrep,_⟩:=B3 hevr he
      have hlx:=hok.lex e hem
      (repeat' (first|refine eV Z Z (A0 (m:=i) Z Z Z Z hlt) ?_|refine Ap Z Z Z (fun bE wE xE hbE rE=>?_)|refine Ly ?_|refine Dy (fun hh=>?_) fun hh=>?_))
      all_goals (try (exfalso;omega))
      refine Ah (cs:=[_,_,_,_,_,_,_,_]) rE xE (Nat.le_of_eq hbE.symm) Z Z Z Z Z Z Z Z (Nat.le_refl _) (fun w3 rE1 x3 k3=>?_)
      have rE3:Row w3 bE 65 [int e.id,.slice d0 e.form.length f0,int e.cls,.slice d1 e.alts.length f1,int e.main,.slice d2 e.senses.length f2,.slice d3 e.links.length f3,.slice d4 e.refs.length f4]:=rE1
      have hnoO:∀ b,vO.ownBlock=some b→b<wr.heap.size:=fun b hb=>(hownr.lt b hb).2
      have nE:Nb vO bE:=fun e'=>by have:=hnoO bE e'.symm;omega
      have hfm:=follow_mem (N:=g.net) (l:=Aq g.lex a) (c:=e.cls) ⟨hlx.2.1,hlx.2.2.1⟩
      rw [← hNL] at hfm
      have ch:=Jn NL e.cls _ w3 (hFr.any.ext x3)
      rw [hfm] at ch
      cases hfo:D2 g.net (Aq g.lex a) e.cls with
      | false=>
        rw [hfo] at ch
        have hX0:furX (lxOf g ws) ws k a e=[]:=by unfold furX;rw [hlexL,show(lxOf g ws).net=g.net from rfl,hfo];rfl
        (repeat' (first|(refine cqC ch en33 fun wC xC=>?_)|refine Ly ?_))
        all_goals (try (exfalso;omega))
        refine Ad (i+1,vO) ⟨rfl,rfl,rfl,rfl,rfl,rfl,rfl,trivial⟩ ⟨by dsimp only;omega,x0r.trans (x3.trans xC),hkp.trans (Kp.of_ext (x3.trans xC)),cs1,?_,?_⟩ (by dsimp only;omega)
        · dsimp only;rw [hO1s,hX0,List.append_nil];exact Ak hownr (x3.trans xC)
        · dsimp only;rw [hO1s,hX0,List.append_nil];exact AtsG.ext hatsr (x3.trans xC)
      | true=>
        rw [hfo] at ch
        have hX0:furX (lxOf g ws) ws k a e=(Ai e).zipIdx.flatMap (furY (lxOf g ws) ws k a e):=by unfold furX;rw [hlexL,show(lxOf g ws).net=g.net from rfl,hfo];rfl
        (repeat' (first|(refine cqC ch en33 fun wC xC=>?_)|refine Ly ?_))
        all_goals (try (exfalso;omega))
        have hwE:Ext wr wC:=x3.trans xC
        have hownE:=Ak hownr hwE
        have hatsE:=AtsG.ext hatsr hwE
        have rGE:=rGr.ext hwE;have rAE:=rAr.ext hwE;have rEE:=rE3.ext xC
        have hevE:=hevr.ext hwE;have hFE:=hFr.ext hwE;have haE:=har.ext hwE;have hwwE:=hwr.ext hwE;have hgE:=hgr.ext hwE
        have hrepE:Rep.at_ (Nb vO) wC e [int e.id,.slice d0 e.form.length f0,int e.cls,.slice d1 e.alts.length f1,int e.main,.slice d2 e.senses.length f2,.slice d3 e.links.length f3,.slice d4 e.refs.length f4]:=Rep.move hrep hwE.mv
        have hfl:(Ai e).length≤2:=by simp [Ai];have:=hlx.2.2.2.2.1;omega
        have hfz:(Ai e).zipIdx.length=(Ai e).length:=List.length_zipIdx
        refine Ae (ι:=Nat × Value) (fun z=>[(1,.slice wa ws.length wc),(3,int (lxOf g ws).most),(4,z.2),(5,.pointer (some ⟨bG,0,none⟩)),(7,.pointer (some ⟨bA,0,none⟩)),(11,.slice na NL.length nc),(12,int i),(13,.pointer (some ⟨bE,0,none⟩)),(14,int z.1)])
          (fun z w2=>z.1≤(Ai e).length∧Ext w0 w2∧Kp vO z.2 wC w2∧∃ cs2,w2.ownsRow w0.heap.size 159 1 z.2 (O1++((Ai e).zipIdx.take z.1).flatMap (furY (lxOf g ws) ws k a e)).length cs2.flatten∧AtsG (Nb z.2) w2 (O1++((Ai e).zipIdx.take z.1).flatMap (furY (lxOf g ws) ws k a e)) cs2) (fun z=>(Ai e).length-z.1) (0,vO)
          ⟨rfl,rfl,rfl,rfl,rfl,rfl,rfl,rfl,rfl,trivial⟩ ⟨Nat.zero_le _,x0r.trans hwE,Kp.of_ext (Ext.refl _),cs1,by simpa using hownE,by simpa using hatsE⟩ ?_
        rintro⟨j,v2⟩ w2 ⟨hj,x02,hkp2,cs2,hown2,hats2⟩
        dsimp only at hj x02 hkp2 hown2 hats2 ⊢
        have hlenJ:(((Ai e).zipIdx.take j).flatMap (furY (lxOf g ws) ws k a e)).length≤j*(1+nFur k):=by
          have:=Fi (l:=(Ai e).zipIdx.take j) (fun fi _=>furY_len hok ws k a e fi)
          rw [List.length_take] at this
          exact Nat.le_trans this (Nat.mul_le_mul_right _ (Nat.min_le_left _ _))
        obtain⟨O2,hO2⟩:∃ O2,O2=O1++((Ai e).zipIdx.take j).flatMap (furY (lxOf g ws) ws k a e):=⟨_,rfl⟩
        rw [← hO2] at hown2 hats2
        have hO2l:O2.length≤O1.length+j*(1+nFur k):=by rw [hO2,List.length_append];omega
        obtain⟨rG2,nG2⟩:=hkp2.row rGE nGr
        obtain⟨rA2,nA2⟩:=hkp2.row rAE nAr
        obtain⟨rE2,nE2⟩:=hkp2.row rEE nE
        have ha2:=haE.move hkp2.mv
        have hw2:=hwwE.move hkp2.mv
        have hg2:=hgE.move hkp2.mv
        have hrep2:Rep.at_ (Nb v2) w2 e [int e.id,.slice d0 e.form.length f0,int e.cls,.slice d1 e.alts.length f1,int e.main,.slice d2 e.senses.length f2,.slice d3 e.links.length f3,.slice d4 e.refs.length f4]:=Rep.move hrepE hkp2.mv
        have cfo:=fun w' (x:Ext w2 w')=>I4 e _ w' (Rep.move hrep2 (fun b hb hlt=>⟨trivial,x.block hlt⟩)) (hok.alts e hem)
        by_cases hjl:j<(Ai e).length
        · obtain⟨F,hF1⟩:∃ F,(Ai e)[j]?=some F:=⟨_,List.getElem?_eq_getElem hjl⟩
          have hO2s:O1++((Ai e).zipIdx.take (j+1)).flatMap (furY (lxOf g ws) ws k a e)=O2++furY (lxOf g ws) ws k a e (F,j):=by
            have hz:(Ai e).zipIdx[j]?=some (F,j):=by rw [List.getElem?_zipIdx,hF1];simp
            obtain⟨h1,h2⟩:=List.getElem?_eq_some_iff.1 hz
            rw [List.take_succ_eq_append_getElem h1,h2,List.flatMap_append,hO2];simp
          (repeat' ((fail_if_success (refine Ac (x:=(Code.region 12 _ _)) ?_));first|(refine A9 Z Z (A3 Z Z en165) (cfo _ (Ext.refl _)) (fun vC wF hC=>?_);obtain⟨xF,sF⟩:=hC;obtain⟨fa,fc,rfl,_,_,_⟩:=sF.sl)|refine Ly ?_|refine Dy (fun hh=>?_) fun hh=>?_))
          all_goals (try (exfalso;omega))
          have rAF:=rA2.ext xF;have rEF:=rE2.ext xF;have rGF:=rG2.ext xF
          have haF:=ha2.ext xF
          obtain⟨sa,s1,s2⟩:=haF.css
          have fs:sa.flatten.length=a.length*3:=AtsG.flat s1
          refine Ac ?_
          refine E.sub (M:=[(1,.slice wa ws.length wc),(3,int (lxOf g ws).most),(4,v2),(5,.pointer (some ⟨bG,0,none⟩)),(7,.pointer (some ⟨bA,0,none⟩)),(11,.slice na NL.length nc),(12,int i),(13,.pointer (some ⟨bE,0,none⟩)),(14,int j)]) ⟨rfl,rfl,rfl,rfl,rfl,rfl,rfl,rfl,rfl,trivial⟩ ?_
          refine E_res (id:=12) [.r (some 52) 52 (ROwn wF.heap.size 129 3 0 []) [],.v 53 (.pointer (some ⟨bA,0+0,none⟩)),.v 54 (.slice aa a.length ac),.r (some 55) 55 (ROwn wF.heap.size 129 3 (0+a.length) ([]++sa.flatten)) [0],.v 56 (.pointer (some ⟨bE,0+0,none⟩)),.v 57 (int e.id),.v 58 (int j),
            .v 59 (.agg #[int e.id,int j,int 0]),.r (some 60) 60 (ROwn wF.heap.size 129 3 1 [int e.id,int j,int 0]) [],.r (some 61) 61 (ROwn wF.heap.size 129 3 (0+a.length+1) ([]++sa.flatten++[int e.id,int j,int 0])) [3,8],.r (some 62) 62 (RAn wF.heap.size (0+a.length+1) ([]++sa.flatten++[int e.id,int j,int 0])) [9],
            .r (some 15) 15 (RPtr 159 [.slice none 0 0]) [],.r none 15 (RBox 159 (RAn wF.heap.size (0+a.length+1) ([]++sa.flatten++[int e.id,int j,int 0]))) [11,10] ] [12] Aa (by kernel_rfl) (by kernel_rfl) (by kernel_rfl)
            ⟨st_lit (vs:=[]) (cs:=[]) Z Z Z Z Z Z Z (by omega),vcV fun _ _=>zH Z Z,vcV fun wq xq=>(by first|exact A6 Z Z Z ((Row.ext (by assumption) xq).cellAt (by rfl))|exact Ab Z Z Z (Row.ext (by assumption) xq).at (by rfl)|exact A6 Z Z Z ((At.ext (by assumption) xq).cellAt (by rfl))|exact Ab Z Z Z (At.ext (by assumption) xq) (by rfl)|exact A6 Z Z Z (Ext.cell xq (by assumption))),
              st_app (c:=ac) (a:=aa) (q:=a.length) rfl rfl (fun _=>rfl) (fun w' x' h0=>by obtain⟨b,so,e1,_,hat⟩:=s2 (by omega);exact⟨b,so,e1,hat.ext x'⟩) fs (AtsG.ones s1) rfl rfl (by omega) (by omega),
              vcV fun _ _=>zH Z Z,vcV fun wq xq=>(by first|exact A6 Z Z Z ((Row.ext (by assumption) xq).cellAt (by rfl))|exact Ab Z Z Z (Row.ext (by assumption) xq).at (by rfl)|exact A6 Z Z Z ((At.ext (by assumption) xq).cellAt (by rfl))|exact Ab Z Z Z (At.ext (by assumption) xq) (by rfl)|exact A6 Z Z Z (Ext.cell xq (by assumption))),vcV fun _ _=>zA Z Z,vcV fun _ _=>Af (vs:=[(0,int e.id),(1,int j)]) [int e.id,int j,int 0] rfl rfl rfl,
              st_lit (vs:=[.agg #[int e.id,int j,int 0] ]) (cs:=[int e.id,int j,int 0]) rfl rfl rfl rfl rfl rfl rfl (by omega),st_app2 rfl rfl rfl (by decide) rfl rfl rfl (by omega) (by omega),
              st_val mv_an (fun w' δ' Gs' x' hr'=>?_),st_alloc rfl rfl,st_store rfl rfl (by decide) (by decide) rfl rfl mv_an rfl (fun G u w' h'=>?_),trivial⟩ (fun w4 δ4 Gs4 x4 hr4 hd4=>?_)
          · have h9:=hr' 9 (List.mem_singleton.2 rfl)
            change ROwn wF.heap.size 129 3 (0+a.length+1) ([]++sa.flatten++[int e.id,int j,int 0]) (Gs' 9) (δ' 61) w' at h9
            obtain⟨qa,qc,e61⟩:∃ qa qc,δ' 61=.slice qa (0+a.length+1) qc:=by
              rcases Dl h9.1 with⟨_,e2,_⟩|⟨b,cap,e1,_⟩
              · omega
              · exact⟨_,_,e1⟩
            refine⟨.agg #[.slice qa (0+a.length+1) qc],Af (vs:=[(0,.slice qa (0+a.length+1) qc)]) [.slice qa (0+a.length+1) qc] rfl (by show [(0,some (δ' 61))]=_;rw [e61];rfl) Z,⟨.slice qa (0+a.length+1) qc,rfl,by rw [← e61];exact h9.1,fun b hb=>⟨9,List.mem_singleton.2 rfl,h9.2 b (by rw [e61];exact hb)⟩⟩⟩
          · obtain⟨v,rfl,hv,_⟩:=h'
            rcases Dl hv with⟨_,e2,_⟩|⟨b,cap,e1,_⟩
            · omega
            · subst e1;exact⟨[_],rfl,rfl,rfl⟩
          have h12:=(hr4 12 (List.mem_singleton.2 rfl)).1
          have h12b:=(hr4 12 (List.mem_singleton.2 rfl)).2
          change RBox 159 (RAn wF.heap.size (0+a.length+1) ([]++sa.flatten++[int e.id,int j,int 0])) (Gs4 12) (δ4 15) w4 at h12
          obtain⟨bN,X,G1,hptr,hgN,rN,⟨v,eX,hv,hvG⟩,hsub⟩:=h12
          obtain rfl:X=[v]:=by
            have h1:=Value.agg.inj eX
            simpa using congrArg Array.toList h1
          have hbN:=(h12b bN hgN).1
          obtain⟨b,hb⟩:∃ b:List Prt,b=a++[⟨e.id,(j:Int),0⟩]:=⟨_,rfl⟩
          have hblen:b.length=a.length+1:=by rw [hb];simp
          have hv2:w4.ownsRow wF.heap.size 129 3 v (0+a.length+1) ((sa++[[int e.id,int j,int 0] ]).flatten):=by
            rw [List.flatten_append]
            simpa only [List.nil_append,List.flatten_cons,List.flatten_nil,List.append_nil] using hv
          have hvb:SlG (fun c=>wF.heap.size≤c) w4 v b:=by
            rw [hb]
            exact C5 (e:=129) (n:=0+a.length+1) (css:=sa++[[int e.id,int j,int 0] ]) hv2 (AllAt.append (AllAt.mono (fun _ _ h=>h) s1) (AllAt.one rfl)) (fun _ h=>h) (by rw [← hb,hblen];omega) (by rw [← hb,hblen];omega)
          have h2F:w2.heap.size≤wF.heap.size:=xF.size
          have hno2:∀ c,v2.ownBlock=some c→c<w2.heap.size:=fun c hc=>(hown2.lt c hc).2
          have hvb2:SlG (Nb v2) w4 v b:=hvb.wk (fun c hc e'=>by have:=hno2 c e'.symm;omega)
          obtain⟨va,vcap,rfl,_,_,_⟩:=hvb.sl
          refine K.sub (M:=[(1,.slice wa ws.length wc),(3,int (lxOf g ws).most),(4,v2),(5,.pointer (some ⟨bG,0,none⟩)),(7,.pointer (some ⟨bA,0,none⟩)),(11,.slice na NL.length nc),(12,int i),(13,.pointer (some ⟨bE,0,none⟩)),(14,int j),(15,.pointer (some ⟨bN,0,none⟩))]) ⟨rfl,rfl,rfl,rfl,rfl,rfl,rfl,rfl,rfl,congrArg some hptr,trivial⟩ ?_
          have hw4:Ext w2 w4:=xF.trans x4
          have rG4:=rGF.ext x4
          have hg4:=hg2.ext hw4
          have hww4:=hw2.ext hw4
          have hown4:=Ak hown2 hw4
          have hats4:=AtsG.ext hats2 hw4
          have x04:=x02.trans hw4
          have hY:furY (lxOf g ws) ws k a e (F,j)=if (Ar g.lex b).length>(lxOf g ws).most then [] else (if (Ar g.lex b).length≥ws.length∧licB (lxOf g ws) ws b=true then [b] else [])++furL (lxOf g ws) ws k b:=by rw [hb];rfl
          have cB:=Je g n pv uv tv rv sv fv _ b _ w4 hg4.lex.any hvb.any (by omega) hok.alts hok.forms
          (repeat' ((fail_if_success (refine Ac (x:=(Code.region 14 _ _)) ?_));first|(refine A9 Z Z (A3 Z Z en166) cB (fun vC wB hC=>?_);obtain⟨xB,sB⟩:=hC;obtain⟨ba,bc,rfl,_,_,_⟩:=sB.sl)|refine Ly ?_))
          all_goals (try (exfalso;omega))
          have rG5:=rG4.ext xB;have rN5:=rN.ext xB
          have hg5:=hg4.ext xB;have hww5:=hww4.ext xB;have hvb5:=hvb2.ext xB
          have hown5:=Ak hown4 xB
          have hats5:=AtsG.ext hats4 xB
          have x05:=x04.trans xB
          have hkp5:Kp vO v2 wC wB:=hkp2.trans (Kp.of_ext (hw4.trans xB))
          refine E.sub (M:=[(1,.slice wa ws.length wc),(3,int (lxOf g ws).most),(4,v2),(5,.pointer (some ⟨bG,0,none⟩)),(7,.pointer (some ⟨bA,0,none⟩)),(11,.slice na NL.length nc),(12,int i),(13,.pointer (some ⟨bE,0,none⟩)),(14,int j),(15,.pointer (some ⟨bN,0,none⟩)),(16,int (Ar g.lex b).length)]) ⟨rfl,rfl,rfl,rfl,rfl,rfl,rfl,rfl,rfl,rfl,rfl,trivial⟩ ?_
          by_cases hmo:(Ar g.lex b).length>(lxOf g ws).most
          · rw [if_pos hmo] at hY
            (repeat' (first|refine Ly ?_|refine Dy (fun hh=>?_) fun hh=>?_))
            all_goals (try (exfalso;omega))
            refine Ad (j+1,v2) ⟨rfl,rfl,rfl,rfl,rfl,rfl,rfl,rfl,rfl,trivial⟩ ⟨by dsimp only;omega,x05,hkp5,cs2,?_,?_⟩ (by dsimp only;omega)
            · dsimp only;rw [hO2s,hY,List.append_nil];exact hown5
            · dsimp only;rw [hO2s,hY,List.append_nil];exact hats5
          · rw [if_neg hmo] at hY
            have hbd2:O2.length+1+nFur k≤100000:=by
              have h1:i*(2*(1+nFur k))≤4*(2*(1+nFur k)):=Nat.mul_le_mul_right _ (by omega)
              have h2:j*(1+nFur k)≤1*(1+nFur k):=Nat.mul_le_mul_right _ (by omega)
              omega
            by_cases hnw:ws.length≤(Ar g.lex b).length
            · have cL:=Nh g hok n hn pv uv tv rv sv fv _ b _ ws ws _ wB hg5.any hvb5.any hww5.any (by omega)
              cases hT:licB (lxOf g ws) ws b with
              | true=>
                rw [hT] at cL
                rw [if_pos ⟨hnw,hT⟩] at hY
                (repeat' (first|(refine A9 Z Z (A3 Z Z en167) cL (fun vC wL hC=>?_);obtain⟨rfl,xL⟩:=hC;replace rG5:=rG5.ext xL;replace rN5:=rN5.ext xL)|(refine eL Z Z Z Z Z Z Z Z (fun bS wS xS hbS rS=>?_))|(refine Ay (news:=[.slice va b.length vcap]) (Ak hown5 (xL.trans xS)) (x05.trans (xL.trans xS)) (fun _=>⟨_,_,rfl,rS.at⟩) Z Z Z Z Z Z Z Z Z (by omega) (by omega) (fun vJ wJ oJ xJ kJ hJ=>?_))|refine Ly ?_|refine Dy (fun hh=>?_) fun hh=>?_))
                all_goals (try (exfalso;omega))
                have hkpJ:Kp v2 vJ wS wJ:=⟨kJ,hJ.imp id (fun h=>⟨_,h,Nat.le_refl _⟩)⟩
                have hLS:Ext wB wS:=xL.trans xS
                have nG5:Nb v2 bG:=nG2
                have nN5:Nb v2 bN:=fun e'=>by have:=hno2 bN e'.symm;omega
                obtain⟨rGJ,_⟩:=hkpJ.row (rG5.ext xS) nG5
                obtain⟨rNJ,_⟩:=hkpJ.row (rN5.ext xS) nN5
                have hgJ:=(hg5.ext hLS).move hkpJ.mv
                have hwJ:=(hww5.ext hLS).move hkpJ.mv
                have hvJ:=(hvb5.ext hLS).move hkpJ.mv
                have hatsJ:AtsG (Nb vJ) wJ (O2++[b]) (cs2++[[Value.slice va b.length vcap] ]):=AllAt.append (AtsG.move (AtsG.ext hats5 hLS) hkpJ.mv) (AllAt.one ⟨_,rfl,hvJ⟩)
                have hownJ:wJ.ownsRow w0.heap.size 159 1 vJ (O2++[b]).length (cs2++[[Value.slice va b.length vcap] ]).flatten:=by
                  rw [List.flatten_append,List.length_append]
                  simpa using oJ
                have hkpJ2:Kp vO vJ wC wJ:=hkp5.trans ((Kp.of_ext hLS).trans hkpJ)
                have cR:=ih b _ (O2++[b]) _ vJ wJ (by omega) xJ hownJ hatsJ hvJ hwJ hgJ (by rw [List.length_append];simp;omega)
                (repeat' (first|(refine A9 Z Z (A3 Z Z en126) cR (fun vC wR hC=>?_);obtain⟨x0R,kpR,csR,ownR,atsR⟩:=hC)|refine Ly ?_))
                all_goals (try (exfalso;omega))
                refine Ad (j+1,vC) ⟨rfl,rfl,rfl,rfl,rfl,rfl,rfl,rfl,rfl,trivial⟩ ⟨by dsimp only;omega,x0R,hkpJ2.trans kpR,csR,?_,?_⟩ (by dsimp only;omega)
                · dsimp only;rw [hO2s,hY,← List.append_assoc];exact ownR
                · dsimp only;rw [hO2s,hY,← List.append_assoc];exact atsR
              | false=>
                rw [hT] at cL
                rw [if_neg (fun h=>by rw [hT] at h;cases h.2),List.nil_append] at hY
                have cR:=fun(wL:World) (xL:Ext wB wL)=>ih b _ O2 _ v2 wL (by omega) (x05.trans xL) (Ak hown5 xL) (AtsG.ext hats5 xL) (hvb5.ext xL) (hww5.ext xL) (hg5.ext xL) (by omega)
                (repeat' (first|(refine A9 Z Z (A3 Z Z en167) cL (fun vC wL hC=>?_);obtain⟨rfl,xL⟩:=hC;replace rG5:=rG5.ext xL;replace rN5:=rN5.ext xL;replace cR:=cR wL xL;replace hkp5:=hkp5.trans (Kp.of_ext xL))|(refine A9 Z Z (A3 Z Z en126) cR (fun vC wR hC=>?_);obtain⟨x0R,kpR,csR,ownR,atsR⟩:=hC)|refine Ly ?_|refine Dy (fun hh=>?_) fun hh=>?_))
                all_goals (try (exfalso;omega))
                refine Ad (j+1,vC) ⟨rfl,rfl,rfl,rfl,rfl,rfl,rfl,rfl,rfl,trivial⟩ ⟨by dsimp only;omega,x0R,hkp5.trans kpR,csR,?_,?_⟩ (by dsimp only;omega)
                · dsimp only;rw [hO2s,hY,← List.append_nil (O2++_),List.append_nil];exact ownR
                · dsimp only;rw [hO2s,hY,← List.append_nil (O2++_),List.append_nil];exact atsR
            · rw [if_neg (fun h=>hnw h.1),List.nil_append] at hY
              have cR:=ih b _ O2 _ v2 wB (by omega) x05 hown5 hats5 hvb5 hww5 hg5 (by omega)
              (repeat' (first|(refine A9 Z Z (A3 Z Z en126) cR (fun vC wR hC=>?_);obtain⟨x0R,kpR,csR,ownR,atsR⟩:=hC)|refine Ly ?_|refine Dy (fun hh=>?_) fun hh=>?_))
              all_goals (try (exfalso;omega))
              refine Ad (j+1,vC) ⟨rfl,rfl,rfl,rfl,rfl,rfl,rfl,rfl,rfl,trivial⟩ ⟨by dsimp only;omega,x0R,hkp5.trans kpR,csR,?_,?_⟩ (by dsimp only;omega)
              · dsimp only;rw [hO2s,hY,← List.append_nil (O2++_),List.append_nil];exact ownR
              · dsimp only;rw [hO2s,hY,← List.append_nil (O2++_),List.append_nil];exact atsR
        · obtain rfl:j=(Ai e).length:=by omega
          rw [List.take_of_length_le (by omega)] at hO2
          (repeat' (first|(refine A9 Z Z (A3 Z Z en165) (cfo _ (Ext.refl _)) (fun vC wF hC=>?_);obtain⟨xF,sF⟩:=hC;obtain⟨fa,fc,rfl,_,_,_⟩:=sF.sl)|refine Ly ?_|refine Dy (fun hh=>?_) fun hh=>?_))
          all_goals (try (exfalso;omega))
          refine Ad (i+1,v2) ⟨rfl,rfl,rfl,rfl,rfl,rfl,rfl,trivial⟩ ⟨by dsimp only;omega,x02.trans xF,hkp.trans ((Kp.of_ext hwE).trans (hkp2.trans (Kp.of_ext xF))),cs2,?_,?_⟩ (by dsimp only;omega)
          · dsimp only;rw [hO1s,hX0,← hO2];exact Ak hown2 xF
          · dsimp only;rw [hO1s,hX0,← hO2];exact AtsG.ext hats2 xF
    · obtain rfl:i=g.lex.length:=by omega
      rw [List.take_length] at hO1
      (repeat' (first|refine Ly ?_|refine Dy (fun hh=>?_) fun hh=>?_))
      all_goals (try (exfalso;omega))
      refine A5 Z Z ⟨x0r,(Kp.of_ext hX).trans hkp,cs1,?_,?_⟩
      · rw [Pm,hlexL,← hO1];exact hownr
      · rw [Pm,hlexL,← hO1];exact hatsr
end
section
open Go.RowKit Go.En Go.Pv
attribute [local irreducible] E EL K Val Enters Rt Calls bodyPost Code.wp RQ
theorem Pw (g:Lg) (n:Nat) (pv uv tv rv sv fv ev:Value) (w:World) (hr:Sl w rv g.rules):Calls Tryz.prog 125 #[.agg #[pv,str g.oname,uv,tv,rv,int n,sv,fv,ev] ] w (Rt fun u w'=>u=.bool (shrB g.rules)∧Ext w w'):=by
  have hr0:=hr
  obtain⟨ra,rc,rfl,_,hrm,hrp⟩:=hr.sl
  refine A7 (n:=18) (args:=[.agg #[pv,str g.oname,uv,tv,.slice ra g.rules.length rc,int n,sv,fv,ev] ]) Tryz.func125 rfl Tryz.ntmps125 (by simp) ?_
  refine Ac ?_
  refine A8 ?_
  refine Aj Z Z Z Z (fun bG wG xG hbG rG0=>?_)
  have rG:Row wG bG 37 [pv,str g.oname,uv,tv,.slice ra g.rules.length rc,int n,sv,fv,ev]:=rG0
  clear rG0
  (repeat' (first|refine Sy ?_))
  refine Ae (ι:=Nat) (fun i=>[(1,.pointer (some ⟨bG,0,none⟩)),(3,int i)])
    (fun i wr=>i≤g.rules.length∧Ext wG wr∧∀(j:Nat) (r:Rul),j<i→g.rules[j]?=some r→r.to.contains 0=false) (fun i=>g.rules.length-i) 0
    ⟨rfl,rfl,trivial⟩ ⟨Nat.zero_le _,Ext.refl _,fun j r hj=>absurd hj (by omega)⟩ ?_
  rintro i wr ⟨hi,hx,hall⟩
  replace rG:=rG.ext hx
  have hX:=xG.trans hx
  by_cases hlt:i<g.rules.length
  · obtain⟨b,off,rfl⟩:=hrp (by omega)
    obtain⟨r,hr1⟩:∃ r,g.rules[i]?=some r:=⟨_,List.getElem?_eq_getElem hlt⟩
    obtain⟨a0,c0,a1,c1,a2,c2,a3,c3,hat,_,_,hto,_⟩:=Ga (hr0.ext hX) hr1
    have ch:=Jn r.to 0 _ wr hto
    cases hb:r.to.contains 0 with
    | true=>
      rw [show decide ((0:Int)∈r.to)=true by simpa using hb] at ch
      have:shrB g.rules=true:=by unfold shrB;rw [List.any_eq_true];exact⟨r,List.mem_of_getElem? hr1,hb⟩
      rw [this]
      (repeat' (first|refine eV Z Z (A0 (m:=i) Z Z Z Z (by omega)) ?_|(refine cqC ch en33 fun wC xC=>?_)|refine Ly ?_|refine Dy (fun hh=>?_) fun hh=>?_))
      all_goals (try (exfalso;omega))
      exact A5 Z Z ⟨rfl,hX.trans xC⟩
    | false=>
      rw [show decide ((0:Int)∈r.to)=false by simpa using hb] at ch
      (repeat' (first|refine eV Z Z (A0 (m:=i) Z Z Z Z (by omega)) ?_|(refine cqC ch en33 fun wC xC=>?_)|refine Ly ?_|refine Dy (fun hh=>?_) fun hh=>?_))
      all_goals (try (exfalso;omega))
      refine Ad (i+1) ⟨rfl,rfl,trivial⟩ ⟨by omega,hx.trans xC,fun j q hj hq=>?_⟩ (by omega)
      by_cases e:j=i
      · subst e;rw [hr1] at hq;cases hq;exact hb
      · exact hall j q (by omega) hq
  · have:shrB g.rules=false:=by
      unfold shrB;rw [List.any_eq_false]
      intro r hr
      obtain⟨j,hj⟩:=List.getElem?_of_mem hr
      have:=hall j r (by have:=(List.getElem?_eq_some_iff.1 hj).1;omega) hj
      rw [this];simp
    rw [this]
    (repeat' (first|refine Ly ?_|refine Dy (fun hh=>?_) fun hh=>?_))
    all_goals (try (exfalso;omega))
    exact A5 Z Z ⟨rfl,hX⟩
theorem nb_nil:∀ b,Nb (.slice none 0 0) b:=fun b e=>by cases e
theorem plain92_any (g:Lg) (hok:LangOK g) (n:Nat) (hn:g.net.states=(n:Int)) (pv uv tv rv sv fv ev:Value) (ws:List Int) (wv:Value) (w:World) (hg:LangG Tt w g pv uv tv rv sv fv ev) (hw:Sl w wv ws) (h0:ws.length≠0) (h24:ws.length≤24) :
    Calls Tryz.prog 92 #[.agg #[pv,str g.oname,uv,tv,rv,int n,sv,fv,ev],wv] w (Rt fun u w'=>Ext w w'∧Sl w' u (furL (lxOf g ws) ws 4 [])):=by
  have hw0:=hw
  obtain⟨wa,wc,rfl,_,_,_⟩:=hw.sl
  refine A7 (n:=23) (args:=[.agg #[pv,str g.oname,uv,tv,rv,int n,sv,fv,ev],.slice wa ws.length wc]) Tryz.func92 rfl Tryz.ntmps92 (by simp) ?_
  refine Ac ?_
  refine A8 ?_
  refine Aj Z Z Z Z (fun bG wG xG hbG rG0=>?_)
  have rG:Row wG bG 37 [pv,str g.oname,uv,tv,rv,int n,sv,fv,ev]:=rG0
  clear rG0
  have cd:=Pw g n pv uv tv rv sv fv ev wG (hg.rules.ext xG)
  have cf:=fun(wD:World) (xD:Ext wG wD)=>Pl g hok n hn ws h24 pv uv tv rv sv fv ev (.slice wa ws.length wc) wD 4 [] (.slice none 0 0) [] [] (.slice none 0 0) wD rfl (Ext.refl _) (World.ownsRow_nil _ _ _ _) trivial SlG.nil
    ((hw0.ext (xG.trans xD)).wk fun b _=>nb_nil b) ((hg.ext (xG.trans xD)).move fun b _ _=>⟨nb_nil b,rfl⟩) (by decide)
  have hfl:=Nx hok ws 4 []
  have hpost:∀(wD wR:World) (vC:Value),RES g ws wD wD (.slice none 0 0) [] 4 [] vC wR→Ext wD wR∧Sl wR vC (furL (lxOf g ws) ws 4 []):=fun wD wR vC h=>by
    obtain⟨h1,h2,cs,h3,h4⟩:=h
    rw [List.nil_append] at h3 h4
    exact⟨h1,Ce (e:=159) (css:=cs) h3 (AtsG.any h4) rfl (Nat.le_trans hfl (by decide))⟩
  cases hb:shrB g.rules with
  | true=>
    have hm:(lxOf g ws).most=24:=by unfold lxOf;dsimp only;rw [hb];rfl
    rw [hm] at cf
    rw [hb] at cd
    (repeat' (first|(refine A9 Z Z (A3 Z Z en125) cd (fun vC wD hC=>?_);obtain⟨rfl,xD⟩:=hC;replace rG:=rG.ext xD;replace cf:=cf wD xD)|refine eV Z Z (Af (vs:=[]) [.slice none 0 0] rfl rfl rfl) ?_|(refine A9 Z Z (A3 Z Z en126) cf (fun vC wR hC=>?_))|refine Ly ?_|refine Dy (fun hh=>?_) fun hh=>?_))
    all_goals (try (exfalso;omega))
    obtain⟨h1,h2⟩:=hpost _ _ _ hC
    exact A5 Z Z ⟨xG.trans (xD.trans h1),h2⟩
  | false=>
    have hm:(lxOf g ws).most=ws.length:=by unfold lxOf;dsimp only;rw [hb];rfl
    rw [hm] at cf
    rw [hb] at cd
    (repeat' (first|(refine A9 Z Z (A3 Z Z en125) cd (fun vC wD hC=>?_);obtain⟨rfl,xD⟩:=hC;replace rG:=rG.ext xD;replace cf:=cf wD xD)|refine eV Z Z (Af (vs:=[]) [.slice none 0 0] rfl rfl rfl) ?_|(refine A9 Z Z (A3 Z Z en126) cf (fun vC wR hC=>?_))|refine Ly ?_|refine Dy (fun hh=>?_) fun hh=>?_))
    all_goals (try (exfalso;omega))
    obtain⟨h1,h2⟩:=hpost _ _ _ hC
    exact A5 Z Z ⟨xG.trans (xD.trans h1),h2⟩
theorem plain92_none (g:Lg) (n:Nat) (pv uv tv rv sv fv ev:Value) (ws:List Int) (wv:Value) (w:World) (hw:Sl w wv ws) (h0:ws.length=0∨24<ws.length) :
    Calls Tryz.prog 92 #[.agg #[pv,str g.oname,uv,tv,rv,int n,sv,fv,ev],wv] w (Rt fun u w'=>u=.slice none 0 0∧Ext w w'):=by
  obtain⟨wa,wc,rfl,_,_,_⟩:=hw.sl
  refine A7 (n:=23) (args:=[.agg #[pv,str g.oname,uv,tv,rv,int n,sv,fv,ev],.slice wa ws.length wc]) Tryz.func92 rfl Tryz.ntmps92 (by simp) ?_
  refine Ac ?_
  refine A8 ?_
  refine Aj Z Z Z Z (fun bG wG xG hbG rG0=>?_)
  have rG:Row wG bG 37 [pv,str g.oname,uv,tv,rv,int n,sv,fv,ev]:=rG0
  (repeat' ((fail_if_success (refine Ac (x:=(Code.region 4 _ _)) ?_));first|refine Sy ?_|refine Dy (fun hh=>?_) fun hh=>?_))
  all_goals (try (exfalso;omega))
  all_goals exact A5 Z Z ⟨rfl,xG⟩
end
end Go.Proofs.YtjicdgejhkgpgaaGreatDoor