/-
  Own text of the proof.
-/
import Derived.Test.YtjicdgejhkgpgaaGreatDoorUd
set_option linter.all false
set_option maxHeartbeats 8000000
set_option maxRecDepth 8000
namespace Go.Proofs.YtjicdgejhkgpgaaGreatDoor
open Go.RowKit Go.En Go.Pv
theorem A9z:∀(css:List (List Value)) (tl:List Value) (i:Nat) (c:List Value),(∀ x∈css,x.length=7)→c.length=7→i<css.length→(css.flatten++tl).take (i*7)++c++(css.flatten++tl).drop (i*7+7)=(css.set i c).flatten++tl
  | [],_,_,_,_,_,h=>absurd h (by simp)
  | x :: r, tl, 0, c, hx, hc, _ => by
    have h7:=hx x List.mem_cons_self
    match x,h7 with
    | [_,_,_,_,_,_,_],_=>
      rw [List.flatten_cons,List.set_cons_zero,List.flatten_cons,Nat.zero_mul,List.take_zero,List.nil_append,List.append_assoc,List.append_assoc];rfl
  | x :: r, tl, i + 1, c, hx, hc, h => by
    have ih:=A9z r tl i c (fun y hy=>hx y (List.mem_cons_of_mem _ hy)) hc (by simpa using h)
    have h7:=hx x List.mem_cons_self
    match x,h7 with
    | [_,_,_,_,_,_,_],_=>
      rw [List.flatten_cons,List.set_cons_succ,List.flatten_cons,List.append_assoc,List.append_assoc,List.append_assoc,← ih,show(i+1)*7=i*7+7 by omega,List.append_assoc];rfl
def chI (rec:Int) (d':Dc) (ds:List Dc) (i:Nat):List Dc:=chD rec d' (ds.take i)++ds.drop i
theorem A3e {rec:Int} {d':Dc} {ds:List Dc} {i:Nat} (hi:i≤ds.length):(chI rec d' ds i).length=ds.length:=by
  unfold chI chD
  rw [List.length_append,List.length_map,List.length_take,List.length_drop];omega
theorem chI_get {rec:Int} {d':Dc} {ds:List Dc} {i:Nat} {x:Dc} (h:ds[i]?=some x):(chI rec d' ds i)[i]?=some x:=by
  have hi:=(List.getElem?_eq_some_iff.1 h).1
  have hl:(chD rec d' (ds.take i)).length=i:=by unfold chD;rw [List.length_map,List.length_take];omega
  unfold chI
  rw [List.getElem?_append_right (by omega),hl,Nat.sub_self,List.getElem?_drop,Nat.add_zero,h]
theorem chI_yes {rec:Int} {d':Dc} {ds:List Dc} {i:Nat} {x:Dc} (h:ds[i]?=some x) (hx:x.rid=rec):(chI rec d' ds i).set i d'=chI rec d' ds (i+1):=by
  obtain⟨hi,rfl⟩:=List.getElem?_eq_some_iff.1 h
  have hl:(chD rec d' (ds.take i)).length=i:=by unfold chD;rw [List.length_map,List.length_take];omega
  unfold chI
  rw [List.set_append_right _ _ (by omega),hl,Nat.sub_self,List.drop_eq_getElem_cons hi,List.set_cons_zero,List.take_succ_eq_append_getElem hi]
  unfold chD
  rw [List.map_append,List.map_cons,List.map_nil,if_pos hx];simp
theorem chI_no {rec:Int} {d':Dc} {ds:List Dc} {i:Nat} {x:Dc} (h:ds[i]?=some x) (hx:x.rid≠rec):chI rec d' ds i=chI rec d' ds (i+1):=by
  obtain⟨hi,rfl⟩:=List.getElem?_eq_some_iff.1 h
  unfold chI
  rw [List.drop_eq_getElem_cons hi,List.take_succ_eq_append_getElem hi]
  unfold chD
  rw [List.map_append,List.map_cons,List.map_nil,if_neg hx];simp
attribute [local irreducible] E EL K Val Enters Rt Calls bodyPost Code.wp RQ
theorem C1z (ds:List Dc) (hn:∀ d∈ds,Names d) (g:Lg) (hb:LgBd g) (hll:g.letters.length≤1048576) (r:Rf) (dv pv uv tv rv sv fv ev:Value) (w:World) (hT:Tabs w) (hv:Sl w dv ds) (hg:LangG Tt w g pv uv tv rv sv fv ev) :
    Calls Tryz.prog 11 #[dv,.agg #[pv,str g.oname,uv,tv,rv,int g.net.states,sv,fv,ev],.agg #[int r.rcd,int r.note] ] w (Rt fun u w'=>u=.bool true∧Ext w w'):=by
  have hl0:=hg.lex
  obtain⟨la,lc,rfl,_,hlm,hlp⟩:=hl0.sl
  refine A6 (n:=153) (args:=[dv,.agg #[pv,str g.oname,uv,tv,rv,int g.net.states,sv,fv,.slice la g.lex.length lc],.agg #[int r.rcd,int r.note] ]) Tryz.func11 rfl Tryz.ntmps11 (by simp) ?_
  refine B4 ?_
  refine A9 ?_
  refine C2 Z Z Z Z (fun bG wG xG hbG rG=>?_)
  refine C2 Z Z Z Z (fun bR wR xR hbR rR=>?_)
  replace rG:=rG.ext xR
  have hX:=xG.trans xR
  (repeat' ((fail_if_success (refine B4 (x:=(Code.region 3 _ _)) ?_));first|(refine A8 Z Z (A5 Z Z en12) (B4l ds hn g hb dv pv uv tv rv sv fv _ _ (hv.ext hX) (hg.ext hX)) (fun vC wC hC=>?_);obtain⟨⟨bl,rfl,hl⟩,xC⟩:=hC;replace hX:=hX.trans xC;replace rG:=rG.ext xC;replace rR:=rR.ext xC;cases bl)|(refine cqC (Q0 _ (hT.ext hX)) en13 fun wA xA=>?_;replace hX:=hX.trans xA)|refine Ly ?_))
  all_goals (try (exfalso;omega))
  · exact A4 Z Z ⟨rfl,hX⟩
  obtain⟨hL,hok⟩:=hl rfl
  have hcp:=lgcp_of hok hb hll
  have hnl:=hok.nlex
  refine B4 ?_
  refine E.sub (M:=[(0,dv),(4,.pointer (some ⟨bG,0,none⟩)),(5,.pointer (some ⟨bR,0,none⟩))]) ⟨rfl,rfl,rfl,trivial⟩ ?_
  obtain⟨b1,hb1⟩:∃ b,(docF ds r.rcd).isSome=b:=⟨_,rfl⟩
  refine E_rel (id:=3) 8 9 1 7 29 (RD ds r.rcd) mvRD (dx0 dv) (fun y=>y.2.X)
    [.t 24 dv,.c 25 (fun y=>y.1),.t 26 (.pointer (some ⟨bR,0+0,none⟩)),.t 27 (int r.rcd),.d 28 (fun y=>.tuple #[.agg y.2.X.toArray,.bool b1]),.d 23 (fun y=>.tuple #[.agg y.2.X.toArray,.bool b1]),.d 29 (fun y=>.agg y.2.X.toArray),.d 30 (fun _=>.bool b1),.n,.n,.d 8 (fun _=>.bool b1)]
    B5 (by kernel_rfl) rfl rfl rfl rfl rfl rfl rfl rfl (by kernel_rfl) (by decide) rfl (fun _=>rfl) (fun y=>y.2.hl) (fun y=>y.2.h1) rfl
    (fun y=>⟨vcV fun _ _=>zA Z Z,⟨15,#[dv],fun _ _=>A5 Z Z en15,fun wq xq=>rd_call hL r.rcd dv wq (hv.ext (hX.trans xq))⟩,vcV fun _ _=>zH Z Z,vcV fun wq xq=>(by first|exact A7 Z Z Z ((Row.ext (by assumption) xq).cellAt (by rfl))|exact B8 Z Z Z (Row.ext (by assumption) xq).at (by rfl)|exact A7 Z Z Z ((At.ext (by assumption) xq).cellAt (by rfl))|exact B8 Z Z Z (At.ext (by assumption) xq) (by rfl)|exact A7 Z Z Z (Ext.cell xq (by assumption))),
      vdC (fun _ _ _ _=>A5 Z Z en34) (fun wq G xq hR=>by have:=hR.2 wq (Sm.refl _ _);rw [hb1] at this;exact this),vdV fun _ _ _ _=>zA Z Z,vdV fun _ _ _ _=>zF Z Z Z,vdV fun _ _ _ _=>zF Z Z Z,vdV fun _ _ _ _=>zB Z Z,trivial⟩) (fun y bD wD GD xD hbD hGD hRD rD=>?_)
  obtain⟨a1,c1,a2,c2,a3,c3,eX,_⟩:=A3c hRD.1
  have hrD:=B9z hRD.1
  rw [eX] at rD hrD
  replace hX:=hX.trans xD
  replace rR:=rR.ext xD
  replace rG:=rG.ext xD
  refine G8 ?_
  refine E.sub (M:=[(0,dv),(4,.pointer (some ⟨bG,0,none⟩)),(5,.pointer (some ⟨bR,0,none⟩)),(7,.pointer (some ⟨bD,0,none⟩)),(8,.bool b1)]) ⟨rfl,rfl,rfl,rfl,rfl,trivial⟩ ?_
  cases hdf:docF ds r.rcd with
  | none=>
    rw [hdf] at hb1
    subst hb1
    (repeat' (first|(refine cqC (Q0 _ (hT.ext hX)) en13 fun wA xA=>?_;replace hX:=hX.trans xA)|refine Sy ?_))
    all_goals (try (exfalso;omega))
    exact A4 Z Z ⟨rfl,hX⟩
  | some d=>
    rw [hdf] at hb1
    subst hb1
    have hdD:docD ds r.rcd=d:=by unfold docD;rw [hdf];rfl
    rw [hdD] at rD hrD
    have hdl:=B0f hL hdf
    have hxD:=Ext.refl wD
    have c43:=fun wz (hz:Ext wD wz)=>B8m hdl _ r.note wz (C5z (T5 hrD hz))
    (repeat' ((fail_if_success (refine B4 (x:=(Code.region 7 _ _)) ?_));first|(refine A8 Z Z (A5 Z Z en43) (c43 _ hxD) (fun vC wC hC=>?_);obtain⟨⟨XX,oa,on,oc,z,rfl,hX7,hX1,hz⟩,xC⟩:=hC;replace hX:=hX.trans xC;replace rR:=rR.ext xC;replace rG:=rG.ext xC;replace rD:=rD.ext xC;have hxY:=Ext.refl wC)|(refine C3 Z Z Z (fun bY wY xY hbY rY=>?_);refine B7 (off:=0) (cs:=XX) rY xY (by omega) Z Z Z Z Z Z (by rw [hX7];rfl) hX1 (by rw [hX7];exact Nat.le_refl 7) (fun wZ rZ xZ kZ=>?_);replace hX:=hX.trans xZ;replace rR:=rR.ext xZ;replace rG:=rG.ext xZ;replace hxY:=hxY.trans xZ)|refine Ly ?_))
    all_goals (try (exfalso;omega))
    by_cases hz0:z=0
    · subst hz0
      obtain⟨out,ns,hsk,hrep,sO⟩:=hz rfl
      obtain⟨a1',c1',a2',c2',a3',c3',eX',_⟩:=A3c hrep
      subst eX'
      replace rZ:Row wZ bY 72 [int d.rid,str d.rname,int d.len,int d.day,.slice a1' d.sp.length c1',.slice a2' d.tiers.length c2',.slice a3' ns.length c3']:=rZ
      have hrepZ:=T5 hrep hxY
      have sOZ:=SlG.ext sO hxY
      obtain⟨_,_,eon,_,_,_⟩:=SlG.sl sO
      cases eon
      (repeat' (first|refine Sy ?_|refine Dy (fun hh=>?_) fun hh=>?_))
      all_goals (try (exfalso;omega))
      refine B0 (ι:=Nat) (fun z=>[(0,dv),(4,.pointer (some ⟨bG,0,none⟩)),(5,.pointer (some ⟨bR,0,none⟩)),(9,.pointer (some ⟨bY,0,none⟩)),(10,.slice oa out.length oc),(12,int z)])
        (fun z wr=>z≤g.lex.length∧Ext wZ wr∧∀ e∈g.lex.take z,∀ x∈e.refs,x.rcd=r.rcd→x.note∉out) (fun z=>g.lex.length-z) 0
        ⟨rfl,rfl,rfl,rfl,rfl,rfl,trivial⟩ ⟨Nat.zero_le _,Ext.refl _,fun e he=>by simp at he⟩ ?_
      rintro i wr ⟨hi,hxr,hno⟩
      by_cases hlt:i<g.lex.length
      · obtain ⟨b, off, rfl⟩ := hlp (by omega)
        obtain⟨ee,hei⟩:∃ e,g.lex[i]?=some e:=⟨_,List.getElem?_eq_getElem hlt⟩
        obtain⟨_,_,_,_,_,_,_,_,d4,f4,hatw,_,_,_,_,_,hrf⟩:=D3 hl0 hei
        have hrf0:=hrf
        obtain⟨_,_,er,_,_,hrp⟩:=hrf.sl
        cases er
        have rGr:=rG.ext hxr
        (repeat' (first|refine Ly ?_|refine Dy (fun hh=>?_) fun hh=>?_))
        all_goals (try (exfalso;omega))
        refine B0 (ι:=Nat) (fun z=>[(0,dv),(4,.pointer (some ⟨bG,0,none⟩)),(5,.pointer (some ⟨bR,0,none⟩)),(9,.pointer (some ⟨bY,0,none⟩)),(10,.slice oa out.length oc),(12,int i),(13,int z)])
          (fun z wk=>z≤ee.refs.length∧Ext wZ wk∧∀ x∈ee.refs.take z,x.rcd=r.rcd→x.note∉out) (fun z=>ee.refs.length-z) 0
          ⟨rfl,rfl,rfl,rfl,rfl,rfl,rfl,trivial⟩ ⟨Nat.zero_le _,hxr,fun e he=>by simp at he⟩ ?_
        clear hxr rGr
        rintro k wk ⟨hk,hxk,hnk⟩
        have rGk:=rG.ext hxk
        have rRk:=rR.ext hxk
        have hXk:=hX.trans hxk
        have hate:=hatw.ext hXk
        by_cases hkl:k<ee.refs.length
        · obtain ⟨rb, ro, rfl⟩ := hrp (by omega)
          obtain⟨x,hxk1⟩:∃ x,ee.refs[k]?=some x:=⟨_,List.getElem?_eq_getElem hkl⟩
          have hatx:=O8 (hrf0.ext hXk) hxk1
          have hts:ee.refs.take (k+1)=ee.refs.take k++[x]:=by rw [List.take_add_one,hxk1];rfl
          have c33:=fun wq (hq:Ext wk wq)=>C1s out x.note _ wq (SlG.ext sOZ (hxk.trans hq))
          obtain⟨bx,hbx⟩:∃ z,decide (x.note∈out)=z:=⟨_,rfl⟩
          rw [hbx] at c33
          have hxq0:=Ext.refl wk
          cases bx
          · have hstep:∀ y∈ee.refs.take (k+1),y.rcd=r.rcd→y.note∉out:=fun y hy hr=>by
              rw [hts] at hy
              rcases List.mem_append.1 hy with hy|hy
              · exact hnk y hy hr
              · rw [List.mem_singleton] at hy
                subst hy
                exact of_decide_eq_false hbx
            (repeat' (first|refine eV Z Z (A0 (m:=i) Z Z Z (by first|rfl|omega) (by omega)) ?_|refine yV Z Z (fun _ _ _=>A0 (m:=i) Z Z Z (by first|rfl|omega) (by omega)) ?_|refine yV Z Z (fun _ _ _=>A0 (m:=k) Z Z Z (by first|rfl|omega) (by omega)) ?_|refine C4 Z Z (fun _ _ _=>A5 Z Z en33) (fun wq xz=>c33 wq (hxq0.trans xz)) ?_|(refine yN Z (fun wq xq=>?_);replace hxq0:=hxq0.trans xq)|refine Ly ?_|refine Dy (fun hh=>?_) fun hh=>?_|refine yqY ?_|refine yqZ ?_|refine yqX (fun hh=>?_) fun hh=>?_|refine E_dq B5 (by kernel_rfl) Z ?_|refine yO Z Z ?_))
            all_goals (try (exfalso;omega))
            all_goals exact B3 (k+1) ⟨rfl,rfl,rfl,rfl,rfl,rfl,rfl,trivial⟩ ⟨by omega,hxk.trans hxq0,hstep⟩ (by omega)
          · (repeat' (first|refine eV Z Z (A0 (m:=i) Z Z Z (by first|rfl|omega) (by omega)) ?_|refine yV Z Z (fun _ _ _=>A0 (m:=i) Z Z Z (by first|rfl|omega) (by omega)) ?_|refine yV Z Z (fun _ _ _=>A0 (m:=k) Z Z Z (by first|rfl|omega) (by omega)) ?_|refine C4 Z Z (fun _ _ _=>A5 Z Z en33) (fun wq xz=>c33 wq (hxq0.trans xz)) ?_|(refine yN Z (fun wq xq=>?_);replace hxq0:=hxq0.trans xq)|(refine cqC (Q0 _ (hT.ext (hXk.trans hxq0))) en13 fun wA xA=>?_)|refine Ly ?_|refine Dy (fun hh=>?_) fun hh=>?_|refine yqY ?_|refine yqZ ?_|refine yqX (fun hh=>?_) fun hh=>?_|refine E_dq B5 (by kernel_rfl) Z ?_|refine yO Z Z ?_))
            all_goals (try (exfalso;omega))
            · exact A4 Z Z ⟨rfl,(hXk.trans hxq0).trans xA⟩
            · have hstep:∀ y∈ee.refs.take (k+1),y.rcd=r.rcd→y.note∉out:=fun y hy hr=>by
                rw [hts] at hy
                rcases List.mem_append.1 hy with hy|hy
                · exact hnk y hy hr
                · rw [List.mem_singleton] at hy
                  subst hy
                  exact absurd hr (by assumption)
              exact B3 (k+1) ⟨rfl,rfl,rfl,rfl,rfl,rfl,rfl,trivial⟩ ⟨by omega,hxk.trans hxq0,hstep⟩ (by omega)
        · rw [List.take_of_length_le (by omega)] at hnk
          have hte:g.lex.take (i+1)=g.lex.take i++[ee]:=by rw [List.take_add_one,hei];rfl
          (repeat' (first|refine eV Z Z (A0 (m:=i) Z Z Z (by first|rfl|omega) (by omega)) ?_|refine Ly ?_|refine Dy (fun hh=>?_) fun hh=>?_))
          all_goals (try (exfalso;omega))
          refine B3 (i+1) ⟨rfl,rfl,rfl,rfl,rfl,rfl,trivial⟩ ⟨by omega,hxk,fun e he=>?_⟩ (by omega)
          rw [hte] at he
          rcases List.mem_append.1 he with he|he
          · exact hno e he
          · rw [List.mem_singleton] at he
            subst he
            exact hnk
      · rw [List.take_of_length_le (by omega)] at hno
        have rGr:=rG.ext hxr
        have rRr:=rR.ext hxr
        have rZr:=rZ.ext hxr
        have hXr:=hX.trans hxr
        have hrepR:=T5 hrepZ hxr
        obtain⟨DD,hDD⟩:∃ y,({ d with notes:=ns }:Dc)=y:=⟨_,rfl⟩
        have hTx:=text_ch hL hdf hsk
        have hDc:=len_ch hL hdf hsk
        have hEn:=fun id=>B5h (g:=g) hdf hsk hno id
        have hMi:=miss_ch (g:=g) hdf hsk hno
        replace hrepR:Rep.at_ Tt wr DD [int d.rid,str d.rname,int d.len,int d.day,.slice a1' d.sp.length c1',.slice a2' d.tiers.length c2',.slice a3' ns.length c3']:=hDD▸hrepR
        rw [hDD] at hTx hDc hEn hMi
        obtain⟨DN,hDN⟩:∃ l,chD r.rcd DD ds=l:=⟨_,rfl⟩
        rw [hDN] at hTx hDc hEn hMi
        have hDl:DN.length=ds.length:=by rw [← hDN];exact List.length_map _
        have hfew:=hL.few
        have hd0:0<ds.length:=List.length_pos_of_mem (A3b hdf)
        have c15:=A2z ds (by omega) (A2u hL) dv wr (hv.ext hXr)
        clear rG rR rZ
        (repeat' (first|(refine A8 Z Z (A5 Z Z en15) c15 (fun vN wN hN=>?_);obtain⟨xN,css,⟨hcl,hown⟩,hA⟩:=hN;rcases hown with⟨rfl,h0⟩|⟨gb,gc,cur,rfl,hgb,hgr,hgc1,hgc2,hgc3,hgc4⟩)|refine Ly ?_|refine Dy (fun hh=>?_) fun hh=>?_))
        all_goals (try (exfalso;omega))
        replace hgr:Row wN gb 72 cur.toList:=hgr
        obtain⟨tl,htl⟩:∃ tl,cur.toList=css.flatten++tl:=⟨cur.toList.drop (ds.length*7),by rw [← hgc4];exact(List.take_append_drop _ _).symm⟩
        rw [htl] at hgr
        have hA0:AtsG (fun b=>b≠gb) wN ds css:=AtsG.wk hA (fun b hb e=>hb.2 (by subst e;rfl))
        have hrepN:Rep.at_ (fun b=>b≠gb) wN DD [int d.rid,str d.rname,int d.len,int d.day,.slice a1' d.sp.length c1',.slice a2' d.tiers.length c2',.slice a3' ns.length c3']:=Rep.move hrepR (fun b _ hlt=>⟨by have:=hgb;omega,xN.block hlt⟩)
        have rGN:=rGr.ext xN
        have rRN:=rRr.ext xN
        have rZN:=rZr.ext xN
        have hGb:bG≠gb:=by have:=rGr.lt;omega
        have hRb:bR≠gb:=by have:=rRr.lt;omega
        have hZb:bY≠gb:=by have:=rZr.lt;omega
        have hch0:chI r.rcd DD ds 0=ds:=by simp [chI,chD]
        refine B0 (ι:=Nat × List (List Value)) (fun z=>[(0,dv),(4,.pointer (some ⟨bG,0,none⟩)),(5,.pointer (some ⟨bR,0,none⟩)),(9,.pointer (some ⟨bY,0,none⟩)),(14,.slice (some ⟨gb,0,none⟩) ds.length gc),(15,int z.1)])
          (fun z wq=>z.1≤ds.length∧Row wq gb 72 (z.2.flatten++tl)∧AtsG (fun b=>b≠gb) wq (chI r.rcd DD ds z.1) z.2∧Kx (fun b=>b=gb) wN wq) (fun z=>ds.length-z.1) (0,css)
          ⟨rfl,rfl,rfl,rfl,rfl,rfl,trivial⟩ ⟨Nat.zero_le _,hgr,by dsimp only;rw [hch0];exact hA0,Kx.of_ext (Ext.refl _)⟩ ?_
        rintro⟨i,cs⟩ wq ⟨hi,hRow,hAq,kq⟩
        dsimp only at hi hRow hAq kq ⊢
        have hcl2:=hAq.len
        rw [A3e hi] at hcl2
        have hc7:=AtsG.lens hAq
        have hfl:cs.flatten.length=ds.length*7:=by have:=AtsG.flat hAq;rw [A3e hi] at this;exact this
        have sN:Sl wq (.slice (some ⟨gb,0,none⟩) ds.length gc) (chI r.rcd DD ds i):=⟨_,gc,by rw [A3e hi],by rw [A3e hi];exact hgc1,by rw [A3e hi];omega,fun _=>⟨gb,0,rfl,trivial,cs,AtsG.wk hAq (fun _ _=>trivial),At.sub (xs:=[]) (zs:=tl) (by rw [List.nil_append];exact hRow.at)⟩⟩
        have rGq:=kq.row rGN hGb
        have rRq:=kq.row rRN hRb
        have rZq:=kq.row rZN hZb
        have hrepQ:Rep.at_ (fun b=>b≠gb) wq DD [int d.rid,str d.rname,int d.len,int d.day,.slice a1' d.sp.length c1',.slice a2' d.tiers.length c2',.slice a3' ns.length c3']:=Rep.move hrepN (fun b hb hlt=>⟨hb,kq.block b hlt hb⟩)
        have hgw:w.heap.size≤gb:=by have:=hXr.size;omega
        have hXq:Ext w wq:=Kx.from kq (hXr.trans xN) (fun b hb h=>by omega)
        by_cases hlt:i<ds.length
        · obtain⟨x,hxi⟩:∃ x,ds[i]?=some x:=⟨_,List.getElem?_eq_getElem hlt⟩
          obtain⟨_,_,_,_,_,_,hatx,_⟩:=Q9 sN (chI_get hxi)
          have hxq:=Ext.refl wq
          by_cases hxr2:x.rid=r.rcd
          · (repeat' (first|refine eV Z Z (A0 (m:=i) Z Z Z (by first|rfl|omega) (by omega)) ?_|refine yV Z Z (fun _ _ _=>A0 (m:=i) Z Z Z (by first|rfl|omega) (by omega)) ?_|(refine yN Z (fun wp xp=>?_);replace hxq:=hxq.trans xp;replace hRow:=hRow.ext xp;replace rZq:=rZq.ext xp)|(refine J0 Z Z Z Z Z Z Z hRow (by rw [List.length_append,hfl];show 0+i*7+7≤_;omega) (fun wS rS kS _=>?_))|refine Ly ?_|refine Dy (fun hh=>?_) fun hh=>?_|refine yqY ?_|refine yqZ ?_|refine yqX (fun hh=>?_) fun hh=>?_|refine E_dq B5 (by kernel_rfl) Z ?_))
            all_goals (try (exfalso;omega))
            have kbS:=Kx.of_kb (T:=fun b=>b=gb) kS rfl
            have hrow2:Row wS gb 72 ((cs.set i [int d.rid,str d.rname,int d.len,int d.day,.slice a1' d.sp.length c1',.slice a2' d.tiers.length c2',.slice a3' ns.length c3']).flatten++tl):=by
              rw [← A9z cs tl i _ hc7 rfl (by omega)]
              rw [show 0+i*7=i*7 by omega] at rS
              exact rS
            have hmv:∀ b,b≠gb→b<wq.heap.size→b≠gb∧wS.heap[b]?=wq.heap[b]?:=fun b hb hlt=>⟨hb,(kbS.block b (Nat.lt_of_lt_of_le hlt hxq.size) hb).trans (hxq.block hlt)⟩
            have hA2:=AllAt.set (Rep.move hrepQ hmv) i (AtsG.move hAq hmv)
            rw [chI_yes hxi hxr2] at hA2
            exact B3 (i+1,cs.set i [int d.rid,str d.rname,int d.len,int d.day,.slice a1' d.sp.length c1',.slice a2' d.tiers.length c2',.slice a3' ns.length c3']) ⟨rfl,rfl,rfl,rfl,rfl,rfl,trivial⟩ ⟨by dsimp only;omega,hrow2,hA2,(kq.trans (Kx.of_ext hxq)).trans kbS⟩ (by dsimp only;omega)
          · (repeat' (first|refine eV Z Z (A0 (m:=i) Z Z Z (by first|rfl|omega) (by omega)) ?_|refine yV Z Z (fun _ _ _=>A0 (m:=i) Z Z Z (by first|rfl|omega) (by omega)) ?_|(refine yN Z (fun wp xp=>?_);replace hxq:=hxq.trans xp;replace hRow:=hRow.ext xp;replace rZq:=rZq.ext xp)|refine Ly ?_|refine Dy (fun hh=>?_) fun hh=>?_|refine yqY ?_|refine yqZ ?_|refine yqX (fun hh=>?_) fun hh=>?_|refine E_dq B5 (by kernel_rfl) Z ?_))
            all_goals (try (exfalso;omega))
            have hA2:=AtsG.ext hAq hxq
            rw [chI_no hxi hxr2] at hA2
            exact B3 (i+1,cs) ⟨rfl,rfl,rfl,rfl,rfl,rfl,trivial⟩ ⟨by dsimp only;omega,hRow,hA2,kq.trans (Kx.of_ext hxq)⟩ (by dsimp only;omega)
        · have hie:i=ds.length:=by omega
          have hche:chI r.rcd DD ds i=DN:=by rw [hie,← hDN];simp [chI]
          rw [hche] at sN
          have hXs:=hXq
          have sNq:=sN
          clear sN
          (repeat' (first|refine Sy ?_|refine Dy (fun hh=>?_) fun hh=>?_))
          all_goals (try (exfalso;omega))
          refine B0 (ι:=Nat) (fun z=>[(0,dv),(4,.pointer (some ⟨bG,0,none⟩)),(14,.slice (some ⟨gb,0,none⟩) ds.length gc),(16,int z)])
            (fun z wk=>z≤g.lex.length∧Ext wq wk) (fun z=>g.lex.length-z) 0 ⟨rfl,rfl,rfl,rfl,trivial⟩ ⟨Nat.zero_le _,Ext.refl _⟩ ?_
          rintro j wj ⟨hj,hxj⟩
          clear hX
          have hX:=hXs.trans hxj
          have rG:=rGq.ext hxj
          have sN:=SlG.ext sNq hxj
          by_cases hjl:j<g.lex.length
          · obtain⟨b,off,rfl⟩:=hlp (by omega)
            obtain⟨ee,hei⟩:∃ e,g.lex[j]?=some e:=⟨_,List.getElem?_eq_getElem hjl⟩
            obtain⟨d0,f0,d1,f1,d2,f2,d3,f3,d4,f4,hate,_⟩:=D3 (hl0.ext hX) hei
            (repeat' ((fail_if_success (refine B4 (x:=(Code.region 27 _ _)) ?_));first|refine eV Z Z (A0 (m:=j) Z Z Z (by first|rfl|omega) (by omega)) ?_|refine Ly ?_|refine Dy (fun hh=>?_) fun hh=>?_))
            all_goals (try (exfalso;omega))
            refine B4 ?_
            refine E.sub (M:=[(0,dv),(4,.pointer (some ⟨bG,0,none⟩)),(14,.slice (some ⟨gb,0,none⟩) ds.length gc),(16,int j),(17,int ee.id)]) ⟨rfl,rfl,rfl,rfl,rfl,trivial⟩ ?_
            refine E_dm 14 B5 (by kernel_rfl) Z ?_
            (repeat' (first|(refine C8 (f:=15) (fun u w'=>Sl w' u ds) (fun _=>#[dv]) Z Z (fun _ _ _ _ xe h=>SlG.ext h xe) (fun _ _ _=>A5 Z Z en15) (fun wq _ xq _=>?_) ?_;exact C0 (B2f hL dv wq (hv.ext (hX.trans xq))) (fun _ _ hh=>⟨hh.2.any,hh.1⟩))|(refine C8 (f:=15) (fun u w'=>Sl w' u DN) (fun _=>#[.slice (some ⟨gb,0,none⟩) ds.length gc]) Z Z (fun _ _ _ _ xe h=>SlG.ext h xe) (fun _ _ _=>A5 Z Z en15) (fun wq _ xq _=>?_) ?_;exact C0 (Y9 DN (by omega) hDc _ wq (sN.ext xq)) (fun _ _ hh=>⟨hh.2.any,hh.1⟩))|refine yV Z Z (fun wq _ xq=>B8 Z Z Z (rG.ext xq).at rfl) ?_|(refine C8 (f:=16) (fun u w'=>∃ pv uv tv rv sv fv ev,u=.agg #[pv,str g.oname,uv,tv,rv,int g.net.states,sv,fv,ev]∧LangG Tt w' g pv uv tv rv sv fv ev) (fun _=>#[.agg #[pv,str g.oname,uv,tv,rv,int g.net.states,sv,fv,.slice (some ⟨b,off,none⟩) g.lex.length lc] ]) Z Z (fun _ _ _ _ xe h=>by obtain⟨pv,uv,tv,rv,sv,fv,ev,e,hl⟩:=h;exact⟨pv,uv,tv,rv,sv,fv,ev,e,hl.ext xe⟩) (fun _ _ _=>A5 Z Z en16) (fun wq _ xq _=>?_) ?_;exact C0 (A4w g hcp pv uv tv rv sv fv _ wq (hg.ext (hX.trans xq))) (fun _ _ hh=>⟨hh.2,hh.1⟩))|(refine C8 (f:=19) (fun u w'=>Sl w' u (K3 ds g ee.id)) (fun δ=>#[δ 126,δ 128,int ee.id]) Z Z (fun _ _ _ _ xe h=>SlG.ext h xe) (fun _ _ _=>A5 Z Z en19) (fun wq δ xq hd=>?_) ?_;(obtain⟨pv',uv',tv',rv',sv',fv',ev',e,hl⟩:=hd 128 rfl _ rfl;rw [e];have:=T9 hTx g hok ee.id _ pv' uv' tv' rv' sv' fv' ev' wq (hd 126 rfl _ rfl) hl;exact C0 this (fun _ _ hh=>⟨(hEn ee.id)▸hh.1.any,hh.2⟩)))|(refine C8 (f:=19) (fun u w'=>Sl w' u (K3 ds g ee.id)) (fun δ=>#[δ 132,δ 134,int ee.id]) Z Z (fun _ _ _ _ xe h=>SlG.ext h xe) (fun _ _ _=>A5 Z Z en19) (fun wq δ xq hd=>?_) ?_;(obtain⟨pv',uv',tv',rv',sv',fv',ev',e,hl⟩:=hd 134 rfl _ rfl;rw [e];have:=T9 (Y5 hL) g hok ee.id _ pv' uv' tv' rv' sv' fv' ev' wq (hd 132 rfl _ rfl) hl;exact C0 this (fun _ _ hh=>⟨hh.1.any,hh.2⟩)))|(refine H2 (f:=18) (v:=.bool true) (fun δ=>#[δ 130,δ 136]) Z Z (fun _ _ _=>A5 Z Z en18) (fun wq δ xq hd=>?_) ?_;(have:=A1r (K3 ds g ee.id) (K3 ds g ee.id) _ _ wq (hd 130 rfl _ rfl) (hd 136 rfl _ rfl);rw [decide_eq_true rfl] at this;exact this))|(refine J4 (fun wp δ xq hR=>?_);simp only [mat,vG];refine eN ?_;refine G8 ?_;skip)|refine Sy ?_|refine yqZ ?_))
            all_goals (try (exfalso;omega))
            exact B3 (j+1) ⟨rfl,rfl,rfl,rfl,trivial⟩ ⟨by omega,hxj.trans xq⟩ (by omega)
          · (repeat' ((fail_if_success (refine B4 (x:=(Code.region 29 _ _)) ?_));first|refine Ly ?_|refine Dy (fun hh=>?_) fun hh=>?_))
            all_goals (try (exfalso;omega))
            try refine B4 ?_
            refine E.sub (M:=[(0,dv),(4,.pointer (some ⟨bG,0,none⟩)),(14,.slice (some ⟨gb,0,none⟩) ds.length gc)]) ⟨rfl,rfl,rfl,trivial⟩ ?_
            refine E_dm 15 B5 (by kernel_rfl) Z ?_
            (repeat' (first|(refine C8 (f:=15) (fun u w'=>Sl w' u ds) (fun _=>#[dv]) Z Z (fun _ _ _ _ xe h=>SlG.ext h xe) (fun _ _ _=>A5 Z Z en15) (fun wq _ xq _=>?_) ?_;exact C0 (B2f hL dv wq (hv.ext (hX.trans xq))) (fun _ _ hh=>⟨hh.2.any,hh.1⟩))|(refine C8 (f:=15) (fun u w'=>Sl w' u DN) (fun _=>#[.slice (some ⟨gb,0,none⟩) ds.length gc]) Z Z (fun _ _ _ _ xe h=>SlG.ext h xe) (fun _ _ _=>A5 Z Z en15) (fun wq _ xq _=>?_) ?_;exact C0 (Y9 DN (by omega) hDc _ wq (sN.ext xq)) (fun _ _ hh=>⟨hh.2.any,hh.1⟩))|refine yV Z Z (fun wq _ xq=>B8 Z Z Z (rG.ext xq).at rfl) ?_|(refine C8 (f:=16) (fun u w'=>∃ pv uv tv rv sv fv ev,u=.agg #[pv,str g.oname,uv,tv,rv,int g.net.states,sv,fv,ev]∧LangG Tt w' g pv uv tv rv sv fv ev) (fun _=>#[.agg #[pv,str g.oname,uv,tv,rv,int g.net.states,sv,fv,.slice la g.lex.length lc] ]) Z Z (fun _ _ _ _ xe h=>by obtain⟨pv,uv,tv,rv,sv,fv,ev,e,hl⟩:=h;exact⟨pv,uv,tv,rv,sv,fv,ev,e,hl.ext xe⟩) (fun _ _ _=>A5 Z Z en16) (fun wq _ xq _=>?_) ?_;exact C0 (A4w g hcp pv uv tv rv sv fv _ wq (hg.ext (hX.trans xq))) (fun _ _ hh=>⟨hh.2,hh.1⟩))|(refine C8 (f:=22) (fun u w'=>Sl w' u (A0l ds g)) (fun δ=>#[δ 140,δ 142]) Z Z (fun _ _ _ _ xe h=>SlG.ext h xe) (fun _ _ _=>A5 Z Z en22) (fun wq δ xq hd=>?_) ?_;(obtain⟨pv',uv',tv',rv',sv',fv',ev',e,hl⟩:=hd 142 rfl _ rfl;rw [e];have:=P0 hTx g hok _ pv' uv' tv' rv' sv' fv' ev' wq (hd 140 rfl _ rfl) hl;exact C0 this (fun _ _ hh=>⟨hMi▸hh.1.any,hh.2⟩)))|(refine C8 (f:=22) (fun u w'=>Sl w' u (A0l ds g)) (fun δ=>#[δ 145,δ 147]) Z Z (fun _ _ _ _ xe h=>SlG.ext h xe) (fun _ _ _=>A5 Z Z en22) (fun wq δ xq hd=>?_) ?_;(obtain⟨pv',uv',tv',rv',sv',fv',ev',e,hl⟩:=hd 147 rfl _ rfl;rw [e];have:=P0 (Y5 hL) g hok _ pv' uv' tv' rv' sv' fv' ev' wq (hd 145 rfl _ rfl) hl;exact C0 this (fun _ _ hh=>⟨hh.1.any,hh.2⟩)))|(refine H2 (f:=21) (v:=.bool true) (fun δ=>#[δ 143,δ 148]) Z Z (fun _ _ _=>A5 Z Z en21) (fun wq δ xq hd=>?_) ?_;(have:=R6 (A0l ds g) (A0l ds g) _ _ wq (hd 143 rfl _ rfl) (hd 148 rfl _ rfl);rw [decide_eq_true rfl] at this;exact this))|refine C4 Z Z (fun _ _ _=>A5 Z Z en13) (fun wq xq=>Q0 wq (hT.ext (hX.trans xq))) ?_|refine J4 (fun wq δ xq hR=>?_)|refine Sy ?_|refine yqZ ?_))
            all_goals (try (exfalso;omega))
            exact A4 Z Z ⟨rfl,hX.trans xq⟩
    · (repeat' (first|(refine cqC (Q0 _ (hT.ext hX)) en13 fun wA xA=>?_;replace hX:=hX.trans xA)|refine Sy ?_|refine Dy (fun hh=>?_) fun hh=>?_))
      all_goals (try (exfalso;omega))
      exact A4 Z Z ⟨rfl,hX⟩
end Go.Proofs.YtjicdgejhkgpgaaGreatDoor
