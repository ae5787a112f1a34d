/-
  Own text of the proof.
-/
import Derived.Test.YtjicdgejhkgpgaaGreatDoorUi
set_option linter.all false
set_option maxHeartbeats 8000000
set_option maxRecDepth 8000
namespace Go.Proofs.YtjicdgejhkgpgaaGreatDoor
open Go.RowKit Go.En Go.Pv
theorem att_leads {ds:List Dc} (hL:LightDs ds) {g:Lg} {id:Int} {r:Rf} (ha:attF ds g id r=true):∃ d n,docF ds r.rcd=some d∧getF d.notes r.note=some n∧Bf ds r=true∧0≤(Cc ds r).1∧(Cc ds r).1<(Cc ds r).2∧(Cc ds r).2≤d.len∧n.text.length≤200∧
    (Bm g.units n.text).2=0∧Dw g (Bm g.units n.text).1 id=true:=by
  cases h:docF ds r.rcd with
  | none=>rw [att_doc (by rw [h];rfl)] at ha;cases ha
  | some d=>
    cases hg:getF d.notes r.note with
    | none=>rw [att_get h hg] at ha;cases ha
    | some n=>
      have hl:=leads_get hL h
      rw [hg] at hl
      have hm:=G3 hg
      have hid:n.id=r.note:=by have:=List.find?_some hg;simpa using this
      have hs:=span_right (Df hL h) hm
      rw [hid] at hs
      have hw:Cc ds r=G7 d r.note:=by unfold Cc;rw [h]
      obtain⟨i,hi⟩:=List.getElem?_of_mem hm
      have ht:=((Df hL h).notes i n hi).text.1
      unfold attF at ha
      rw [h] at ha
      simp only [Bool.and_eq_true] at ha
      have h2:=ha.2
      rw [hg] at h2
      unfold witB at h2
      simp only [Bool.and_eq_true,decide_eq_true_eq] at h2
      rw [hw]
      exact⟨d,n,rfl,hg,hl,hs.1,hs.2.1,hs.2.2,ht,h2.2.1,h2.2.2⟩
theorem miss_mem {ds:List Dc} {g:Lg} {e:En} (he:e∈g.lex):decide (e.id∈K8 ds g)=decide ((Bh ds g e.id).length=0):=by
  congr 1
  apply propext
  unfold K8
  rw [List.mem_map]
  constructor
  · rintro⟨e2,h1,h2⟩
    have:=(List.mem_filter.1 h1).2
    rw [h2,List.isEmpty_iff] at this
    rw [this];rfl
  · intro h
    exact⟨e,List.mem_filter.2 ⟨he,by rw [List.isEmpty_iff];exact List.length_eq_zero_iff.1 h⟩,rfl⟩
theorem neq_bool {P:Program} {L:List (Nat × Value)} {w:World} {o:Oper} {t u:TypeId} {x y:Operand} {a b:Bool} [UT P t .bool] (ho:o.op=.binOp .neq t x y u) (hx:ev L x=some (.bool a)) (hy:ev L y=some (.bool b)) (hab:a=b):Val P L w o (.bool false):=fun ρ ha=>by
  subst hab
  have h1:=ha.ev (by rw [ho];simp [Op.operands]) hx
  have h2:=ha.ev (by rw [ho];simp [Op.operands]) hy
  have h4:=run_neq_bool (P:=P) w t a a (UT.u (P:=P) (t:=t) (d:=.bool))
  simp [execOp,ho,h1,h2,go_sem,h4]
attribute [local irreducible] E EL K Val Enters Rt Calls bodyPost Code.wp RQ
theorem law7_any (ds:List Dc) (hn:∀ d∈ds,Names d) (g:Lg) (hb:LgBd g) (hll:g.letters.length≤1048576) (dv pv uv tv rv sv fv ev:Value) (w:World) (hT:Tabs w) (hv:Sl w dv ds) (hg:LangG Tt w g pv uv tv rv sv fv ev) :
    Calls Tryz.prog 7 #[dv,.agg #[pv,str g.oname,uv,tv,rv,int g.net.states,sv,fv,ev] ] w (Rt fun u w'=>u=.bool true∧Ext w w'):=by
  have hl0:=hg.lex
  obtain⟨la,lc,rfl,_,hlm,hlp⟩:=hl0.sl
  refine A7 (n:=163) (args:=[dv,.agg #[pv,str g.oname,uv,tv,rv,int g.net.states,sv,fv,.slice la g.lex.length lc] ]) Tryz.func7 rfl Tryz.ntmps7 (by simp) ?_
  refine Ac ?_
  refine A8 ?_
  refine Ao Z Z Z Z (fun bG wG xG hbG rG=>?_)
  have hX:=xG
  (repeat' ((fail_if_success (refine Ac (x:=(Code.region 3 _ _)) ?_));first|(refine A9 Z Z (A3 Z Z en12) (Gz ds hn g hb dv pv uv tv rv sv fv _ _ (hv.ext hX) (hg.ext hX)) (fun vC wC hC=>?_);obtain⟨⟨bl,rfl,hl⟩,xC⟩:=hC;replace hX:=hX.trans xC;replace rG:=rG.ext xC;cases bl)|(refine cqC (Bp _ (hT.ext hX)) en13 fun wA xA=>?_;replace hX:=hX.trans xA)|refine Ly ?_))
  all_goals (try (exfalso;omega))
  · exact A5 Z Z ⟨rfl,hX⟩
  obtain⟨hL,hok⟩:=hl rfl
  have hcp:=Nr hok hb hll
  have hnl:=hok.nlex
  refine Ac ?_
  refine E.sub (M:=[(0,dv),(3,.pointer (some ⟨bG,0,none⟩))]) ⟨rfl,rfl,trivial⟩ ?_
  refine E_dm 6 Aa (by kernel_rfl) Z ?_
  (repeat' (first|(refine Al (f:=15) (fun u w'=>Sl w' u ds) (fun _=>#[dv]) Z Z (fun _ _ _ _ xe h=>SlG.ext h xe) (fun _ _ _=>A3 Z Z en15) (fun wq _ xq _=>?_) ?_;exact Ag (I6 hL dv wq (hv.ext (hX.trans xq))) (fun _ _ hh=>⟨hh.2.any,hh.1⟩))|refine yV Z Z (fun wq _ xq=>Ab Z Z Z (rG.ext xq).at rfl) ?_|(refine Al (f:=16) (fun u w'=>∃ pv uv tv rv sv fv ev,u=.agg #[pv,str g.oname,uv,tv,rv,int g.net.states,sv,fv,ev]∧LangG Tt w' g pv uv tv rv sv fv ev) (fun _=>#[.agg #[pv,str g.oname,uv,tv,rv,int g.net.states,sv,fv,.slice la g.lex.length lc] ]) Z Z (fun _ _ _ _ xe h=>by obtain⟨pv,uv,tv,rv,sv,fv,ev,e,hl⟩:=h;exact⟨pv,uv,tv,rv,sv,fv,ev,e,hl.ext xe⟩) (fun _ _ _=>A3 Z Z en16) (fun wq _ xq _=>?_) ?_;exact Ag (De g hcp pv uv tv rv sv fv _ wq (hg.ext (hX.trans xq))) (fun _ _ hh=>⟨hh.2,hh.1⟩))|(refine Al (f:=22) (fun u w'=>Sl w' u (K8 ds g)) (fun δ=>#[δ 27,δ 29]) Z Z (fun _ _ _ _ xe h=>SlG.ext h xe) (fun _ _ _=>A3 Z Z en22) (fun wq δ xq hd=>?_) ?_;(obtain⟨pv',uv',tv',rv',sv',fv',ev',e,hl⟩:=hd 29 rfl _ rfl;rw [e];have:=F9 (D5 hL) g hok _ pv' uv' tv' rv' sv' fv' ev' wq (hd 27 rfl _ rfl) hl;exact Ag this (fun _ _ hh=>⟨hh.1.any,hh.2⟩)))|refine K0 Z Z Z Z (fun _=>rfl) ?_|(refine B8 (fun wM δ xq hR=>?_);have s5:=hR 5 _ rfl;obtain⟨mv,hmv⟩:∃ z,z=δ 5:=⟨_,rfl⟩;simp only [mat,vG];rw [← hmv] at s5 ⊢;replace hX:=hX.trans xq;replace rG:=rG.ext xq;refine eN ?_;refine Ba ?_;skip)|refine Sy ?_|refine yqZ ?_))
  all_goals (try (exfalso;omega))
  refine Ae (ι:=Nat) (fun z=>[(0,dv),(3,.pointer (some ⟨bG,0,none⟩)),(5,mv),(6,int z)])
    (fun z wr=>z≤g.lex.length∧Ext wM wr) (fun z=>g.lex.length-z) 0
    ⟨rfl,rfl,rfl,rfl,trivial⟩ ⟨Nat.zero_le _,Ext.refl _⟩ ?_
  rintro i wr ⟨hi,hxM⟩
  replace hX:=hX.trans hxM
  replace rG:=rG.ext hxM
  replace s5:=s5.ext hxM
  clear hR xq
  by_cases hlt:i<g.lex.length
  · obtain⟨b,off,rfl⟩:=hlp (by omega)
    obtain⟨ee,hei⟩:∃ e,g.lex[i]?=some e:=⟨_,List.getElem?_eq_getElem hlt⟩
    have hem:=List.mem_of_getElem? hei
    obtain⟨d0,f0,d1,f1,d2,f2,d3,f3,d4,f4,hate,_⟩:=B3 (hl0.ext hX) hei
    (repeat' ((fail_if_success (refine Ac (x:=(Code.region 8 _ _)) ?_));first|refine eV Z Z (A0 (m:=i) Z Z Z (by first|rfl|omega) (by omega)) ?_|refine Ly ?_|refine Dy (fun hh=>?_) fun hh=>?_))
    all_goals (try (exfalso;omega))
    refine Ac ?_
    refine E.sub (M:=[(0,dv),(3,.pointer (some ⟨bG,0,none⟩)),(5,mv),(6,int i),(7,int ee.id)]) ⟨rfl,rfl,rfl,rfl,rfl,trivial⟩ ?_
    refine E_dm 7 Aa (by kernel_rfl) Z ?_
    (repeat' (first|(refine Al (f:=15) (fun u w'=>Sl w' u ds) (fun _=>#[dv]) Z Z (fun _ _ _ _ xe h=>SlG.ext h xe) (fun _ _ _=>A3 Z Z en15) (fun wq _ xq _=>?_) ?_;exact Ag (I6 hL dv wq (hv.ext (hX.trans xq))) (fun _ _ hh=>⟨hh.2.any,hh.1⟩))|refine yV Z Z (fun wq _ xq=>Ab Z Z Z (rG.ext xq).at rfl) ?_|(refine Al (f:=16) (fun u w'=>∃ pv uv tv rv sv fv ev,u=.agg #[pv,str g.oname,uv,tv,rv,int g.net.states,sv,fv,ev]∧LangG Tt w' g pv uv tv rv sv fv ev) (fun _=>#[.agg #[pv,str g.oname,uv,tv,rv,int g.net.states,sv,fv,.slice (some ⟨b,off,none⟩) g.lex.length lc] ]) Z Z (fun _ _ _ _ xe h=>by obtain⟨pv,uv,tv,rv,sv,fv,ev,e,hl⟩:=h;exact⟨pv,uv,tv,rv,sv,fv,ev,e,hl.ext xe⟩) (fun _ _ _=>A3 Z Z en16) (fun wq _ xq _=>?_) ?_;exact Ag (De g hcp pv uv tv rv sv fv _ wq (hg.ext (hX.trans xq))) (fun _ _ hh=>⟨hh.2,hh.1⟩))|(refine Al (f:=19) (fun u w'=>Sl w' u (Bh ds g ee.id)) (fun δ=>#[δ 45,δ 47,int ee.id]) Z Z (fun _ _ _ _ xe h=>SlG.ext h xe) (fun _ _ _=>A3 Z Z en19) (fun wq δ xq hd=>?_) ?_;(obtain⟨pv',uv',tv',rv',sv',fv',ev',e,hl⟩:=hd 47 rfl _ rfl;rw [e];have:=H2 (D5 hL) g hok ee.id _ pv' uv' tv' rv' sv' fv' ev' wq (hd 45 rfl _ rfl) hl;exact Ag this (fun _ _ hh=>⟨hh.1.any,hh.2⟩)))|refine K0 Z Z Z Z (fun _=>rfl) ?_|(refine B8 (fun wO δ xq hR=>?_);have s8:=hR 8 _ rfl;obtain⟨ov,hov⟩:∃ z,z=δ 8:=⟨_,rfl⟩;simp only [mat,vG];rw [← hov] at s8 ⊢;replace hX:=hX.trans xq;replace rG:=rG.ext xq;replace hxM:=hxM.trans xq;replace s5:=s5.ext xq;obtain⟨oa,oc,rfl,_,_,hop⟩:=s8.sl;have hel:=Pq (ds:=ds) hok ee.id;have c33:=fun wz (hz:Ext wO wz)=>Jn (K8 ds g) ee.id mv wz (s5.ext hz);rw [miss_mem hem] at c33;have hxO:=Ext.refl wO;refine eN ?_;refine Ba ?_;skip)|(refine cqC (c33 _ hxO) en33 fun wC xC=>?_;replace hX:=hX.trans xC;replace hxM:=hxM.trans xC;replace rG:=rG.ext xC;replace s5:=s5.ext xC;replace s8:=s8.ext xC;replace hxO:=hxO.trans xC)|refine eV (v:=.bool false) Z Z (neq_bool rfl rfl rfl (by first|exact decide_eq_true (by omega)|exact decide_eq_false (by omega))) ?_|refine Sy ?_|refine Dy (fun hh=>?_) fun hh=>?_|refine yqZ ?_))
    all_goals (try (exfalso;omega))
    all_goals
      refine Ae (ι:=Nat) (fun z=>[(0,dv),(3,.pointer (some ⟨bG,0,none⟩)),(5,mv),(6,int i),(7,int ee.id),(8,.slice oa (Bh ds g ee.id).length oc),(9,int z)]) (fun z wk=>z≤(Bh ds g ee.id).length∧Ext wC wk) (fun z=>(Bh ds g ee.id).length-z) 0
        ⟨rfl,rfl,rfl,rfl,rfl,rfl,rfl,trivial⟩ ⟨Nat.zero_le _,Ext.refl _⟩ ?_
      rintro k wk ⟨hk,hxC⟩
      replace hX:=hX.trans hxC
      replace hxM:=hxM.trans hxC
      replace rG:=rG.ext hxC
      replace s8:=s8.ext hxC
      by_cases hkl:k<(Bh ds g ee.id).length
      · all_goals (try (exfalso;omega))
        all_goals
          obtain⟨ob,oo,rfl⟩:=hop (by omega)
          obtain⟨r,hrk⟩:∃ r,(Bh ds g ee.id)[k]?=some r:=⟨_,List.getElem?_eq_getElem hkl⟩
          have hra:attF ds g ee.id r=true:=by have:=List.mem_of_getElem? hrk;rw [← att_eq hL];exact(List.mem_filter.1 this).2
          obtain⟨d,n,hdf,hgn,hld,hs1,hs2,hs3,htx,hrd,hus⟩:=att_leads hL hra
          obtain⟨s1,hs1e⟩:∃ z,(Cc ds r).1=z:=⟨_,rfl⟩
          obtain⟨s2,hs2e⟩:∃ z,(Cc ds r).2=z:=⟨_,rfl⟩
          have hwd:Cz ds r=.tuple #[.agg #[int s1,int s2],.bool true]:=by unfold Cz;rw [hs1e,hs2e,hld]
          rw [hs1e,hs2e] at hs2
          rw [hs1e] at hs1
          rw [hs2e] at hs3
          have hat:=Dk s8 hrk
          have hdl:=Df hL hdf
          have hdD:docD ds r.rcd=d:=by unfold docD;rw [hdf];rfl
          (repeat' ((fail_if_success (refine Ac (x:=(Code.region 14 _ _)) ?_));first|refine Sy ?_|refine Dy (fun hh=>?_) fun hh=>?_))
          all_goals (try (exfalso;omega))
          refine E.sub (M:=[(0,dv),(3,.pointer (some ⟨bG,0,none⟩)),(5,mv),(6,int i),(7,int ee.id),(8,.slice (some ⟨ob,oo,none⟩) (Bh ds g ee.id).length oc),(9,int k)]) ⟨rfl,rfl,rfl,rfl,rfl,rfl,rfl,trivial⟩ ?_
          try refine Ac ?_
          refine E_rel (id:=14) 11 12 1 10 72 (RD ds r.rcd) mvRD (dx0 dv) (fun y=>y.2.X)
            [.t 64 dv,.c 65 (fun y=>y.1),.t 66 (.slice (some ⟨ob,oo,none⟩) (Bh ds g ee.id).length oc),.t 67 (int k),.t 68 (.pointer (some ⟨ob,oo+k*2,none⟩)),.t 69 (.pointer (some ⟨ob,oo+k*2+0,none⟩)),.t 70 (int r.rcd),.d 71 (fun y=>.tuple #[.agg y.2.X.toArray,.bool true]),.d 63 (fun y=>.tuple #[.agg y.2.X.toArray,.bool true]),.d 72 (fun y=>.agg y.2.X.toArray),.d 73 (fun _=>.bool true),.n,.n,.d 11 (fun _=>.bool true)]
            Aa (by kernel_rfl) rfl rfl rfl rfl rfl rfl rfl rfl (by kernel_rfl) (by decide) rfl (fun _=>rfl) (fun y=>y.2.hl) (fun y=>y.2.h1) rfl
            (fun y=>⟨vcV fun _ _=>zA Z Z,⟨15,#[dv],fun _ _=>A3 Z Z en15,fun wq xq=>rd_call hL r.rcd dv wq (hv.ext (hX.trans xq))⟩,vcV fun _ _=>zA Z Z,vcV fun _ _=>zA Z Z,vcV fun _ _=>A0 (m:=k) Z Z Z Z hkl,vcV fun _ _=>zH Z Z,vcV fun wq xq=>(by first|exact A6 Z Z Z ((Row.ext (by assumption) xq).cellAt (by rfl))|exact Ab Z Z Z (Row.ext (by assumption) xq).at (by rfl)|exact A6 Z Z Z ((At.ext (by assumption) xq).cellAt (by rfl))|exact Ab Z Z Z (At.ext (by assumption) xq) (by rfl)|exact A6 Z Z Z (Ext.cell xq (by assumption))),vdC (fun _ _ _ _=>A3 Z Z en34) (fun wq G xq hR=>by have:=hR.2 wq (Sm.refl _ _);rw [hdf] at this;exact this),vdV fun _ _ _ _=>zA Z Z,vdV fun _ _ _ _=>zF Z Z Z,vdV fun _ _ _ _=>zF Z Z Z,vdV fun _ _ _ _=>zB Z Z,trivial⟩) (fun y bD wD GD xD hbD hGD hRD rD=>?_)
          replace hX:=hX.trans xD
          obtain⟨a1,c1,a2,c2,a3,c3,eX,s1D,s2D,s3D⟩:=Jy hRD.1
          have hrD:=hRD.1
          rw [eX] at rD hrD
          rw [hdD] at rD hrD s1D s2D s3D
          replace hxM:=hxM.trans xD
          replace rG:=rG.ext xD
          replace s8:=s8.ext xD
          replace hat:=hat.ext xD
          replace hxC:=hxC.trans xD
          have hxD:=Ext.refl wD
          have hdat:DcAt wD _ d:=dc_at (rep_any hrD)
          refine Ba ?_
          refine Ac ?_
          refine E.sub (M:=[(0,dv),(3,.pointer (some ⟨bG,0,none⟩)),(5,mv),(6,int i),(7,int ee.id),(8,.slice (some ⟨ob,oo,none⟩) (Bh ds g ee.id).length oc),(9,int k),(10,.pointer (some ⟨bD,0,none⟩)),(11,.bool true)]) ⟨rfl,rfl,rfl,rfl,rfl,rfl,rfl,rfl,rfl,trivial⟩ ?_
          refine E_rel (id:=15) 10 11 1 12 82 (RC ds) mvRC (dv) (fun _=>[int s1,int s2])
            [.t 75 dv,.c 76 (fun y=>y),.t 77 (.slice (some ⟨ob,oo,none⟩) (Bh ds g ee.id).length oc),.t 78 (int k),.t 79 (.pointer (some ⟨ob,oo+k*2,none⟩)),.t 80 (.agg #[int r.rcd,int r.note]),.d 81 (fun _=>.tuple #[.agg #[int s1,int s2],.bool true]),.d 74 (fun _=>.tuple #[.agg #[int s1,int s2],.bool true]),.d 82 (fun _=>.agg #[int s1,int s2]),.d 83 (fun _=>.bool true),.n,.n,.d 13 (fun _=>.bool true)]
            Aa (by kernel_rfl) rfl rfl rfl rfl rfl rfl rfl rfl (by kernel_rfl) (by decide) rfl (fun _=>rfl) (fun _=>rfl) (fun _=>rfl) rfl
            (fun y=>⟨vcV fun _ _=>zA Z Z,⟨15,#[dv],fun _ _=>A3 Z Z en15,fun wq xq=>rc_call hL dv wq (hv.ext (hX.trans xq))⟩,vcV fun _ _=>zA Z Z,vcV fun _ _=>zA Z Z,vcV fun _ _=>A0 (m:=k) Z Z Z Z hkl,vcV fun wq xq=>(by first|exact A6 Z Z Z ((Row.ext (by assumption) xq).cellAt (by rfl))|exact Ab Z Z Z (Row.ext (by assumption) xq).at (by rfl)|exact A6 Z Z Z ((At.ext (by assumption) xq).cellAt (by rfl))|exact Ab Z Z Z (At.ext (by assumption) xq) (by rfl)|exact A6 Z Z Z (Ext.cell xq (by assumption))),vdC (fun _ _ _ _=>A3 Z Z en35) (fun wq G xq hR=>by have:=Fe hL r y wq (SlG.any hR);rw [hwd] at this;exact this),vdV fun _ _ _ _=>zA Z Z,vdV fun _ _ _ _=>zF Z Z Z,vdV fun _ _ _ _=>zF Z Z Z,vdV fun _ _ _ _=>zB Z Z,trivial⟩) (fun y bW wW GW xW hbW hGW hRW rW=>?_)
          replace hX:=hX.trans xW
          replace hxM:=hxM.trans xW
          replace rG:=rG.ext xW
          replace rD:=rD.ext xW
          replace s8:=s8.ext xW
          replace hat:=hat.ext xW
          replace hxC:=hxC.trans xW
          replace hxD:=hxD.trans xW
          have c36:=fun wz (hz:Ext wD wz)=>Ij d _ r.note wz (hdat.ext hz)
          have hnn:Cf d.notes r.note=n:=by unfold Cf;rw [hgn];rfl
          rw [Nv,hnn,hgn] at c36
          have c37:=fun wz (hz:Ext wD wz)=>M5 hdl _ r.note wz (hdat.ext hz)
          rw [← wd_some hdf,hwd] at c37
          refine Ba ?_
          refine Ac ?_
          refine E.sub (M:=[(0,dv),(3,.pointer (some ⟨bG,0,none⟩)),(5,mv),(6,int i),(7,int ee.id),(8,.slice (some ⟨ob,oo,none⟩) (Bh ds g ee.id).length oc),(9,int k),(10,.pointer (some ⟨bD,0,none⟩)),(11,.bool true),(12,.pointer (some ⟨bW,0,none⟩)),(13,.bool true)]) ⟨rfl,rfl,rfl,rfl,rfl,rfl,rfl,rfl,rfl,rfl,rfl,trivial⟩ ?_
          refine E_rel (id:=16) 10 11 6 14 92 (fun _ _ _=>True) (fun _ _ _ _ _ _ _=>trivial) (()) (fun _=>[int n.id,int n.tier,int n.parent,int n.frm,int n.til,int n.rank,str n.text])
            [.t 85 (.agg #[int d.rid,str d.rname,int d.len,int d.day,.slice a1 d.sp.length c1,.slice a2 d.tiers.length c2,.slice a3 d.notes.length c3]),.t 86 (.slice (some ⟨ob,oo,none⟩) (Bh ds g ee.id).length oc),.t 87 (int k),.t 88 (.pointer (some ⟨ob,oo+k*2,none⟩)),.t 89 (.pointer (some ⟨ob,oo+k*2+1,none⟩)),.t 90 (int r.note),.c 91 (fun _=>.tuple #[.agg #[int n.id,int n.tier,int n.parent,int n.frm,int n.til,int n.rank,str n.text],.bool true]),.d 84 (fun _=>.tuple #[.agg #[int n.id,int n.tier,int n.parent,int n.frm,int n.til,int n.rank,str n.text],.bool true]),.d 92 (fun _=>.agg #[int n.id,int n.tier,int n.parent,int n.frm,int n.til,int n.rank,str n.text]),.d 93 (fun _=>.bool true),.n,.n,.d 15 (fun _=>.bool true)]
            Aa (by kernel_rfl) rfl rfl rfl rfl rfl rfl rfl rfl (by kernel_rfl) (by decide) rfl (fun _=>rfl) (fun _=>rfl) (fun _=>rfl) rfl
            (fun _=>⟨vcV fun wq xq=>(by first|exact A6 Z Z Z ((Row.ext (by assumption) xq).cellAt (by rfl))|exact Ab Z Z Z (Row.ext (by assumption) xq).at (by rfl)|exact A6 Z Z Z ((At.ext (by assumption) xq).cellAt (by rfl))|exact Ab Z Z Z (At.ext (by assumption) xq) (by rfl)|exact A6 Z Z Z (Ext.cell xq (by assumption))),vcV fun _ _=>zA Z Z,vcV fun _ _=>zA Z Z,vcV fun _ _=>A0 (m:=k) Z Z Z Z hkl,vcV fun _ _=>zH Z Z,vcV fun wq xq=>(by first|exact A6 Z Z Z ((Row.ext (by assumption) xq).cellAt (by rfl))|exact Ab Z Z Z (Row.ext (by assumption) xq).at (by rfl)|exact A6 Z Z Z ((At.ext (by assumption) xq).cellAt (by rfl))|exact Ab Z Z Z (At.ext (by assumption) xq) (by rfl)|exact A6 Z Z Z (Ext.cell xq (by assumption))),⟨36,#[.agg #[int d.rid,str d.rname,int d.len,int d.day,.slice a1 d.sp.length c1,.slice a2 d.tiers.length c2,.slice a3 d.notes.length c3],int r.note],fun _ _=>A3 Z Z en36,fun wq xq=>Ag (c36 wq (hxD.trans xq)) (fun _ _ hh=>⟨(),hh.1,trivial,hh.2⟩)⟩,vdV fun _ _ _ _=>zA Z Z,vdV fun _ _ _ _=>zF Z Z Z,vdV fun _ _ _ _=>zF Z Z Z,vdV fun _ _ _ _=>zB Z Z,trivial⟩) (fun _ bN wN GN xN hbN hGN hRN rN=>?_)
          replace hX:=hX.trans xN
          replace hxM:=hxM.trans xN
          replace rG:=rG.ext xN
          replace rD:=rD.ext xN
          replace rW:=rW.ext xN
          replace s8:=s8.ext xN
          replace hat:=hat.ext xN
          replace hxC:=hxC.trans xN
          replace hxD:=hxD.trans xN
          refine Ba ?_
          refine Ac ?_
          refine E.sub (M:=[(0,dv),(3,.pointer (some ⟨bG,0,none⟩)),(5,mv),(6,int i),(7,int ee.id),(8,.slice (some ⟨ob,oo,none⟩) (Bh ds g ee.id).length oc),(9,int k),(10,.pointer (some ⟨bD,0,none⟩)),(11,.bool true),(12,.pointer (some ⟨bW,0,none⟩)),(13,.bool true),(14,.pointer (some ⟨bN,0,none⟩)),(15,.bool true)]) ⟨rfl,rfl,rfl,rfl,rfl,rfl,rfl,rfl,rfl,rfl,rfl,rfl,rfl,trivial⟩ ?_
          refine E_rel (id:=17) 10 11 6 16 102 (fun _ _ _=>True) (fun _ _ _ _ _ _ _=>trivial) (()) (fun _=>[int s1,int s2])
            [.t 95 (.agg #[int d.rid,str d.rname,int d.len,int d.day,.slice a1 d.sp.length c1,.slice a2 d.tiers.length c2,.slice a3 d.notes.length c3]),.t 96 (.slice (some ⟨ob,oo,none⟩) (Bh ds g ee.id).length oc),.t 97 (int k),.t 98 (.pointer (some ⟨ob,oo+k*2,none⟩)),.t 99 (.pointer (some ⟨ob,oo+k*2+1,none⟩)),.t 100 (int r.note),.c 101 (fun _=>.tuple #[.agg #[int s1,int s2],.bool true]),.d 94 (fun _=>.tuple #[.agg #[int s1,int s2],.bool true]),.d 102 (fun _=>.agg #[int s1,int s2]),.d 103 (fun _=>.bool true),.n,.n,.d 17 (fun _=>.bool true)]
            Aa (by kernel_rfl) rfl rfl rfl rfl rfl rfl rfl rfl (by kernel_rfl) (by decide) rfl (fun _=>rfl) (fun _=>rfl) (fun _=>rfl) rfl
            (fun _=>⟨vcV fun wq xq=>(by first|exact A6 Z Z Z ((Row.ext (by assumption) xq).cellAt (by rfl))|exact Ab Z Z Z (Row.ext (by assumption) xq).at (by rfl)|exact A6 Z Z Z ((At.ext (by assumption) xq).cellAt (by rfl))|exact Ab Z Z Z (At.ext (by assumption) xq) (by rfl)|exact A6 Z Z Z (Ext.cell xq (by assumption))),vcV fun _ _=>zA Z Z,vcV fun _ _=>zA Z Z,vcV fun _ _=>A0 (m:=k) Z Z Z Z hkl,vcV fun _ _=>zH Z Z,vcV fun wq xq=>(by first|exact A6 Z Z Z ((Row.ext (by assumption) xq).cellAt (by rfl))|exact Ab Z Z Z (Row.ext (by assumption) xq).at (by rfl)|exact A6 Z Z Z ((At.ext (by assumption) xq).cellAt (by rfl))|exact Ab Z Z Z (At.ext (by assumption) xq) (by rfl)|exact A6 Z Z Z (Ext.cell xq (by assumption))),⟨37,#[.agg #[int d.rid,str d.rname,int d.len,int d.day,.slice a1 d.sp.length c1,.slice a2 d.tiers.length c2,.slice a3 d.notes.length c3],int r.note],fun _ _=>A3 Z Z en37,fun wq xq=>Ag (c37 wq (hxD.trans xq)) (fun _ _ hh=>⟨(),hh.1,trivial,hh.2⟩)⟩,vdV fun _ _ _ _=>zA Z Z,vdV fun _ _ _ _=>zF Z Z Z,vdV fun _ _ _ _=>zF Z Z Z,vdV fun _ _ _ _=>zB Z Z,trivial⟩) (fun _ bV wV GV xV hbV hGV hRV rV=>?_)
          replace hX:=hX.trans xV
          replace hxM:=hxM.trans xV
          replace rG:=rG.ext xV
          replace rD:=rD.ext xV
          replace rW:=rW.ext xV
          replace rN:=rN.ext xV
          replace hxC:=hxC.trans xV
          replace hxD:=hxD.trans xV
          refine Ba ?_
          refine E.sub (M:=[(0,dv),(3,.pointer (some ⟨bG,0,none⟩)),(5,mv),(6,int i),(7,int ee.id),(8,.slice (some ⟨ob,oo,none⟩) (Bh ds g ee.id).length oc),(9,int k),(10,.pointer (some ⟨bD,0,none⟩)),(11,.bool true),(12,.pointer (some ⟨bW,0,none⟩)),(13,.bool true),(14,.pointer (some ⟨bN,0,none⟩)),(15,.bool true),(16,.pointer (some ⟨bV,0,none⟩)),(17,.bool true)]) ⟨rfl,rfl,rfl,rfl,rfl,rfl,rfl,rfl,rfl,rfl,rfl,rfl,rfl,rfl,rfl,trivial⟩ ?_
          have c38:=fun wz (hz:Ext w wz)=>Oy g.units hok.units n.text (by omega) g.oname uv tv wz (hg.units.ext hz)
          have c39:=fun pv' uv' tv' rv' sv' fv' ev' wv wz (hl:LangG Tt wz g pv' uv' tv' rv' sv' fv' ev') (hw:Sl wz wv (Bm g.units n.text).1)=>Ob hok (Bm g.units n.text).1 ee.id pv' uv' tv' rv' sv' fv' ev' wv wz hl hw
          rw [hrd] at c38
          rw [hus] at c39
          have hO:=At.sub (xs:=[pv]) (ys:=[str g.oname,uv,tv]) (zs:=[rv,int g.net.states,sv,fv,.slice (some ⟨b,off,none⟩) g.lex.length lc]) rG.at
          have hxV:=Ext.refl wV
          (repeat' (first|refine eV Z Z (L5 Ol (Mh s1 s2) Z Z Z) ?_|(refine A9 Z Z (A3 Z Z en38) (c38 _ (hX.trans hxV)) (fun vC wC hC=>?_);obtain⟨⟨v38,a38,rfl,s38⟩,xC⟩:=hC;replace hxV:=hxV.trans xC;replace rG:=rG.ext xC)|(refine A9 Z Z (A3 Z Z en16) (De g hcp pv uv tv rv sv fv _ _ (hg.ext (hX.trans hxV))) (fun vC wC hC=>?_);obtain⟨xC,pv',uv',tv',rv',sv',fv',ev',rfl,hlC⟩:=hC;replace hxV:=hxV.trans xC;replace s38:=s38.ext xC)|(refine cqC (c39 _ _ _ _ _ _ _ _ _ hlC s38) en39 fun wC xC=>?_;replace hxV:=hxV.trans xC)|refine Ly ?_|refine Dy (fun hh=>?_) fun hh=>?_))
          all_goals (try (exfalso;omega))
          all_goals exact Ad (k+1) ⟨rfl,rfl,rfl,rfl,rfl,rfl,rfl,trivial⟩ ⟨by omega,hxC.trans hxV⟩ (by omega)
      · (repeat' (first|refine Sy ?_|refine Dy (fun hh=>?_) fun hh=>?_))
        all_goals (try (exfalso;omega))
        exact Ad (i+1) ⟨rfl,rfl,rfl,rfl,trivial⟩ ⟨by omega,hxM⟩ (by omega)
  · (repeat' (first|(refine cqC (Bp _ (hT.ext hX)) en13 fun wA xA=>?_;replace hX:=hX.trans xA)|refine Ly ?_|refine Dy (fun hh=>?_) fun hh=>?_))
    all_goals (try (exfalso;omega))
    exact A5 Z Z ⟨rfl,hX⟩
end Go.Proofs.YtjicdgejhkgpgaaGreatDoor
