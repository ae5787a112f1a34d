/-
  Own text of the proof.
-/
import Derived.Test.YtjicdgejhkgpgaaGreatDoorYz
import Derived.Test.YtjicdgejhkgpgaaGreatDoorYu
import Derived.Test.YtjicdgejhkgpgaaGreatDoorYg
import Derived.Test.YtjicdgejhkgpgaaGreatDoorYy
import Derived.Test.YtjicdgejhkgpgaaGreatDoorYf
set_option linter.all false
set_option maxHeartbeats 8000000
set_option maxRecDepth 8000
namespace Go.Proofs.YtjicdgejhkgpgaaGreatDoor
section
open Go.RowKit Go.En Go.Pv Go.MapKept
theorem A0f {P:Program} {n:Nat} {L:List (Nat × Value)} {w:World} {fn:Func} {S:Value→World→Prop} (hr:fn.results=#[]) (hs:S (.tuple #[]) w):K n (bodyPost P fn (Rt S)) .ret L w:=fun a ha=>
  ⟨ha.nod,.tuple #[],results_none hr _ _ _,_,rfl,hs⟩
theorem B1e {P:Program} {o:Oper} {t:TypeId} (ho:o.op=.makeMap t none) (ρ:Operand→Value) (w:World):(execOp ρ o).run P w=.ok (.value (.map (some w.heap.size))) (w.alloc (.map #[] 0)):=by
  simp [execOp,ho,Instr.makeMap,go_sem]
theorem B9d {P:Program} {n:Nat} {Q:Post} {ops:List Oper} {w0:World} {o:Oper} {rest tl:List Oper} {G:List (Nat × Ent)} {d:Nat} {t:TypeId} (hg:ggst ops G o=some true) (hd:odst n o.dst=some d) (ho:o.op=.makeMap t none)
    (k:RQ P n ops w0 Q rest tl ((d,.r (fun u w=>∃ b,u=.map (some b)∧w0.heap.size≤b∧MapK (κ:=List UInt8) w b (fun _=>none)))::G)):RQ P n ops w0 Q (o::rest) tl G:=
  A0v (T:=.r (fun u w=>∃ b,u=.map (some b)∧w0.heap.size≤b∧MapK (κ:=List UInt8) w b (fun _=>none))) hg (C9 hd).2 (fun _ _ _ _ xe h=>by obtain⟨b,e,h1,h2⟩:=h;exact⟨b,e,h1,h2.ext xe⟩)
    (fun w _ hw _ ρ _=>.inl ⟨_,_,B1e ho ρ w,⟨w.heap.size,rfl,hw.size,⟨#[],0,(heap_alloc w _).1,stamped_empty 0,by simp,by simp⟩⟩,H5 _ _⟩) (by rw [(C9 hd).1];exact k)
attribute [local irreducible] E EL K Val Enters Rt Calls bodyPost Code.wp RQ
theorem C1p {g:Lg} (hok:LangOK g) (hro:∀ r∈g.rules,RulOK r) (h185:C1a g.lex) (ws:List Int) (id:Int):RunC g ws id:=by
  intro pv uv tv rv sv fv ev wv bI bU w hne hg hw hI hU
  have hw0:=hw
  obtain⟨wa,wc,rfl,_,_,_⟩:=hw.sl
  refine A6 (n:=46) (args:=[.agg #[pv,str g.oname,uv,tv,rv,int g.net.states,sv,fv,ev],.slice wa ws.length wc,.func (.func 71) #[] #[.pointer (some ⟨bI,0,none⟩),.pointer (some ⟨bU,0,none⟩)] ]) Tryz.func70 rfl Tryz.ntmps70 (by simp) ?_
  refine B4 ?_
  refine A9 ?_
  refine C6 Z Z Z Z (fun bG wG xG hbG rG0=>?_)
  have rG:Row wG bG 37 [pv,str g.oname,uv,tv,rv,int g.net.states,sv,fv,ev]:=rG0
  clear rG0
  by_cases hsz:ws.length≠0∧ws.length≤24
  · (repeat' ((fail_if_success (refine B4 (x:=(Code.region 2 _ _)) ?_));first|refine Sy ?_|refine Dy (fun hh=>?_) fun hh=>?_))
    all_goals (try (exfalso;omega))
    have csh:=fun wz (hx:Ext w wz)=>A6g g.rules rv wz (hg.rules.ext hx).any
    (repeat' (first|refine E_dm (id:=2) 7 B5 (by kernel_rfl) Z ?_|refine B9d Z Z Z ?_|refine C4 Z Z (fun _ _ _=>A5 Z Z en107) (fun wq xq=>csh wq (xG.trans xq)) ?_|(refine J4 (fun wq δ xq hR=>?_))|refine Sy ?_|refine yqY ?_|refine yqZ ?_))
    obtain⟨bT,eT,hgT,mT⟩:=hR 22 _ rfl
    refine eV Z Z (B6 (vs:=[(0,.agg #[pv,str g.oname,uv,tv,rv,int g.net.states,sv,fv,ev]),(1,.slice wa ws.length wc),(2,.bool (shrB g.rules)),(4,.map (some bT)),(5,.func (.func 71) #[] #[.pointer (some ⟨bI,0,none⟩),.pointer (some ⟨bU,0,none⟩)])]) (srC g pv uv tv rv sv fv ev (.slice wa ws.length wc) (.map (some bT)) (.func (.func 71) #[] #[.pointer (some ⟨bI,0,none⟩),.pointer (some ⟨bU,0,none⟩)]) (shrB g.rules) 0) Z (by rw [← eT];rfl) Z) ?_
    refine C2 Z Z Z Z (fun bS wS xS hbS rS=>?_)
    have hfv:=hg.final
    have hfv0:=hfv
    obtain⟨fa,fc,rfl,_,_,hfp⟩:=hfv.sl
    have hXS:Ext w wS:=xG.trans (xq.trans xS)
    replace rG:=rG.ext (xq.trans xS)
    (repeat' (first|refine Ly ?_))
    obtain⟨fnv,hfn⟩:∃ v:Value,v=.func (.func 71) #[] #[.pointer (some ⟨bI,0,none⟩),.pointer (some ⟨bU,0,none⟩)]:=⟨_,rfl⟩
    refine B0 (ι:=Nat × Nat) (fun z=>[(6,.pointer (some ⟨bS,0,none⟩)),(28,.slice fa g.net.final.length fc),(29,int g.net.final.length),(30,int z.1)])
      (fun z wr=>z.1≤g.net.final.length∧Kx (fun b=>b=bS) wS wr∧Row wr bS 178 (srC g pv uv tv rv sv (.slice fa g.net.final.length fc) ev (.slice wa ws.length wc) (.map (some bT)) fnv (shrB g.rules) z.2)∧MaskIs z.2 (fun q=>(g.net.final.take z.1).contains q)) (fun z=>g.net.final.length-z.1) (0,0)
      ⟨rfl,rfl,rfl,rfl,trivial⟩ ⟨Nat.zero_le _,Kx.of_ext (Ext.refl _),by rw [hfn];exact rS,Y2 A3u (fun q=>by simp)⟩ ?_
    rintro⟨i,m⟩ wr ⟨hi,hk,hrow,hM⟩
    dsimp only at hi hk hrow hM ⊢
    have hrow0:=hrow
    unfold srC at hrow
    have hlT:=hM.lt
    have hbS2:w.heap.size≤bS:=by have:=xG.size;have:=xq.size;omega
    have hfr:=hfv0.move (G':=Tt) (fun b hb hlt=>⟨trivial,(hk.block b (Nat.lt_of_lt_of_le hlt hXS.size) (fun e=>by omega)).trans (hXS.block hlt)⟩)
    by_cases hlt:i<g.net.final.length
    · obtain⟨b,off,rfl⟩:=hfp (by omega)
      obtain⟨q,hqi⟩:∃ q,g.net.final[i]?=some q:=⟨_,List.getElem?_eq_getElem hlt⟩
      have hcq:=(Go.Pv.int_elem hfr hqi).one
      obtain⟨hq0,hq1⟩:=hok.net.final q (List.mem_of_getElem? hqi)
      obtain⟨t,rfl⟩:∃ t:Nat,q=(t:Int):=⟨q.toNat,by omega⟩
      have ht24:t<24:=by have:=hok.states;omega
      have h2t:2 ^ t<4294967296:=Nat.pow_lt_pow_right (by decide) (show t<32 by omega)
      (repeat' (first|refine E_dm (id:=6) 9 B5 (by kernel_rfl) Z ?_|refine yV Z Z (fun _ _ _=>A9b (q:=t) Z Z Z (by omega)) ?_|refine yV Z Z (fun _ _ _=>B3d (a:=m) (b:=2 ^ t) Z Z Z hlT h2t) ?_|refine eV Z Z (A0 (m:=i) Z Z Z (by first|rfl|omega) (by omega)) ?_|(refine J4 (fun wq δ xq hR=>?_))|refine Ly ?_|refine Dy (fun hh=>?_) fun hh=>?_|refine yqY ?_|refine yqZ ?_))
      all_goals (try (exfalso;omega))
      refine J0 Z Z Z Z Z Z Z (hrow.ext xq) (Nat.le_of_ble_eq_true rfl) (fun wU rU kU _=>?_)
      have rU2:Row wU bS 178 (srC g pv uv tv rv sv (.slice (some ⟨b,off,none⟩) g.net.final.length fc) ev (.slice wa ws.length wc) (.map (some bT)) fnv (shrB g.rules) (m ||| 2 ^ t)):=rU
      refine A2b ?_
      (repeat' (first|refine Sy ?_))
      refine B3 (i+1,m ||| 2 ^ t) ⟨rfl,rfl,rfl,rfl,trivial⟩ ⟨by dsimp only;omega,(hk.trans (Kx.of_ext xq)).trans (Kx.of_kb kU rfl),rU2,Y2 (B1o hM ht24) (fun q=>by
        obtain⟨h1,h2⟩:=List.getElem?_eq_some_iff.1 hqi
        dsimp only
        rw [List.take_succ_eq_append_getElem h1,h2]
        simp;congr 1)⟩ (by dsimp only;omega)
    · obtain rfl:i=g.net.final.length:=by omega
      rw [List.take_length] at hM
      have hT1:=mT.lt
      have zq:=xq.size
      have zG:=xG.size
      have zS:=xS.size
      have hUl:=hU.lt
      have hIl:=hI.lt
      have hsame:∀ b,b<w.heap.size→wr.heap[b]?=w.heap[b]?:=fun b hlt=>(hk.block b (Nat.lt_of_lt_of_le hlt hXS.size) (fun e=>by omega)).trans (hXS.block hlt)
      have hmv:∀ b,b≠bU→b<w.heap.size→(b≠bT∧b≠bU)∧wr.heap[b]?=w.heap[b]?:=fun b hb hlt=>⟨⟨fun e=>by omega,hb⟩,hsame b hlt⟩
      have hsr:Srch g ws id pv uv tv rv sv _ ev (.slice wa ws.length wc) m bS bT bI bU wr:=
        ⟨by rw [← hfn];exact hrow0,⟨fun _=>none,(mT.ext xS).same (hk.block bT (Nat.lt_of_lt_of_le hT1 zS) (fun e=>by omega)),fun k v h=>by cases h⟩,
          hg.segs.move hmv,hg.rules.move hmv,hg.steps.move hmv,hg.lex.move hmv,hw0.move hmv,(hsame bI hIl).trans hI,(hsame bU hUl).trans hU,⟨by omega,by omega⟩,⟨by omega,hne⟩,by omega⟩
      have cw:=B2z hok hro h185 (by omega:ws.length≤24) hM 4 [] (fun q=>q==0) 1 [] (.slice none 0 0) (.slice none 0 0) wr rfl (Y2 (B1o A3u (t:=0) (by omega)) (fun q=>by simp)) (fun x hx=>by cases hx) (by simp) hsr SlG.nil SlG.nil
      have hu:A1f g ws id=(Go.Pv.hereB (lxOf g ws) ws id [] (fun q=>q==0) []||belB (lxOf g ws) ws id 4 [] (fun q=>q==0) []):=by
        unfold A1f
        rw [decide_eq_true hsz.1,decide_eq_true hsz.2]
        simp [Go.Pv.hereB]
      rw [← hu] at cw
      (repeat' (first|(refine A8 Z Z (A5 Z Z C5w) cw (fun vC w7 hC=>?_);obtain⟨_,k7,t7,u7⟩:=hC)|refine Sy ?_|refine Dy (fun hh=>?_) fun hh=>?_))
      all_goals (try (exfalso;omega))
      refine A4m ?_
      exact A0f Z ⟨⟨k7.os.trans (hk.os.trans (Below.os hXS)),k7.tape.trans (hk.tape.trans (Below.tape hXS)),k7.output.trans (hk.output.trans (Below.output hXS)),Nat.le_trans hXS.size (Nat.le_trans hk.size k7.size),
        fun b hlt hn => (k7.block b (by have := hk.size; have := hXS.size; omega) (fun h => by rcases h with h | h; · omega
                                                                                               · exact hn h)).trans (hsame b hlt)⟩,u7⟩
  · have hf:A1f g ws id=false:=by
      unfold A1f
      have:(decide (ws.length≠0)&&decide (ws.length≤24))=false:=by
        cases h:(decide (ws.length≠0)&&decide (ws.length≤24)) with
        | false=>rfl
        | true=>rw [Bool.and_eq_true,decide_eq_true_eq,decide_eq_true_eq] at h;exact absurd h hsz
      rw [this,Bool.false_and]
    rw [hf]
    (repeat' ((fail_if_success (refine B4 (x:=(Code.region 2 _ _)) ?_));first|refine Sy ?_|refine Dy (fun hh=>?_) fun hh=>?_))
    all_goals (try (exfalso;omega))
    all_goals exact A0f Z ⟨Kx.of_ext xG,hU.ext xG⟩
end
section
open Go.RowKit Go.En Go.Pv
def sk (n:Note):Int × Int × Int × List UInt8:=(n.id,n.tier,n.parent,n.text)
theorem B5b {v:Value}:∀(ns:List Note) (j k:Nat) (n m:Note),ns[j]?=some n→k<7→B9 m=(B9 n).set k v→(ns.map B9).flatten.set (j*7+k) v=((ns.set j m).map B9).flatten
  | [],j,k,n,m,h,_,_=>by simp at h
  | x::r,0,k,n,m,h,hk,hm=>by
    simp at h;subst h
    rw [List.map_cons,List.flatten_cons,List.set_cons_zero,List.map_cons,List.flatten_cons,hm,Nat.zero_mul,Nat.zero_add,List.set_append_left _ _ (show k<(B9 x).length from hk)]
  | x::r,j+1,k,n,m,h,hk,hm=>by
    have h':r[j]?=some n:=by simpa using h
    have e:(j+1)*7+k=(B9 x).length+(j*7+k):=by show _=7+_;omega
    rw [List.map_cons,List.flatten_cons,List.set_cons_succ,List.map_cons,List.flatten_cons,e,List.set_append_right _ _ (by omega),Nat.add_sub_cancel_left,B5b r j k n m h' hk hm]
theorem A7h {v:Value} {ns:List Note} {j k:Nat} {n m:Note} (h:ns[j]?=some n) (hk:k<7) (hm:B9 m=(B9 n).set k v):(ns.map B9).flatten.take (j*7+k)++[v]++(ns.map B9).flatten.drop (j*7+k+1)=((ns.set j m).map B9).flatten:=by
  rw [← B5b ns j k n m h hk hm]
  have hl:j*7+k<(ns.map B9).flatten.length:=by
    rw [A7i]
    have:=(List.getElem?_eq_some_iff.1 h).1
    omega
  rw [List.set_eq_take_append_cons_drop,if_pos hl,List.append_assoc];rfl
theorem B6z {ns:List Note} {j:Nat} {n m:Note} (h:ns[j]?=some n) (hm:sk m=sk n):(ns.set j m).map sk=ns.map sk:=by
  rw [List.map_set,hm]
  refine List.ext_getElem? fun i=>?_
  by_cases e:j=i
  · subst e
    have hl:=(List.getElem?_eq_some_iff.1 h).1
    rw [List.getElem?_set_self (by rw [List.length_map];exact hl),List.getElem?_map,h];rfl
  · rw [List.getElem?_set_ne e]
attribute [local irreducible] E EL K Val Enters Rt Calls bodyPost Code.wp RQ
theorem B3r (d : Dc) (ns : List Note) (bN : Nat) (sv tv : Value) (t p f z : Int) (w : World) (hs : Sl w sv d.sp) (ht : Sl w tv d.tiers) (hN : NtAt w bN ns) (hl : ns.length ≤ 1000) :
    Calls Tryz.prog 79 #[.agg #[int d.rid,str d.rname,int d.len,int d.day,sv,tv,.slice (some ⟨bN,0,none⟩) ns.length ns.length],int t,int p,int f,int z] w (Rt fun _ w'=>(∃ ns',ns'.map sk=ns.map sk∧NtAt w' bN ns')∧Kx (fun b=>b=bN) w w'):=by
  obtain⟨sa,sc,rfl,_,_,_⟩:=hs.sl
  obtain⟨ta,tc,rfl,_,_,_⟩:=ht.sl
  have hbl:bN<w.heap.size:=hN.lt
  refine A6 (n:=47) (args:=[.agg #[int d.rid,str d.rname,int d.len,int d.day,.slice sa d.sp.length sc,.slice ta d.tiers.length tc,.slice (some ⟨bN,0,none⟩) ns.length ns.length],int t,int p,int f,int z]) Tryz.func79 rfl Tryz.ntmps79 (by simp) ?_
  refine B4 ?_
  refine A9 ?_
  refine C2 Z Z Z Z (fun bB wB xB hbB rB=>?_)
  have kx:=Kx.of_ext (T:=fun b=>b=bN) xB
  replace hN:=NtAt.ext hN xB
  have hBN:bB≠bN:=by omega
  (repeat' (first|refine Ly ?_))
  refine B0 (ι:=Nat × List Note) (fun x=>[(1,int t),(2,int p),(3,int f),(4,int z),(5,.pointer (some ⟨bB,0,none⟩)),(13,.slice (some ⟨bN,0,none⟩) ns.length ns.length),(14,int ns.length),(15,int x.1)])
    (fun x wr=>x.1≤ns.length∧x.2.map sk=ns.map sk∧NtAt wr bN x.2∧Kx (fun b=>b=bN) wB wr) (fun x=>ns.length-x.1) (0,ns)
    ⟨rfl,rfl,rfl,rfl,rfl,rfl,rfl,rfl,trivial⟩ ⟨Nat.zero_le _,rfl,hN,Kx.of_ext (Ext.refl _)⟩ ?_
  rintro⟨j,ms⟩ wr ⟨hj,hsk,hM,kr⟩
  dsimp only at hj hsk hM kr ⊢
  have hml:ms.length=ns.length:=by have:=congrArg List.length hsk;simpa using this
  replace kx:=kx.trans kr
  replace rB:=kr.row rB hBN
  by_cases hlt:j<ns.length
  · obtain⟨n,hjn⟩:∃ n,ms[j]?=some n:=⟨_,List.getElem?_eq_getElem (by omega)⟩
    have hxr:=Ext.refl wr
    have hat:At wr bN (0+j*7) (B9 n):=D7 (NtAt.sl hM (by omega)) hjn
    replace hat:At wr bN (0+j*7) [int n.id,int n.tier,int n.parent,int n.frm,int n.til,int n.rank,str n.text]:=hat
    (repeat' (first|refine eV Z Z (A0 (m:=j) Z Z Z Z (by omega)) ?_|(refine K5 Z Z Z Z Z Z Z Z Z Z Z Z Z Z Z (fun bV wV xV hbV rV=>?_);replace hxr:=hxr.trans xV;replace hat:=hat.ext xV;replace rB:=rB.ext xV;replace hM:=hM.ext xV)|refine eV Z Z (C3o (a:=n.rank) Z Z Z) ?_|refine Ly ?_|refine Dy (fun hh=>?_) fun hh=>?_))
    all_goals (try (exfalso;omega))
    · refine J0 Z Z Z Z Z Z Z hM (by rw [A7i];show 0+j*7+5+1≤_;omega) (fun wS rS kS _=>?_)
      have hput:=A7h (v:=int (IntKind.i64.wrap (n.rank+z))) (k:=5) (m:={ n with rank:=IntKind.i64.wrap (n.rank+z) }) hjn (by decide) rfl
      have hM2:NtAt wS bN (ms.set j { n with rank:=IntKind.i64.wrap (n.rank+z) }):=by
        unfold NtAt
        rw [← hput]
        rw [show 0+j*7+5=j*7+5 by omega] at rS
        exact rS
      have hsk2:=(B6z (m:={ n with rank:=IntKind.i64.wrap (n.rank+z) }) hjn rfl).trans hsk
      have k2:=(kr.trans (Kx.of_ext hxr)).trans (Kx.of_kb (T:=fun b=>b=bN) kS rfl)
      (repeat' (first|refine Sy ?_))
      all_goals (try (exfalso;omega))
      exact B3 (j+1,ms.set j { n with rank:=IntKind.i64.wrap (n.rank+z) }) ⟨rfl,rfl,rfl,rfl,rfl,rfl,rfl,rfl,trivial⟩ ⟨by dsimp only;omega,hsk2,hM2,k2⟩ (by dsimp only;omega)
    all_goals exact B3 (j+1,ms) ⟨rfl,rfl,rfl,rfl,rfl,rfl,rfl,rfl,trivial⟩ ⟨by dsimp only;omega,hsk,hM,kr.trans (Kx.of_ext hxr)⟩ (by dsimp only;omega)
  · (repeat' (first|refine Sy ?_|refine Dy (fun hh=>?_) fun hh=>?_))
    all_goals (try (exfalso;omega))
    exact A4m (A0f Z ⟨⟨ms,hsk,hM⟩,kx⟩)
end
section
open Go.RowKit Go.En Go.Pv
structure SkOK (d:Dc) (ns:List Note):Prop where
  len:ns.length≤14
  tier:∀ n∈ns,0≤n.tier∧n.tier<d.tiers.length
  one:∀ a∈ns,∀ b∈ns,a.id=b.id→a.tier=b.tier
theorem B7a {ns ms:List Note} (h:ms.map sk=ns.map sk) {a:Note} (ha:a∈ms):∃ b∈ns,sk b=sk a:=by
  have:sk a∈ns.map sk:=by rw [← h];exact List.mem_map.2 ⟨a,ha,rfl⟩
  obtain⟨b,hb,e⟩:=List.mem_map.1 this
  exact⟨b,hb,e⟩
theorem A4j {a b:Note} (h:sk a=sk b):a.id=b.id∧a.tier=b.tier∧a.parent=b.parent∧a.text=b.text:=by
  unfold sk at h
  injection h with h1 h2;injection h2 with h2 h3;injection h3 with h3 h4
  exact⟨h1,h2,h3,h4⟩
theorem SkOK.same {d:Dc} {ns ms:List Note} (h:SkOK d ns) (e:ms.map sk=ns.map sk):SkOK d ms where
  len:=by have:=congrArg List.length e;simp at this;have:=h.len;omega
  tier n hn:=by
    obtain⟨b,hb,hs⟩:=B7a e hn
    rw [← (A4j hs).2.1];exact h.tier b hb
  one a ha b hb hab:=by
    obtain⟨a',ha',h1⟩:=B7a e ha
    obtain⟨b',hb',h2⟩:=B7a e hb
    rw [← (A4j h1).2.1,← (A4j h2).2.1]
    exact h.one a' ha' b' hb' (by rw [(A4j h1).1,(A4j h2).1,hab])
theorem find_id {ns:List Note} {id:Int} (hq:∃ q∈ns,q.id=id):∃ q,ns[ns.findIdx fun n=>decide (n.id=id)]?=some q∧q.id=id:=by
  have hl:ns.findIdx (fun n=>decide (n.id=id))<ns.length:=List.findIdx_lt_length.2 (by obtain⟨q,h1,h2⟩:=hq;exact⟨q,h1,decide_eq_true h2⟩)
  refine⟨_,List.getElem?_eq_getElem hl,?_⟩
  have:=List.findIdx_getElem (w:=hl)
  simpa using this
theorem A9t {d:Dc} {id k:Int} {x:Note} (h:x∈M8 d id k):x∈d.notes∧x.tier=k∧x.parent=id:=by
  unfold M8 at h
  split at h
  · exact P3.1 ((H3 _).mem_iff.1 h)
  · cases h
attribute [local irreducible] E EL K Val Enters Rt Calls bodyPost Code.wp RQ
theorem B0d (d : Dc) (htl : d.tiers.length ≤ 6) (hT : ∀ (k : Nat) t, d.tiers[k]? = some t → t.parent < (k : Int)) (sv tv : Value) (w0 : World) (hs : Sl w0 sv d.sp) (ht : Sl w0 tv d.tiers) (bN : Nat) (hb0 : w0.heap.size ≤ bN) : ∀ (m : Nat) (ns : List Note) (id time : Int) (b : Bool) (w : World) (_ : Ext w0 w) (_ : NtAt w bN ns) (_ : SkOK d ns) (_ : ∃ q ∈ ns, q.id = id) (_ : ∀ q ∈ ns, q.id = id → (d.tiers.length : Int) ≤ q.tier + m),
    Calls Tryz.prog 82 #[.agg #[int d.rid,str d.rname,int d.len,int d.day,sv,tv,.slice (some ⟨bN,0,none⟩) ns.length ns.length],int id,int time,.bool b] w (Rt fun _ w'=>(∃ ns',ns'.map sk=ns.map sk∧NtAt w' bN ns')∧Kx (fun b=>b=bN) w w')
  | 0,ns,id,time,b,w,hx0,hN,hS,hq,hm=>by
    obtain⟨q,h1,h2⟩:=hq
    have:=hm q h1 h2
    have:=hS.tier q h1
    omega
  | m + 1, ns, id, time, b, w, hx0, hN, hS, hq, hm => by
    have ih:=B0d d htl hT sv tv w0 hs ht bN hb0 m
    have hs0:=hs
    have ht0:=ht
    obtain⟨sa,sc,rfl,_,_,_⟩:=hs.sl
    obtain⟨ta,tc,rfl,_,_,_⟩:=ht.sl
    have hbl:bN<w.heap.size:=Row.lt hN
    have hnl:=hS.len
    obtain⟨q0,hq0,hqi⟩:=find_id hq
    have c113:=fun wz (hz:Ext w wz)=>C3b { d with notes:=ns } (.agg #[int d.rid,str d.rname,int d.len,int d.day,.slice sa d.sp.length sc,.slice ta d.tiers.length tc,.slice (some ⟨bN,0,none⟩) ns.length ns.length]) id wz ⟨_,_,_,rfl,hs0.ext (hx0.trans hz),ht0.ext (hx0.trans hz),NtAt.sl (NtAt.ext hN hz) (by omega)⟩ hq
    obtain⟨k0,hk0⟩:∃ k,ns.findIdx (fun n=>decide (n.id=id))=k:=⟨_,rfl⟩
    dsimp only at c113
    rw [hk0] at c113 hq0
    have hkl:=(List.getElem?_eq_some_iff.1 hq0).1
    have hqt:=hS.tier q0 (List.mem_of_getElem? hq0)
    have hqm:=hm q0 (List.mem_of_getElem? hq0) hqi
    refine A6 (n:=73) (args:=[.agg #[int d.rid,str d.rname,int d.len,int d.day,.slice sa d.sp.length sc,.slice ta d.tiers.length tc,.slice (some ⟨bN,0,none⟩) ns.length ns.length],int id,int time,.bool b]) Tryz.func82 rfl Tryz.ntmps82 (by simp) ?_
    refine B4 ?_
    refine A9 ?_
    refine C2 Z Z Z Z (fun bB wB xB hbB rB=>?_)
    have hx:=xB
    have hBN:bB≠bN:=by omega
    (repeat' ((fail_if_success (refine B4 (x:=(Code.seq (Code.region 2 _ _) _)) ?_));first|(refine yN Z (fun wq xq=>?_);replace hx:=hx.trans xq;replace rB:=rB.ext xq)|refine yV Z Z (fun _ _ _=>A0 (m:=k0) Z Z Z (by first|rfl|omega) (by omega)) ?_|refine C4 Z Z (fun _ _ _=>A5 Z Z en113) (fun wq xz=>c113 wq (hx.trans xz)) ?_|refine Sy ?_|refine yqY ?_|refine yqZ ?_|refine E_dq B5 (by kernel_rfl) Z ?_))
    refine N8 (ι:=List Note) (fun _=>[(1,int id),(2,int time),(3,.bool b),(4,.pointer (some ⟨bB,0,none⟩)),(8,.pointer (some ⟨bN,0+k0*7,none⟩))])
      (fun ms wr=>ms.map sk=ns.map sk∧NtAt wr bN ms∧Kx (fun b=>b=bN) w wr∧Row wr bB 72 [int d.rid,str d.rname,int d.len,int d.day,.slice sa d.sp.length sc,.slice ta d.tiers.length tc,.slice (some ⟨bN,0,none⟩) ns.length ns.length]) ?_ ?_
    · replace hN:=NtAt.ext hN hx
      cases b
      · (repeat' (first|refine Sy ?_))
        refine J0 Z Z Z Z Z Z Z hN (by rw [A7i];show 0+k0*7+3+0+1≤_;omega) (fun wS rS kS _=>?_)
        have hput:=A7h (v:=int time) (k:=3) (m:={ q0 with frm:=time }) hq0 (by decide) rfl
        have hM2:NtAt wS bN (ns.set k0 { q0 with frm:=time }):=by
          unfold NtAt
          rw [← hput]
          rw [show 0+k0*7+3+0=k0*7+3 by omega] at rS
          exact rS
        have k2:=Kx.of_kb (T:=fun b=>b=bN) kS rfl
        (repeat' (first|refine Sy ?_))
        exact G6 (ns.set k0 { q0 with frm:=time }) ⟨rfl,rfl,rfl,rfl,rfl,trivial⟩ ⟨B6z hq0 rfl,hM2,(Kx.of_ext hx).trans k2,k2.row rB hBN⟩
      · (repeat' (first|refine Sy ?_))
        refine J0 Z Z Z Z Z Z Z hN (by rw [A7i];show 0+k0*7+3+1+1≤_;omega) (fun wS rS kS _=>?_)
        have hput:=A7h (v:=int time) (k:=4) (m:={ q0 with til:=time }) hq0 (by decide) rfl
        have hM2:NtAt wS bN (ns.set k0 { q0 with til:=time }):=by
          unfold NtAt
          rw [← hput]
          rw [show 0+k0*7+3+1=k0*7+4 by omega] at rS
          exact rS
        have k2:=Kx.of_kb (T:=fun b=>b=bN) kS rfl
        (repeat' (first|refine Sy ?_))
        exact G6 (ns.set k0 { q0 with til:=time }) ⟨rfl,rfl,rfl,rfl,rfl,trivial⟩ ⟨B6z hq0 rfl,hM2,(Kx.of_ext hx).trans k2,k2.row rB hBN⟩
    · rintro ms w1 ⟨hsk,hM,kx,rB⟩
      have hml:ms.length=ns.length:=by have:=congrArg List.length hsk;simpa using this
      have hq1:∃ q1,ms[k0]?=some q1∧sk q1=sk q0:=by
        have h1:(ms.map sk)[k0]?=some (sk q0):=by rw [hsk,List.getElem?_map,hq0];rfl
        rw [List.getElem?_map] at h1
        cases h2:ms[k0]? with
        | none=>rw [h2] at h1;cases h1
        | some q1=>rw [h2] at h1;exact⟨q1,rfl,by simpa using h1⟩
      obtain⟨q1,hq1,hqs⟩:=hq1
      obtain⟨_,hqt1,_,_⟩:=A4j hqs
      have hx1:=Kx.from kx hx0 (fun b hb h=>by omega)
      have hat:At w1 bN (0+k0*7) [int q1.id,int q1.tier,int q1.parent,int q1.frm,int q1.til,int q1.rank,str q1.text]:=D7 (NtAt.sl hM (by omega)) hq1
      obtain⟨KS,hKS⟩:∃ l,tkF d.tiers q0.tier d.tiers.length=l:=⟨_,rfl⟩
      have hKl:=B9o d.tiers q0.tier d.tiers.length
      rw [hKS] at hKl
      have c114:=fun wz (hz:Ext w1 wz)=>B0u d.tiers (.slice ta d.tiers.length tc) q1.tier wz (ht0.ext (hx1.trans hz)) (by omega)
      rw [hqt1,if_pos hqt,hKS] at c114
      rw [hqt1] at hat
      refine B4 ?_
      refine E.sub (M:=[(1,int id),(2,int time),(3,.bool b),(4,.pointer (some ⟨bB,0,none⟩)),(8,.pointer (some ⟨bN,0+k0*7,none⟩))]) ⟨rfl,rfl,rfl,rfl,rfl,trivial⟩ ?_
      refine E_dm 9 B5 (by kernel_rfl) Z ?_
      (repeat' (first|(refine C8 (f:=114) (fun u w'=>SlG (fun b=>w1.heap.size≤b) w' u KS) (fun _=>#[.slice ta d.tiers.length tc,int q0.tier]) Z Z (fun _ _ _ _ xe h=>SlG.ext h xe) (fun _ _ _=>A5 Z Z en114) (fun wq _ xq _=>?_) ?_;exact C0 (c114 wq xq) (fun _ _ hh=>⟨SlG.wk hh.1 (fun b hb=>Nat.le_trans xq.size hb),hh.2⟩))|refine A5r Z Z Z Z (fun _=>rfl) ?_|(refine J4 (fun wO δ xq hR=>?_);have sK:=hR 35 _ rfl;obtain⟨kv,hkv⟩:∃ z,z=δ 35:=⟨_,rfl⟩;simp only [mat,vG];rw [← hkv] at sK ⊢;replace hx1:=hx1.trans xq;replace rB:=rB.ext xq;replace hM:=NtAt.ext hM xq;have hbO:bN<wO.heap.size:=(by have:=xq.size;have:=kx.size;omega);obtain⟨ka,kc,rfl,_,_,hkp⟩:=SlG.sl sK;refine eN ?_;refine G8 ?_;skip)|refine Sy ?_|refine yqY ?_|refine yqZ ?_))
      all_goals (try (exfalso;omega))
      refine B0 (ι:=Nat × List Note) (fun x=>[(1,int id),(2,int time),(3,.bool b),(4,.pointer (some ⟨bB,0,none⟩)),(35,.slice ka KS.length kc),(36,int KS.length),(37,int x.1)])
        (fun x wr=>x.1≤KS.length∧x.2.map sk=ns.map sk∧NtAt wr bN x.2∧Kx (fun b=>b=bN) wO wr) (fun x=>KS.length-x.1) (0,ms)
        ⟨rfl,rfl,rfl,rfl,rfl,rfl,rfl,trivial⟩ ⟨Nat.zero_le _,hsk,hM,Kx.of_ext (Ext.refl _)⟩ ?_
      have kxO:=kx.trans (Kx.of_ext (T:=fun b=>b=bN) xq)
      have rBO:=rB
      have sKO:=sK
      clear hM hsk hml hq1 hqs hat c114 rB sK
      rintro⟨i,ms⟩ wr ⟨hi,hsk,hM,kr⟩
      dsimp only at hi hsk hM kr ⊢
      have hml:ms.length=ns.length:=by have:=congrArg List.length hsk;simpa using this
      have hSm:=hS.same hsk
      have rB:=kr.row rBO hBN
      have sK:=SlG.move sKO (Kx.mv kr (G:=fun b=>w1.heap.size≤b) (fun b hb h=>by have:=kx.size;subst h;omega))
      have hx2:=Kx.from kr hx1 (fun b hb h=>by omega)
      by_cases hlt:i<KS.length
      · obtain⟨kb,ko,rfl⟩:=hkp (by omega)
        obtain⟨x,hxi⟩:∃ x,KS[i]?=some x:=⟨_,List.getElem?_eq_getElem hlt⟩
        obtain⟨j,t,rfl,htj,htp⟩:=tkF_mem (hKS▸List.mem_of_getElem? hxi)
        have hjt:=hT j t htj
        rw [htp] at hjt
        have hci:=int_elem sK hxi
        have hxr:=Ext.refl wr
        obtain⟨L,hL⟩:∃ l,(M8 { d with notes:=ms } id (j:Int)).map (·.id)=l:=⟨_,rfl⟩
        have hLm:∀ y∈L,(∃ q∈ms,q.id=y)∧∀ q∈ms,q.id=y→(d.tiers.length:Int)≤q.tier+m:=fun y hy=>by
          rw [← hL] at hy
          obtain⟨n,hn,rfl⟩:=List.mem_map.1 hy
          obtain⟨h1,h2,_⟩:=A9t hn
          refine⟨⟨n,h1,rfl⟩,fun q hqm' he=>?_⟩
          rw [hSm.one q hqm' n h1 he,h2]
          have:=hqm
          push_cast at this
          omega
        have c80:=fun wz (hz:Ext wr wz)=>A9u (d:={ d with notes:=ms }) (by show ms.length≤14;omega) (.agg #[int d.rid,str d.rname,int d.len,int d.day,.slice sa d.sp.length sc,.slice ta d.tiers.length tc,.slice (some ⟨bN,0,none⟩) ns.length ns.length]) id (j:Int) wz ⟨_,_,_,rfl,hs0.ext (hx2.trans hz),ht0.ext (hx2.trans hz),by have:=NtAt.sl (NtAt.ext hM hz) (by omega);rw [hml] at this;exact this⟩
        rw [hL] at c80
        have c78:=fun wz (hz:Ext wr wz)=>A6x { d with notes:=ms } (.agg #[int d.rid,str d.rname,int d.len,int d.day,.slice sa d.sp.length sc,.slice ta d.tiers.length tc,.slice (some ⟨bN,0,none⟩) ns.length ns.length]) (j:Int) wz ⟨_,_,_,rfl,hs0.ext (hx2.trans hz),ht0.ext (hx2.trans hz),by have:=NtAt.sl (NtAt.ext hM hz) (by omega);rw [hml] at this;exact this⟩
        have c82:=fun(y:Int) (hy:y∈L) (wz:World) (hz:Ext wr wz)=>ih ms y time b wz (hx2.trans hz) (NtAt.ext hM hz) hSm (hLm y hy).1 (hLm y hy).2
        rw [hml] at c82
        cases b
        · (repeat' (first|refine eV Z Z (A0 (m:=i) Z Z Z (by first|rfl|omega) (by omega)) ?_|(refine A8 Z Z (A5 Z Z en80) (c80 _ hxr) (fun vL wL hL2=>?_);obtain⟨xL,sL⟩:=hL2;replace hxr:=hxr.trans xL;replace rB:=rB.ext xL;obtain⟨la,lc,rfl,_,hlm,hlp⟩:=SlG.sl sL)|(refine A8 Z Z (A5 Z Z en78) (c78 _ hxr) (fun vZ wZ hZ=>?_);obtain⟨⟨zk,rfl⟩,xZ⟩:=hZ;replace hxr:=hxr.trans xZ;replace rB:=rB.ext xZ;replace sL:=SlG.ext sL xZ)|refine Ly ?_|refine Dy (fun hh=>?_) fun hh=>?_))
          all_goals (try (exfalso;omega))
          · exact B3 (i+1,ms) ⟨rfl,rfl,rfl,rfl,rfl,rfl,rfl,trivial⟩ ⟨by dsimp only;omega,hsk,NtAt.ext hM hxr,kr.trans (Kx.of_ext hxr)⟩ (by dsimp only;omega)
          · exact B3 (i+1,ms) ⟨rfl,rfl,rfl,rfl,rfl,rfl,rfl,trivial⟩ ⟨by dsimp only;omega,hsk,NtAt.ext hM hxr,kr.trans (Kx.of_ext hxr)⟩ (by dsimp only;omega)
          · obtain⟨lb,lo,rfl⟩:=hlp (by omega)
            obtain⟨y,hy⟩:∃ y,L[0]?=some y:=⟨_,List.getElem?_eq_getElem (by omega)⟩
            have hcy:=int_elem sL hy
            refine E_dm 6 B5 (by kernel_rfl) Z ?_
            (repeat' (first|refine yV Z Z (fun _ _ _=>A0 (m:=0) Z Z Z (by first|rfl|omega) (by omega)) ?_|(refine yN Z (fun wq xq=>?_);replace hxr:=hxr.trans xq)|(refine A8 Z Z (A5 Z Z en82) (c82 y (List.mem_of_getElem? hy) _ hxr) (fun vR wR hR=>?_);obtain⟨⟨m2,hm2,hN2⟩,kR⟩:=hR)|refine Sy ?_|refine yqY ?_|refine yqZ ?_))
            all_goals (try (exfalso;omega))
            exact B3 (i+1,m2) ⟨rfl,rfl,rfl,rfl,rfl,rfl,rfl,trivial⟩ ⟨by dsimp only;omega,hm2.trans hsk,hN2,(kr.trans (Kx.of_ext hxr)).trans kR⟩ (by dsimp only;omega)
        · (repeat' (first|refine eV Z Z (A0 (m:=i) Z Z Z (by first|rfl|omega) (by omega)) ?_|(refine A8 Z Z (A5 Z Z en80) (c80 _ hxr) (fun vL wL hL2=>?_);obtain⟨xL,sL⟩:=hL2;replace hxr:=hxr.trans xL;replace rB:=rB.ext xL;obtain⟨la,lc,rfl,_,hlm,hlp⟩:=SlG.sl sL)|(refine A8 Z Z (A5 Z Z en78) (c78 _ hxr) (fun vZ wZ hZ=>?_);obtain⟨⟨zk,rfl⟩,xZ⟩:=hZ;replace hxr:=hxr.trans xZ;replace rB:=rB.ext xZ;replace sL:=SlG.ext sL xZ)|refine Ly ?_|refine Dy (fun hh=>?_) fun hh=>?_))
          all_goals (try (exfalso;omega))
          · exact B3 (i+1,ms) ⟨rfl,rfl,rfl,rfl,rfl,rfl,rfl,trivial⟩ ⟨by dsimp only;omega,hsk,NtAt.ext hM hxr,kr.trans (Kx.of_ext hxr)⟩ (by dsimp only;omega)
          · exact B3 (i+1,ms) ⟨rfl,rfl,rfl,rfl,rfl,rfl,rfl,trivial⟩ ⟨by dsimp only;omega,hsk,NtAt.ext hM hxr,kr.trans (Kx.of_ext hxr)⟩ (by dsimp only;omega)
          · obtain⟨lb,lo,rfl⟩:=hlp (by omega)
            obtain⟨y,hy⟩:∃ y,L[L.length-1]?=some y:=⟨_,List.getElem?_eq_getElem (by omega)⟩
            have hcy:=int_elem sL hy
            refine E_dm 9 B5 (by kernel_rfl) Z ?_
            (repeat' (first|refine yV Z Z (fun _ _ _=>A0 (m:=L.length-1) Z Z Z (by first|rfl|omega) (by omega)) ?_|(refine yN Z (fun wq xq=>?_);replace hxr:=hxr.trans xq)|(refine A8 Z Z (A5 Z Z en82) (c82 y (List.mem_of_getElem? hy) _ hxr) (fun vR wR hR=>?_);obtain⟨⟨m2,hm2,hN2⟩,kR⟩:=hR)|refine Sy ?_|refine yqY ?_|refine yqZ ?_))
            all_goals (try (exfalso;omega))
            exact B3 (i+1,m2) ⟨rfl,rfl,rfl,rfl,rfl,rfl,rfl,trivial⟩ ⟨by dsimp only;omega,hm2.trans hsk,hN2,(kr.trans (Kx.of_ext hxr)).trans kR⟩ (by dsimp only;omega)
      · (repeat' (first|refine Sy ?_|refine Dy (fun hh=>?_) fun hh=>?_))
        all_goals (try (exfalso;omega))
        exact A4m (A0f Z ⟨⟨ms,hsk,hM⟩,kxO.trans kr⟩)
end
end Go.Proofs.YtjicdgejhkgpgaaGreatDoor