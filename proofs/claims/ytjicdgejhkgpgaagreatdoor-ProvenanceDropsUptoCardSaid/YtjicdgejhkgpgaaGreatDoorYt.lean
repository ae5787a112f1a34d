/-
  Own text of the proof.
-/
import Derived.Test.YtjicdgejhkgpgaaGreatDoorYs
import Derived.Test.YtjicdgejhkgpgaaGreatDoorYr
import Derived.Test.YtjicdgejhkgpgaaGreatDoorYd
set_option linter.all false
set_option maxHeartbeats 4000000
set_option maxRecDepth 8000
namespace Go.Proofs.YtjicdgejhkgpgaaGreatDoor
section
open Go.RowKit Go.En Go.Pv
theorem C4y:∀ {a b:List Int},a.Nodup→(∀ x∈a,x∈b)→a.length≤b.length
  | [],_,_,_=>Nat.zero_le _
  | x::r,b,h,hs=>by
    have hx:=hs x List.mem_cons_self
    have hn:=List.nodup_cons.1 h
    have:=C4y (a:=r) (b:=b.erase x) hn.2 (fun y hy=>(List.mem_erase_of_ne (fun e:y=x=>hn.1 (by rw [← e];exact hy))).2 (hs y (List.mem_cons_of_mem _ hy)))
    rw [List.length_erase_of_mem hx] at this
    have:0<b.length:=List.length_pos_of_mem hx
    rw [List.length_cons];omega
theorem nd_eq : ∀ {l s : List Int}, s.Nodup → (∀ x ∈ s, x ∈ l) → l.length ≤ s.length → l.Nodup := by
  intro l
  induction l with
  | nil=>intro _ _ _ _;exact List.nodup_nil
  | cons x r ih=>
    intro s hs hm hl
    by_cases hx:x∈r
    · have:=C4y hs (b:=r) (fun y hy=>by
        rcases List.mem_cons.1 (hm y hy) with rfl|h
        · exact hx
        · exact h)
      rw [List.length_cons] at hl;omega
    · refine List.nodup_cons.2 ⟨hx,ih (s:=s.erase x) (hs.erase x) (fun y hy=>?_) ?_⟩
      · have h1:=(List.Nodup.mem_erase_iff hs).1 hy
        rcases List.mem_cons.1 (hm y h1.2) with h|h
        · exact absurd h h1.1
        · exact h
      · have:=List.length_erase (a:=x) (l:=s)
        rw [this];rw [List.length_cons] at hl;split <;> omega
theorem C1y {l:List Int} (h:(L7 l).length=l.length):l.Nodup:=by
  obtain⟨h1,h2⟩:=A0b l
  exact nd_eq (h1.imp (fun h=>by omega)) (fun x hx=>(h2 x).1 hx) (by omega)
end
section
open Go.RowKit Go.En Go.Pv
def rulP (r:Rul):Prop:=r.to.length=r.frm.length∧r.frm.Nodup∧r.left.length≤2∧r.right.length≤2
attribute [local irreducible] E EL K Val Enters Rt Calls bodyPost Code.wp RQ
theorem A8n (segs:List Ph) (r:Rul) (hl:r.frm.length≤1048576) (pv fv tv lv rv:Value) (w:World) (hp:Sl w pv segs) (h0:Sl w fv r.frm) (h1:Sl w tv r.to) (h2:Sl w lv r.left) (h3:Sl w rv r.right) :
    Calls Tryz.prog 151 #[.agg #[pv],.agg #[fv,tv,lv,rv,.bool r.beg,.bool r.fin] ] w (Rt fun u w'=>(∃ e:Int,u=int e∧(e=0→rulP r))∧Ext w w'):=by
  have g0:=h0
  have g1:=h1
  have gp:=hp
  obtain⟨pa,pc,rfl,_,hpm,_⟩:=hp.sl
  obtain⟨fa,fc,rfl,_,hfm,hfp⟩:=h0.sl
  obtain⟨ta,tc,rfl,_,htm,htp⟩:=h1.sl
  obtain⟨la,lc,rfl,_,hlm,_⟩:=h2.sl
  obtain⟨ra,rc,rfl,_,hrm,_⟩:=h3.sl
  refine A6 (n:=70) (args:=[.agg #[.slice pa segs.length pc],.agg #[.slice fa r.frm.length fc,.slice ta r.to.length tc,.slice la r.left.length lc,.slice ra r.right.length rc,.bool r.beg,.bool r.fin] ]) Tryz.func151 rfl Tryz.ntmps151 (by simp) ?_
  refine B4 ?_
  refine A9 ?_
  refine C6 Z Z Z Z (fun bP wP xP hbP rP0=>?_)
  have rP:Row wP bP 25 [.slice pa segs.length pc]:=rP0
  clear rP0
  refine C6 Z Z Z Z (fun bR wR xR hbR rR0=>?_)
  have rR:Row wR bR 112 [.slice fa r.frm.length fc,.slice ta r.to.length tc,.slice la r.left.length lc,.slice ra r.right.length rc,.bool r.beg,.bool r.fin]:=rR0
  clear rR0
  replace rP:=rP.ext xR
  have hX:=xP.trans xR
  (repeat' (first|refine Ly ?_|refine Dy (fun hh=>?_) fun hh=>?_))
  all_goals (try (exfalso;omega))
  all_goals first
    | exact A4 Z Z ⟨⟨_,rfl,fun h=>absurd h (by decide)⟩,hX⟩
    | skip
  have hlen:r.to.length=r.frm.length:=by omega
  refine B0 (ι:=Nat) (fun i=>[(2,.pointer (some ⟨bP,0,none⟩)),(3,.pointer (some ⟨bR,0,none⟩)),(21,int r.frm.length),(22,int i)]) (fun i wr=>i≤r.frm.length∧Ext wR wr) (fun i=>r.frm.length-i) 0
    ⟨rfl,rfl,rfl,rfl,trivial⟩ ⟨Nat.zero_le _,Ext.refl _⟩ ?_
  rintro i wr ⟨hi,hx⟩
  replace rP:=rP.ext hx
  replace rR:=rR.ext hx
  have hXr:=hX.trans hx
  by_cases hlt:i<r.frm.length
  · obtain⟨fb,fo,rfl⟩:=hfp (by omega)
    obtain⟨tb,to_,rfl⟩:=htp (by omega)
    obtain⟨x,hxi⟩:∃ x,r.frm[i]?=some x:=⟨_,List.getElem?_eq_getElem hlt⟩
    obtain⟨y,hyi⟩:∃ y,r.to[i]?=some y:=⟨_,List.getElem?_eq_getElem (by omega)⟩
    have hatf:=int_elem (g0.ext hXr) hxi
    have hatt:=int_elem (g1.ext hXr) hyi
    have cx:=fun wz (xz:Ext wr wz)=>A3v segs _ x wz (gp.ext (hXr.trans xz))
    have cy:=fun wz (xz:Ext wr wz)=>A3v segs _ y wz (gp.ext (hXr.trans xz))
    obtain⟨b1,hb1⟩:∃ b,isB segs x=b:=⟨_,rfl⟩
    obtain⟨b2,hb2⟩:∃ b,isB segs y=b:=⟨_,rfl⟩
    rw [hb1] at cx
    rw [hb2] at cy
    cases b1
    all_goals (cases b2)
    all_goals (repeat' (first|refine yV Z Z (fun _ _ _=>A0 (m:=i) Z Z Z Z (by omega)) ?_|refine C4 Z Z (fun _ _ _=>A5 Z Z C5r) cx ?_|refine C4 Z Z (fun _ _ _=>A5 Z Z C5r) cy ?_|refine Sy ?_|refine Dy (fun hh=>?_) fun hh=>?_|refine yqY ?_|refine yqZ ?_|refine yqX (fun hh=>?_) fun hh=>?_|refine E_dq B5 (by kernel_rfl) Z ?_|refine yN Z (fun wq xq=>?_)|refine yO Z Z ?_))
    all_goals (try (exfalso;omega))
    all_goals first
      | exact A4 Z Z ⟨⟨_,rfl,fun h=>absurd h (by decide)⟩,hXr.trans xq⟩
      | exact B3 (i+1) ⟨rfl,rfl,rfl,rfl,trivial⟩ ⟨by omega,hx.trans xq⟩ (by omega)
  · obtain rfl:i=r.frm.length:=by omega
    have cs:=fun wz (xz:Ext wr wz)=>B6w r.frm _ wz (g0.ext (hXr.trans xz)) (by omega)
    (repeat' (first|refine C8 (f:=67) (fun u w'=>Sl w' u (L7 r.frm)) (fun _=>#[.slice fa r.frm.length fc]) Z Z (fun _ _ _ _ xe h=>SlG.ext h xe) (fun _ _ _=>A5 Z Z en67) (fun wq _ xq _=>C0 (cs wq xq) (fun _ _ hh=>by first|exact⟨hh.1,hh.2⟩|exact⟨hh.2,hh.1⟩)) ?_|refine A5r Z Z Z Z (fun _=>rfl) ?_|(refine J4 (fun wq δ xq hR=>?_);replace rR:=rR.ext xq;replace rP:=rP.ext xq)|refine Ly ?_|refine Dy (fun hh=>?_) fun hh=>?_|refine yqY ?_|refine yqZ ?_|refine yqX (fun hh=>?_) fun hh=>?_|refine E_dq B5 (by kernel_rfl) Z ?_))
    all_goals (try (exfalso;omega))
    all_goals first
      | exact A4 Z Z ⟨⟨_,rfl,fun h=>absurd h (by decide)⟩,hXr.trans xq⟩
      | exact A4 Z Z ⟨⟨_,rfl,fun _=>⟨hlen,C1y (by omega),by omega,by omega⟩⟩,hXr.trans xq⟩
end
section
open Go.RowKit Go.En Go.Pv
attribute [local irreducible] E EL K Val Enters Rt Calls bodyPost Code.wp RQ
theorem B1g (g:Lg) (hl:∀ r∈g.rules,r.frm.length≤1048576) (pv uv tv rv sv fv ev:Value) (w:World) (h:LangAt w g pv uv tv rv sv fv ev) :
    Calls Tryz.prog 119 #[.agg #[pv,str g.oname,uv,tv,rv,int g.net.states,sv,fv,ev] ] w (Rt fun u w'=>(∃ e:Int,u=int e∧(e=0→∀ r∈g.rules,rulP r))∧Ext w w'):=by
  have hr:=h.rules
  obtain⟨ra,rc,rfl,_,hrm,hrp⟩:=hr.sl
  refine A6 (n:=27) (args:=[.agg #[pv,str g.oname,uv,tv,.slice ra g.rules.length rc,int g.net.states,sv,fv,ev] ]) Tryz.func119 rfl Tryz.ntmps119 (by simp) ?_
  refine B4 ?_
  refine A9 ?_
  refine C6 Z Z Z Z (fun bX wX xX hbX rX0=>?_)
  have rX:Row wX bX 37 [pv,str g.oname,uv,tv,.slice ra g.rules.length rc,int g.net.states,sv,fv,ev]:=rX0
  clear rX0
  (repeat' (first|refine Ly ?_|refine Dy (fun hh=>?_) fun hh=>?_))
  all_goals (try (exfalso;omega))
  · exact A4 Z Z ⟨⟨_,rfl,fun h=>absurd h (by decide)⟩,xX⟩
  refine B0 (ι:=Nat) (fun i=>[(1,.pointer (some ⟨bX,0,none⟩)),(3,int i)]) (fun i wr=>i≤g.rules.length∧Ext wX wr∧∀(j:Nat) (r:Rul),j<i→g.rules[j]?=some r→rulP r) (fun i=>g.rules.length-i) 0
    ⟨rfl,rfl,trivial⟩ ⟨Nat.zero_le _,Ext.refl _,fun _ _ h=>absurd h (by omega)⟩ ?_
  rintro i wr ⟨hi,hx,hall⟩
  replace rX:=rX.ext hx
  have hX:=xX.trans hx
  by_cases hlt:i<g.rules.length
  · obtain⟨rb,ro,rfl⟩:=hrp (by omega)
    obtain⟨r,hri⟩:∃ r,g.rules[i]?=some r:=⟨_,List.getElem?_eq_getElem hlt⟩
    obtain⟨f0,k0,f1,k1,f2,k2,f3,k3,hat,hrep,h0,h1,h2,h3⟩:=A0d (hr.ext hX) hri
    have hs:Sl wr pv g.segs:=h.segs.ext hX
    have cc:=fun wz (xz:Ext wr wz)=>A8n g.segs r (hl r (List.mem_of_getElem? hri)) pv _ _ _ _ wz (hs.ext xz) (h0.ext xz) (h1.ext xz) (h2.ext xz) (h3.ext xz)
    have hI:At wr bX (0+0) [pv]:=At.sub (xs:=[]) (ys:=[pv]) (zs:=[str g.oname,uv,tv,.slice (some ⟨rb,ro,none⟩) g.rules.length rc,int g.net.states,sv,fv,ev]) rX.at
    (repeat' (first|refine yV Z Z (fun _ _ _=>A0 (m:=i) Z Z Z Z hlt) ?_|(refine N7 (fun u _=>∃ e:Int,u=int e∧(e=0→rulP r)) Z Z (fun _ _ _ _ _ h=>h) (fun w δ _ hs=>⟨δ 23,M2 Z Z,hs 23 (by decide) _ rfl⟩) ?_)|refine C8 (f:=151) (fun u w'=>∃ e:Int,u=int e∧(e=0→rulP r)) (fun _=>#[.agg #[pv],.agg #[.slice f0 r.frm.length k0,.slice f1 r.to.length k1,.slice f2 r.left.length k2,.slice f3 r.right.length k3,.bool r.beg,.bool r.fin] ]) Z Z (fun _ _ _ _ xe h=>h) (fun _ _ _=>A5 Z Z en151) (fun wq _ xq _=>C0 (cc wq xq) (fun _ _ hh=>by first|exact⟨hh.1,hh.2⟩|exact⟨hh.2,hh.1⟩)) ?_|refine Ly ?_|refine Dy (fun hh=>?_) fun hh=>?_|refine yqY ?_|refine yqZ ?_|refine E_dq B5 (by kernel_rfl) Z ?_))
    all_goals (try (exfalso;omega))
    refine J4 (fun wq δ xq hR=>?_)
    obtain⟨e,he0,he⟩:=hR 4 _ rfl
    obtain⟨e2,he2,_⟩:=hR 23 _ rfl
    simp only [mat,vG]
    rw [he0,he2]
    by_cases h00:e=0
    · subst h00
      have hr1:=he rfl
      (repeat' (first|refine Sy ?_|refine Dy (fun hh=>?_) fun hh=>?_))
      all_goals (try (exfalso;omega))
      all_goals (try (exact absurd rfl (by assumption)))
      refine B3 (i+1) ⟨rfl,rfl,trivial⟩ ⟨by omega,hx.trans xq,fun j r' hj hr'=>?_⟩ (by omega)
      by_cases e:j=i
      · subst e;rw [hri] at hr';cases hr';exact hr1
      · exact hall j r' (by omega) hr'
    · (repeat' (first|refine Sy ?_|refine Dy (fun hh=>?_) fun hh=>?_))
      all_goals first
        | exact absurd h00 (by assumption)
        | exact A4 Z Z ⟨⟨_,rfl,fun h=>absurd h h00⟩,hX.trans xq⟩
  · (repeat' (first|refine Ly ?_|refine Dy (fun hh=>?_) fun hh=>?_))
    all_goals (try (exfalso;omega))
    refine A4 Z Z ⟨⟨_,rfl,fun _ r hr=>?_⟩,hX⟩
    obtain⟨q,hq⟩:=List.getElem?_of_mem hr
    exact hall q r (by have:=(List.getElem?_eq_some_iff.1 hq).1;omega) hq
end
section
open Go.RowKit Go.En Go.Pv
structure LgBd (g:Lg):Prop where
  segs:∀ p∈g.segs,p.name.length≤1048576
  units:∀ u∈g.units,u.graph.length≤1048576
  letters:∀ l∈g.letters,∀ t∈l,t.l.length≤1048576
  lettersL:∀ l∈g.letters,l.length≤1048576
  oname:g.oname.length≤1048576
  rules:∀ r∈g.rules,r.frm.length≤1048576
  gloss:∀ e∈g.lex,∀ x∈e.senses,x.gloss.length≤1048576
attribute [local irreducible] E EL K Val Enters Rt Calls bodyPost Code.wp RQ
def chkP (g:Lg):Prop:=(∀ u∈g.units,1≤u.graph.length∧u.graph.length≤32∧u.segs.length≤3)∧(∀ r∈g.rules,rulP r)∧NetOK g.net∧lexP g.segs g.lex
theorem B2b (g:Lg) (hb:LgBd g) (hn:g.lex.length≤5) (pv uv tv rv sv fv ev:Value) (w:World) (h:LangAt w g pv uv tv rv sv fv ev):Calls Tryz.prog 87 #[.agg #[pv,str g.oname,uv,tv,rv,int g.net.states,sv,fv,ev] ] w (Rt fun u w'=>(∃ z:Int,u=int z∧(z=0→chkP g))∧Ext w w'):=by
  refine A6 (n:=46) (args:=[.agg #[pv,str g.oname,uv,tv,rv,int g.net.states,sv,fv,ev] ]) Tryz.func87 rfl Tryz.ntmps87 (by simp) ?_
  have hX:=Ext.refl w
  refine B4 ?_
  refine A9 ?_
  refine C2 Z Z Z Z (fun bX wX xX hbX rX=>?_)
  replace hX:=hX.trans xX;replace h:=h.ext xX
  have hI:At wX bX (0+0) [pv]:=At.sub (xs:=[]) (ys:=[pv]) (zs:=[str g.oname,uv,tv,rv,int g.net.states,sv,fv,ev]) rX.at
  have hO:At wX bX (0+1) [str g.oname,uv,tv]:=At.sub (xs:=[pv]) (ys:=[str g.oname,uv,tv]) (zs:=[rv,int g.net.states,sv,fv,ev]) rX.at
  have hN:At wX bX (0+5) [int g.net.states,sv,fv]:=At.sub (xs:=[pv,str g.oname,uv,tv,rv]) (ys:=[int g.net.states,sv,fv]) (zs:=[ev]) rX.at
  (repeat' (first|(refine A8 Z Z (A5 Z Z en117) (B2l g.segs hb.segs _ _ h.segs) (fun vC wC hC=>?_);obtain⟨⟨z1,rfl⟩,xC⟩:=hC;replace hX:=hX.trans xC;replace h:=h.ext xC;replace rX:=rX.ext xC;replace hI:=hI.ext xC;replace hO:=hO.ext xC;replace hN:=hN.ext xC)|(refine A8 Z Z (A5 Z Z en118) (A8o g.segs g.units g.letters hb.units hb.letters hb.lettersL g.oname hb.oname _ _ _ _ h.segs h.units h.letters) (fun vC wC hC=>?_);obtain⟨⟨z2,rfl,hz2⟩,xC⟩:=hC;replace hX:=hX.trans xC;replace h:=h.ext xC;replace rX:=rX.ext xC;replace hI:=hI.ext xC;replace hO:=hO.ext xC;replace hN:=hN.ext xC)|(refine A8 Z Z (A5 Z Z en119) (B1g g hb.rules _ _ _ _ _ _ _ _ h) (fun vC wC hC=>?_);obtain⟨⟨z3,rfl,hz3⟩,xC⟩:=hC;replace hX:=hX.trans xC;replace h:=h.ext xC;replace rX:=rX.ext xC;replace hI:=hI.ext xC;replace hO:=hO.ext xC;replace hN:=hN.ext xC)|(refine A8 Z Z (A5 Z Z en120) (B7s g.net _ _ _ h.steps h.final) (fun vC wC hC=>?_);obtain⟨⟨z4,rfl,hz4⟩,xC⟩:=hC;replace hX:=hX.trans xC;replace h:=h.ext xC;replace rX:=rX.ext xC;replace hI:=hI.ext xC;replace hO:=hO.ext xC;replace hN:=hN.ext xC)|(refine A8 Z Z (A5 Z Z en121) (A8r g.segs g.lex hb.gloss _ _ _ h.segs h.lex) (fun vC wC hC=>?_);obtain⟨⟨z5,rfl,hz5⟩,xC⟩:=hC;replace hX:=hX.trans xC;replace h:=h.ext xC;replace rX:=rX.ext xC;replace hI:=hI.ext xC;replace hO:=hO.ext xC;replace hN:=hN.ext xC)|(refine A8 Z Z (A5 Z Z en122) (A8s g.lex (fun e he=>((hz5 (by omega)).1 e he).2.2.1) hn _ _ h.lex) (fun vC wC hC=>?_);obtain⟨⟨z6,rfl⟩,xC⟩:=hC;replace hX:=hX.trans xC;replace h:=h.ext xC;replace rX:=rX.ext xC;replace hI:=hI.ext xC;replace hO:=hO.ext xC;replace hN:=hN.ext xC)|(refine A8 Z Z (A5 Z Z en123) (A8b g.lex hn _ _ h.lex) (fun vC wC hC=>?_);obtain⟨⟨z7,rfl⟩,xC⟩:=hC;replace hX:=hX.trans xC;replace h:=h.ext xC;replace rX:=rX.ext xC;replace hI:=hI.ext xC;replace hO:=hO.ext xC;replace hN:=hN.ext xC)|refine Ly ?_|refine Dy (fun hh=>?_) fun hh=>?_))
  all_goals first
    | exact A4 Z Z ⟨⟨_,rfl,fun h=>absurd h (by assumption)⟩,hX⟩
    | exact A4 Z Z ⟨⟨_,rfl,fun _=>⟨hz2 (by omega),hz3 (by omega),hz4 (by omega),hz5 (by omega)⟩⟩,hX⟩
theorem lang_ok {g : Lg} (h1 : g.segs.length ≤ 8) (h2 : g.units.length ≤ 10) (h3 : g.rules.length ≤ 2) (h4 : g.net.states ≤ 3) (h5 : g.net.steps.length ≤ 6) (h6 : g.net.final.length ≤ 3) (h7 : g.lex.length ≤ 5 ∧ ∀ e ∈ g.lex, B6y e) (h8 : ∀ r ∈ g.rules, r.frm.length ≤ 8) (h9 : chkP g) : LangOK g where
  nsegs:=h1
  nunits:=h2
  units:=h9.1
  nrules:=h3
  rules r hr:=⟨(h9.2.1 r hr).1,h8 r hr,(h9.2.1 r hr).2⟩
  net:=h9.2.2.1
  states:=h4
  nsteps:=h5
  nfinal:=h6
  nlex:=h7.1
  ids := by
    have hup:=h9.2.2.2.2
    rw [List.nodup_iff_pairwise_ne]
    have:g.lex.Pairwise (fun a b=>a.id<b.id):=by
      have:∀ l:List En,(∀(i:Nat) (a b:En),l[i]?=some a→l[i+1]?=some b→a.id<b.id)→l.Pairwise (fun a b=>a.id<b.id):=by
        intro l
        induction l with
        | nil=>intro _;exact List.Pairwise.nil
        | cons x r ih=>
          intro hl
          have hr:=ih (fun i a b ha hb=>hl (i+1) a b (by simpa using ha) (by simpa using hb))
          refine List.Pairwise.cons (fun y hy=>?_) hr
          cases r with
          | nil=>cases hy
          | cons z s=>
            have hz:x.id<z.id:=hl 0 x z rfl rfl
            rcases List.mem_cons.1 hy with rfl|hy
            · exact hz
            · have:=(List.pairwise_cons.1 hr).1 y hy;omega
      exact this _ hup
    rw [List.pairwise_map]
    exact this.imp (fun h=>by omega)
  lex e he := by
    obtain⟨⟨w1,w2,w3,w4⟩,e2,e3,e4⟩:=h9.2.2.2.1 e he
    obtain⟨s1,s2,s3⟩:=h7.2 e he
    have hid:1≤e.id:=by
      unfold D0 at w1
      rw [decide_eq_true_eq] at w1;exact w1.1
    refine⟨hid,w2,w3,s1,s2,fun f hf=>⟨?_,fun x hx=>?_⟩,e4,e2,e3⟩
    · rcases List.mem_cons.1 hf with rfl|hf
      · exact s1
      · exact s3 f hf
    · have:=B6d (w4 f hf) x hx
      omega
theorem B1z (g:Lg) (hb:LgBd g) (pv uv tv rv sv fv ev:Value) (w:World) (h:LangAt w g pv uv tv rv sv fv ev):Calls Tryz.prog 44 #[.agg #[pv,str g.oname,uv,tv,rv,int g.net.states,sv,fv,ev] ] w (Rt fun u w'=>(∃ b,u=.bool b∧(b=true→LangOK g))∧Ext w w'):=by
  have hp:=h.segs
  have hu:=h.units
  have hr:=h.rules
  have hs:=h.steps
  have hf:=h.final
  have hl:=h.lex
  obtain⟨pa,pc,rfl,_,_,_⟩:=hp.sl
  obtain⟨ua,uc,rfl,_,_,_⟩:=hu.sl
  obtain⟨ra,rc,rfl,_,hrm,hrp⟩:=hr.sl
  obtain⟨sa,sc,rfl,_,_,_⟩:=hs.sl
  obtain⟨fa,fc,rfl,_,_,_⟩:=hf.sl
  obtain⟨la,lc,rfl,_,_,_⟩:=hl.sl
  refine A6 (n:=66) (args:=[.agg #[.slice pa g.segs.length pc,str g.oname,.slice ua g.units.length uc,tv,.slice ra g.rules.length rc,int g.net.states,.slice sa g.net.steps.length sc,.slice fa g.net.final.length fc,.slice la g.lex.length lc] ]) Tryz.func44 rfl Tryz.ntmps44 (by simp) ?_
  have hX:=Ext.refl w
  refine B4 ?_
  refine A9 ?_
  refine C2 Z Z Z Z (fun bX wX xX hbX rX=>?_)
  replace hX:=hX.trans xX;replace h:=h.ext xX;replace hl:=hl.ext xX;replace hr:=hr.ext xX
  (repeat' (first|(refine A8 Z Z (A5 Z Z en86) (B3p g.lex _ _ hl) (fun vC wC hC=>?_);obtain⟨⟨bs,rfl,hbs⟩,xC⟩:=hC;replace hX:=hX.trans xC;replace h:=h.ext xC;replace hl:=hl.ext xC;replace hr:=hr.ext xC;replace rX:=rX.ext xC) <;> cases bs|refine Ly ?_|refine Dy (fun hh=>?_) fun hh=>?_))
  all_goals (try (exfalso;omega))
  all_goals first
    | exact A4 Z Z ⟨⟨_,rfl,fun h=>Bool.noConfusion h⟩,hX⟩
    | skip
  have hsm:=hbs rfl
  refine B0 (ι:=Nat) (fun i=>[(1,.pointer (some ⟨bX,0,none⟩)),(3,int i)]) (fun i wr=>i≤g.rules.length∧Ext wC wr∧∀(j:Nat) (r:Rul),j<i→g.rules[j]?=some r→r.frm.length≤8) (fun i=>g.rules.length-i) 0
    ⟨rfl,rfl,trivial⟩ ⟨Nat.zero_le _,Ext.refl _,fun _ _ h=>absurd h (by omega)⟩ ?_
  rintro i wr ⟨hi,hx,hall⟩
  replace rX:=rX.ext hx;replace hX:=hX.trans hx;replace h:=h.ext hx;replace hr:=hr.ext hx
  by_cases hlt:i<g.rules.length
  · obtain⟨b,off,rfl⟩:=hrp (by omega)
    obtain⟨r,hri⟩:∃ r,g.rules[i]?=some r:=⟨_,List.getElem?_eq_getElem hlt⟩
    obtain⟨f0,k0,f1,k1,f2,k2,f3,k3,hat,_⟩:=A0d hr hri
    (repeat' (first|refine eV Z Z (A0 (m:=i) Z Z Z (by first|rfl|omega) (by omega)) ?_|refine Ly ?_|refine Dy (fun hh=>?_) fun hh=>?_))
    all_goals (try (exfalso;omega))
    · exact A4 Z Z ⟨⟨_,rfl,fun h=>Bool.noConfusion h⟩,hX⟩
    · refine B3 (i+1) ⟨rfl,rfl,trivial⟩ ⟨by omega,hx,fun j r' hj hr'=>?_⟩ (by omega)
      by_cases e:j=i
      · subst e;rw [hri] at hr';cases hr';omega
      · exact hall j r' (by omega) hr'
  · have h8:∀ r∈g.rules,r.frm.length≤8:=fun r hr=>by
      obtain⟨j,hj⟩:=List.getElem?_of_mem hr
      exact hall j r (by have:=(List.getElem?_eq_some_iff.1 hj).1;omega) hj
    (repeat' (first|(refine A8 Z Z (A5 Z Z en87) (B2b g hb hsm.1 _ _ _ _ _ _ _ _ h) (fun vC wC hC=>?_);obtain⟨⟨z,rfl,hz⟩,xC⟩:=hC;replace hX:=hX.trans xC)|refine Ly ?_|refine Dy (fun hh=>?_) fun hh=>?_))
    all_goals (try (exfalso;omega))
    all_goals first
      | exact A4 Z Z ⟨⟨_,rfl,fun h=>Bool.noConfusion h⟩,hX⟩
      | exact A4 Z Z ⟨⟨_,rfl,fun h=>lang_ok (by omega) (by omega) (by omega) (by omega) (by omega) (by omega) hsm h8 (hz (by first|omega|(rw [decide_eq_true_eq] at h;exact h)))⟩,hX⟩
end
end Go.Proofs.YtjicdgejhkgpgaaGreatDoor