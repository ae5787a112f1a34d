/-
  Own text of the proof.
-/
import Derived.Test.YtjicdgejhkgpgaaGreatDoorYl
import Derived.Test.YtjicdgejhkgpgaaGreatDoorYf
import Derived.Test.YtjicdgejhkgpgaaGreatDoorYd
import Derived.Test.YtjicdgejhkgpgaaGreatDoorYm
set_option linter.all false
set_option maxHeartbeats 4000000
set_option maxRecDepth 8000
namespace Go.Proofs.YtjicdgejhkgpgaaGreatDoor
section
open Go.RowKit Go.En Go.Pv
theorem B3l {G:Nat→Prop} {w:World}:∀ l:List Txt,AtsG G w l (l.map fun t=>[str t.l])
  | []=>trivial
  | _::r=>⟨rfl,B3l r⟩
theorem A9h:∀ l:List Txt,(l.map fun t=>[str t.l]).flatten=l.map fun t=>str t.l
  | []=>rfl
  | _::r=>by rw [List.map_cons,List.flatten_cons,A9h r];rfl
attribute [local irreducible] E EL K Val Enters Rt Calls bodyPost Code.wp RQ
theorem B3j (segs:List Ph) (us:List Unt) (hg:∀ u∈us,u.graph.length≤1048576) (nm:List UInt8) (pv uv tv:Value) (w:World) (hp:Sl w pv segs) (hu:Sl w uv us) (i:Nat) (u:Unt) (hui:us[i]?=some u) :
    Calls Tryz.prog 148 #[.agg #[pv],.agg #[str nm,uv,tv],int i] w (Rt fun r w'=>(∃ e:Int,r=int e∧(e=0→1≤u.graph.length∧u.graph.length≤32∧u.segs.length≤3))∧Ext w w'):=by
  have hu0:=hu
  obtain⟨pa,pc,rfl,_,hpm,hpp⟩:=hp.sl
  obtain⟨ua,uc,rfl,_,hum,hup⟩:=hu.sl
  have hil:=(List.getElem?_eq_some_iff.1 hui).1
  obtain⟨ub,uo,rfl⟩:=hup (by omega)
  refine A6 (n:=67) (args:=[.agg #[.slice pa segs.length pc],.agg #[str nm,.slice (some ⟨ub,uo,none⟩) us.length uc,tv],int i]) Tryz.func148 rfl Tryz.ntmps148 (by simp) ?_
  refine B4 ?_
  refine A9 ?_
  refine C6 Z Z Z Z (fun bP wP xP hbP rP0=>?_)
  have rP:Row wP bP 25 [.slice pa segs.length pc]:=rP0
  clear rP0
  refine C6 Z Z Z Z (fun bO wO xO hbO rO0=>?_)
  have rO:Row wO bO 29 [str nm,.slice (some ⟨ub,uo,none⟩) us.length uc,tv]:=rO0
  clear rO0
  replace rP:=rP.ext xO
  have hX:=xP.trans xO
  obtain⟨a0,c0,hat,hrep,hsg⟩:=V6 (hu0.ext hX) hui
  (repeat' (first|refine eV Z Z (A0 (m:=i) Z Z Z Z hil) ?_|refine C3 Z Z Z (fun bA wA xA hbA rA=>?_)|refine Ly ?_))
  refine B7 (cs:=[str u.graph,.slice a0 u.segs.length c0]) rA xA (Nat.le_of_eq hbA.symm) Z Z Z Z Z Z Z Z (Nat.le_refl _) (fun w3 rA1 x3 k3=>?_)
  have rU:Row w3 bA 108 [str u.graph,.slice a0 u.segs.length c0]:=rA1
  clear rA rA1
  have hX3:=hX.trans x3
  replace rP:=rP.ext x3
  replace rO:=rO.ext x3
  have cl:=A2v u.graph (hg u (List.mem_of_getElem? hui)) w3
  (repeat' ((fail_if_success (refine B4 (x:=(Code.region 4 _ _)) ?_));first|(refine A8 Z Z (A5 Z Z en149) cl (fun vC wC hC=>?_);obtain⟨⟨bC,rfl,hbC⟩,xC⟩:=hC;cases bC)|refine Ly ?_))
  · exact A4 Z Z ⟨⟨_,rfl,fun h=>absurd h (by decide)⟩,hX3.trans xC⟩
  · have hgl:=hbC rfl
    clear hbC
    replace rP:=rP.ext xC
    replace rO:=rO.ext xC
    replace rU:=rU.ext xC
    have hXC:=hX3.trans xC
    (repeat' (first|refine Sy ?_))
    refine B0 (ι:=Nat) (fun j=>[(2,int i),(3,.pointer (some ⟨bP,0,none⟩)),(4,.pointer (some ⟨bO,0,none⟩)),(7,.pointer (some ⟨bA,0,none⟩)),(8,int j)]) (fun j wr=>j≤i∧Ext wC wr) (fun j=>i-j) 0
      ⟨rfl,rfl,rfl,rfl,rfl,trivial⟩ ⟨Nat.zero_le _,Ext.refl _⟩ ?_
    rintro j wr ⟨hj,hx⟩
    have hXr:=hXC.trans hx
    replace rP:=rP.ext hx
    replace rO:=rO.ext hx
    replace rU:=rU.ext hx
    by_cases hlt:j<i
    · obtain⟨q,hq⟩:∃ q,us[j]?=some q:=⟨_,List.getElem?_eq_getElem (by omega)⟩
      obtain⟨a1,c1,hatq,_,_⟩:=V6 (hu0.ext hXr) hq
      (repeat' (first|refine yV Z Z (fun _ _ _=>A0 (m:=j) Z Z Z Z (by omega)) ?_|refine Sy ?_|refine Dy (fun hh=>?_) fun hh=>?_|refine yqY ?_|refine yqZ ?_|refine yqX (fun hh=>?_) fun hh=>?_|refine E_dq B5 (by kernel_rfl) Z ?_|refine yN Z (fun wq xq=>?_)))
      all_goals (try (exfalso;omega))
      all_goals first
        | exact A4 Z Z ⟨⟨_,rfl,fun h=>absurd h (by decide)⟩,hXr.trans xq⟩
        | exact B3 (j+1) ⟨rfl,rfl,rfl,rfl,rfl,trivial⟩ ⟨by omega,hx.trans xq⟩ (by omega)
    · obtain rfl:j=i:=by omega
      (repeat' (first|refine Ly ?_|refine Dy (fun hh=>?_) fun hh=>?_))
      all_goals (try (exfalso;omega))
      all_goals first
        | exact A4 Z Z ⟨⟨_,rfl,fun h=>absurd h (by decide)⟩,hXr⟩
        | skip
      have hgr:1≤u.graph.length∧u.graph.length≤32∧u.segs.length≤3:=by omega
      obtain⟨_,_,he,_,hsm,hsp⟩:=hsg.sl
      cases he
      refine B0 (ι:=Nat) (fun k=>[(3,.pointer (some ⟨bP,0,none⟩)),(7,.pointer (some ⟨bA,0,none⟩)),(9,int k)]) (fun k wk=>k≤u.segs.length∧Ext wr wk) (fun k=>u.segs.length-k) 0
        ⟨rfl,rfl,rfl,trivial⟩ ⟨Nat.zero_le _,Ext.refl _⟩ ?_
      rintro k wk ⟨hk,hxk⟩
      replace rP:=rP.ext hxk
      replace rO:=rO.ext hxk
      replace rU:=rU.ext hxk
      have hXk:=hXr.trans hxk
      by_cases hlk:k<u.segs.length
      · obtain⟨sb,so,rfl⟩:=hsp (by omega)
        obtain⟨z,hz⟩:∃ z,u.segs[k]?=some z:=⟨_,List.getElem?_eq_getElem hlk⟩
        have hatz:=int_elem (hsg.ext ((x3.trans xC).trans (hx.trans hxk))) hz
        (repeat' (first|refine yV Z Z (fun _ _ _=>A0 (m:=k) Z Z Z Z (by omega)) ?_|refine Ly ?_|refine Dy (fun hh=>?_) fun hh=>?_|refine yqY ?_|refine yqZ ?_|refine yqX (fun hh=>?_) fun hh=>?_|refine E_dq B5 (by kernel_rfl) Z ?_|refine yN Z (fun wq xq=>?_)|refine yO Z Z ?_))
        all_goals (try (exfalso;omega))
        all_goals first
          | exact A4 Z Z ⟨⟨_,rfl,fun _=>hgr⟩,hXk.trans xq⟩
          | exact B3 (k+1) ⟨rfl,rfl,rfl,trivial⟩ ⟨by omega,hxk.trans xq⟩ (by omega)
      · (repeat' (first|refine Ly ?_|refine Dy (fun hh=>?_) fun hh=>?_))
        all_goals (try (exfalso;omega))
        exact A4 Z Z ⟨⟨_,rfl,fun _=>hgr⟩,hXk⟩
theorem A8o (segs:List Ph) (us:List Unt) (tx:List (List Txt)) (hg:∀ u∈us,u.graph.length≤1048576) (htx:∀ l∈tx,∀ t∈l,t.l.length≤1048576) (htl:∀ l∈tx,l.length≤1048576) (nm:List UInt8) (hnm:nm.length≤1048576) (pv uv tv:Value) (w:World) (hp:Sl w pv segs) (hu:Sl w uv us) (ht:Sl w tv tx) :
    Calls Tryz.prog 118 #[.agg #[pv],.agg #[str nm,uv,tv] ] w (Rt fun r w'=>(∃ e:Int,r=int e∧(e=0→∀ u∈us,1≤u.graph.length∧u.graph.length≤32∧u.segs.length≤3))∧Ext w w'):=by
  have hu0:=hu
  have ht0:=ht
  have hp0:=hp
  obtain⟨pa,pc,rfl,_,hpm,hpp⟩:=hp.sl
  obtain⟨ua,uc,rfl,_,hum,hup⟩:=hu.sl
  obtain⟨ta,tc,rfl,_,htm,htp⟩:=ht.sl
  refine A6 (n:=79) (args:=[.agg #[.slice pa segs.length pc],.agg #[str nm,.slice ua us.length uc,.slice ta tx.length tc] ]) Tryz.func118 rfl Tryz.ntmps118 (by simp) ?_
  refine B4 ?_
  refine A9 ?_
  refine C6 Z Z Z Z (fun bP wP xP hbP rP0=>?_)
  have rP:Row wP bP 25 [.slice pa segs.length pc]:=rP0
  clear rP0
  refine C6 Z Z Z Z (fun bO wO xO hbO rO0=>?_)
  have rO:Row wO bO 29 [str nm,.slice ua us.length uc,.slice ta tx.length tc]:=rO0
  clear rO0
  replace rP:=rP.ext xO
  have hX:=xP.trans xO
  have cn:=A9l nm wO (by omega)
  (repeat' ((fail_if_success (refine B4 (x:=(Code.region 3 _ _)) ?_));first|(refine A8 Z Z (A5 Z Z en147) cn (fun vC wC hC=>?_);obtain⟨⟨bC,rfl⟩,xC⟩:=hC;cases bC)|refine Ly ?_))
  · exact A4 Z Z ⟨⟨_,rfl,fun h=>absurd h (by decide)⟩,hX.trans xC⟩
  replace rP:=rP.ext xC
  replace rO:=rO.ext xC
  replace hX:=hX.trans xC
  (repeat' (first|refine Ly ?_|refine Dy (fun hh=>?_) fun hh=>?_))
  · exact A4 Z Z ⟨⟨_,rfl,fun h=>absurd h (by decide)⟩,hX⟩
  refine B0 (ι:=Nat) (fun i=>[(2,.pointer (some ⟨bP,0,none⟩)),(3,.pointer (some ⟨bO,0,none⟩)),(5,int i)]) (fun i wr=>i≤us.length∧Ext wC wr∧∀(j:Nat) (u:Unt),j<i→us[j]?=some u→1≤u.graph.length∧u.graph.length≤32∧u.segs.length≤3) (fun i=>us.length-i) 0
    ⟨rfl,rfl,rfl,trivial⟩ ⟨Nat.zero_le _,Ext.refl _,fun _ _ h=>absurd h (by omega)⟩ ?_
  rintro i wr ⟨hi,hx,hall⟩
  replace rP:=rP.ext hx
  replace rO:=rO.ext hx
  have hXr:=hX.trans hx
  by_cases hlt:i<us.length
  · obtain⟨u,hui⟩:∃ u,us[i]?=some u:=⟨_,List.getElem?_eq_getElem hlt⟩
    have cu:=B3j segs us hg nm _ _ (.slice ta tx.length tc) wr (hp0.ext hXr) (hu0.ext hXr) i u hui
    (repeat' ((fail_if_success (refine B4 (x:=(Code.region 9 _ _)) ?_));first|(refine A8 Z Z (A5 Z Z en148) cu (fun vD wD hD=>?_);obtain⟨⟨e,rfl,he⟩,xD⟩:=hD)|refine Ly ?_|refine Dy (fun hh=>?_) fun hh=>?_))
    all_goals (try (exfalso;omega))
    by_cases h0:e=0
    · subst h0
      have hu1:=he rfl
      (repeat' (first|refine Sy ?_|refine Dy (fun hh=>?_) fun hh=>?_))
      all_goals (try (exfalso;omega))
      all_goals (try (exact absurd rfl (by assumption)))
      refine B3 (i+1) ⟨rfl,rfl,rfl,trivial⟩ ⟨by omega,hx.trans xD,fun j u' hj hu'=>?_⟩ (by omega)
      by_cases e:j=i
      · subst e;rw [hui] at hu';cases hu';exact hu1
      · exact hall j u' (by omega) hu'
    · (repeat' (first|refine Sy ?_|refine Dy (fun hh=>?_) fun hh=>?_))
      all_goals first
        | exact absurd h0 (by assumption)
        | exact A4 Z Z ⟨⟨_,rfl,fun h=>absurd h h0⟩,hXr.trans xD⟩
  · obtain rfl:i=us.length:=by omega
    have hgood:∀ u∈us,1≤u.graph.length∧u.graph.length≤32∧u.segs.length≤3:=fun u hu=>by
      obtain⟨j,hj⟩:=List.getElem?_of_mem hu
      exact hall j u (List.getElem?_eq_some_iff.1 hj).1 hj
    (repeat' (first|refine Ly ?_|refine Dy (fun hh=>?_) fun hh=>?_))
    all_goals (try (exfalso;omega))
    all_goals first
      | exact A4 Z Z ⟨⟨_,rfl,fun _=>hgood⟩,hXr⟩
      | skip
    have htl100:tx.length≤100:=by omega
    replace hX:=hXr
    clear hXr hall
    refine B0 (ι:=Nat × Value × List Txt) (fun z=>[(3,.pointer (some ⟨bO,0,none⟩)),(7,z.2.1),(8,int z.1)])
      (fun z wk=>z.1≤tx.length∧Ext wr wk∧wk.ownsRow wr.heap.size 9 1 z.2.1 z.2.2.length (z.2.2.map fun t=>str t.l)∧z.2.2.length≤z.1*1048576) (fun z=>tx.length-z.1) (0,.slice none 0 0,[])
      ⟨rfl,rfl,rfl,trivial⟩ ⟨Nat.zero_le _,Ext.refl _,World.ownsRow_nil _ _ _ _,Nat.zero_le _⟩ ?_
    rintro⟨i,vO,o⟩ wk ⟨hi',hxk,hown,hol⟩
    dsimp only at hi' hxk hown hol ⊢
    have hrO:=rO.lt
    have rO0:=rO
    replace rO:=rO.ext hxk
    have hXk:=hX.trans hxk
    by_cases hlt':i<tx.length
    · obtain⟨l,hli⟩:∃ l,tx[i]?=some l:=⟨_,List.getElem?_eq_getElem hlt'⟩
      have hlm:=List.mem_of_getElem? hli
      obtain⟨tb,to_,rfl⟩:=htp (by omega)
      have hll:=htl l hlm
      have hbig:tx.length*1048576≤104857600:=by omega
      obtain⟨la,lc,hatl,hsl⟩:=R4 (ht0.ext hXk) hli
      have hcl:=hatl.one
      (repeat' (first|refine eV Z Z (A0 (m:=i) Z Z Z Z hlt') ?_|refine Ly ?_|refine Dy (fun hh=>?_) fun hh=>?_))
      all_goals (try (exfalso;omega))
      all_goals first
        | exact A4 Z Z ⟨⟨_,rfl,fun h=>absurd h (by decide)⟩,hXk⟩
        | skip
      refine B0 (ι:=Nat × Value × List Txt) (fun z=>[(3,.pointer (some ⟨bO,0,none⟩)),(7,z.2.1),(8,int i),(9,int z.1)])
        (fun z wm=>z.1≤l.length∧Ext wr wm∧wm.ownsRow wr.heap.size 9 1 z.2.1 z.2.2.length (z.2.2.map fun t=>str t.l)∧z.2.2.length≤i*1048576+z.1) (fun z=>l.length-z.1) (0,vO,o)
        ⟨rfl,rfl,rfl,rfl,trivial⟩ ⟨Nat.zero_le _,hxk,hown,Nat.le_trans hol (Nat.le_add_right _ _)⟩ ?_
      rintro⟨k,vM,m⟩ wm ⟨hk,hxm,hownm,hml⟩
      dsimp only at hk hxm hownm hml ⊢
      have hXm:=hX.trans hxm
      obtain⟨la,lc,hatl,hsl⟩:=R4 (ht0.ext hXm) hli
      have hcl:=hatl.one
      replace rO:=rO0.ext hxm
      by_cases hlk:k<l.length
      · obtain⟨_,_,e,_,_,hlp⟩:=hsl.sl
        cases e
        obtain⟨lb,lo,rfl⟩:=hlp (by omega)
        obtain⟨t,hkt⟩:∃ t,l[k]?=some t:=⟨_,List.getElem?_eq_getElem hlk⟩
        have htt:=(Go.Pv.txt_elem hsl hkt).one
        have htl1:=htx l hlm t (List.mem_of_getElem? hkt)
        have cl:=fun wz=>A2v t.l htl1 wz
        have hS:Sl wm vM m:=N4 (css:=m.map fun t=>[str t.l]) (by rw [A9h];exact hownm) (B3l _) rfl (by omega)
        (repeat' (first|refine eV Z Z (A0 (m:=i) Z Z Z Z hlt') ?_|refine eV Z Z (A0 (m:=k) Z Z Z Z hlk) ?_|(refine A8 Z Z (A5 Z Z en149) (cl _) (fun vD wD hD=>?_);obtain⟨⟨bD,rfl,hbD⟩,xD⟩:=hD;cases bD)|(refine A8 Z Z (A5 Z Z en150) (B8b m t.l _ _ (hS.ext xD)) (fun vE wE hE=>?_);obtain⟨⟨bE,rfl⟩,xE⟩:=hE;cases bE)|(refine D5 (news:=[str t.l]) (C7 hownm (xD.trans (xE.trans xS))) (hxm.trans (xD.trans (xE.trans xS))) (fun _=>⟨_,_,rfl,rS.at⟩) Z Z Z Z Z Z Z Z Z (by omega) (by omega) (fun vJ wJ oJ xJ kJ hJ=>?_))|refine Ly ?_|refine Dy (fun hh=>?_) fun hh=>?_|refine eL Z Z Z Z Z Z Z Z (fun bS wS xS hbS rS=>?_)))
        all_goals (try (exfalso;omega))
        all_goals first
          | exact A4 Z Z ⟨⟨_,rfl,fun h=>absurd h (by decide)⟩,hXm.trans xD⟩
          | exact A4 Z Z ⟨⟨_,rfl,fun h=>absurd h (by decide)⟩,hXm.trans (xD.trans xE)⟩
          | skip
        refine B3 (k+1,vJ,m++[t]) ⟨rfl,rfl,rfl,by rfl,trivial⟩ ⟨by dsimp only;omega,xJ,?_,?_⟩ (by dsimp only;omega)
        · dsimp only;simpa using oJ
        · dsimp only;rw [List.length_append,List.length_singleton];omega
      · (repeat' (first|refine eV Z Z (A0 (m:=i) Z Z Z Z hlt') ?_|refine Ly ?_|refine Dy (fun hh=>?_) fun hh=>?_))
        all_goals (try (exfalso;omega))
        refine B3 (i+1,vM,m) ⟨rfl,rfl,rfl,trivial⟩ ⟨by dsimp only;omega,hxm,hownm,?_⟩ (by dsimp only;omega)
        dsimp only;omega
    · (repeat' (first|refine Ly ?_|refine Dy (fun hh=>?_) fun hh=>?_))
      all_goals (try (exfalso;omega))
      exact A4 Z Z ⟨⟨_,rfl,fun _=>hgood⟩,hXk⟩
end
section
open Go.RowKit Go.En Go.Pv
def B6y (e:En):Prop:=e.form.length≤3∧e.alts.length≤1∧∀ f∈e.alts,f.length≤3
attribute [local irreducible] E EL K Val Enters Rt Calls bodyPost Code.wp RQ
theorem B3p (es : List En) (v : Value) (w : World) (hv : Sl w v es) : Calls Tryz.prog 86 #[v] w (Rt fun u w' => (∃ b, u = .bool b ∧ (b = true → es.length ≤ 5 ∧ ∀ e ∈ es, B6y e)) ∧ Ext w w') := by
  have hv0:=hv
  obtain⟨a,cap,rfl,_,hm,hp⟩:=hv.sl
  refine A6 (n:=50) (args:=[.slice a es.length cap]) Tryz.func86 rfl Tryz.ntmps86 (by simp) ?_
  (repeat' (first|refine Sy ?_|refine Dy (fun hh=>?_) fun hh=>?_))
  · exact A4 Z Z ⟨⟨_,rfl,fun h=>by cases h⟩,Ext.refl _⟩
  refine B0 (ι:=Nat) (fun i=>[(0,.slice a es.length cap),(3,int i)]) (fun i wr=>i≤es.length∧Ext w wr∧∀(j:Nat) (e:En),j<i→es[j]?=some e→B6y e) (fun i=>es.length-i) 0
    ⟨rfl,rfl,trivial⟩ ⟨Nat.zero_le _,Ext.refl _,fun _ _ h=>absurd h (by omega)⟩ ?_
  rintro i wr ⟨hi,hx,hall⟩
  by_cases hlt:i<es.length
  · obtain⟨b,off,rfl⟩:=hp (by omega)
    obtain⟨e,hei⟩:∃ e,es[i]?=some e:=⟨_,List.getElem?_eq_getElem hlt⟩
    obtain⟨f0,k0,f1,k1,f2,k2,f3,k3,f4,k4,hat,hrep,h0,h1,h2,h3,h4⟩:=D3 (hv0.ext hx) hei
    (repeat' (first|refine eV Z Z (A0 (m:=i) Z Z Z Z hlt) ?_|refine Ly ?_|refine Dy (fun hh=>?_) fun hh=>?_))
    all_goals (try (exfalso;omega))
    all_goals first
      | exact A4 Z Z ⟨⟨_,rfl,fun h=>by cases h⟩,hx⟩
      | skip
    have hsz:e.form.length≤3∧e.alts.length≤1:=by omega
    refine B0 (ι:=Nat) (fun k=>[(0,.slice (some ⟨b,off,none⟩) es.length cap),(3,int i),(4,int k)]) (fun k wk=>k≤e.alts.length∧Ext wr wk∧∀(j:Nat) (f:List Int),j<k→e.alts[j]?=some f→f.length≤3) (fun k=>e.alts.length-k) 0
      ⟨rfl,rfl,rfl,trivial⟩ ⟨Nat.zero_le _,Ext.refl _,fun _ _ h=>absurd h (by omega)⟩ ?_
    rintro k wk ⟨hk,hxk,hak⟩
    replace hat:=hat.ext hxk
    by_cases hlk:k<e.alts.length
    · obtain⟨_,_,ee,_,_,hlp⟩:=h1.sl
      cases ee
      obtain⟨lb,lo,rfl⟩:=hlp (by omega)
      obtain⟨f,hfk⟩:∃ f,e.alts[k]?=some f:=⟨_,List.getElem?_eq_getElem hlk⟩
      obtain⟨la,lc,hatl,_⟩:=R4 (h1.ext hxk) hfk
      have hcl:=hatl.one
      (repeat' (first|refine eV Z Z (A0 (m:=i) Z Z Z Z hlt) ?_|refine eV Z Z (A0 (m:=k) Z Z Z Z hlk) ?_|refine Ly ?_|refine Dy (fun hh=>?_) fun hh=>?_))
      all_goals (try (exfalso;omega))
      all_goals first
        | exact A4 Z Z ⟨⟨_,rfl,fun h=>by cases h⟩,hx.trans hxk⟩
        | skip
      refine B3 (k+1) ⟨rfl,rfl,rfl,trivial⟩ ⟨by omega,hxk,fun j f' hj hf'=>?_⟩ (by omega)
      by_cases e':j=k
      · subst e';rw [hfk] at hf';cases hf';omega
      · exact hak j f' (by omega) hf'
    · (repeat' (first|refine eV Z Z (A0 (m:=i) Z Z Z Z hlt) ?_|refine Ly ?_|refine Dy (fun hh=>?_) fun hh=>?_))
      all_goals (try (exfalso;omega))
      refine B3 (i+1) ⟨rfl,rfl,trivial⟩ ⟨by omega,hx.trans hxk,fun j e' hj he'=>?_⟩ (by omega)
      by_cases h:j=i
      · subst h;rw [hei] at he';cases he'
        refine⟨hsz.1,hsz.2,fun f hf=>?_⟩
        obtain⟨q,hq⟩:=List.getElem?_of_mem hf
        exact hak q f (by have:=(List.getElem?_eq_some_iff.1 hq).1;omega) hq
      · exact hall j e' (by omega) he'
  · (repeat' (first|refine Sy ?_|refine Dy (fun hh=>?_) fun hh=>?_))
    all_goals (try (exfalso;omega))
    refine A4 Z Z ⟨⟨_,rfl,fun _=>⟨by omega,fun e he=>?_⟩⟩,hx⟩
    obtain⟨q,hq⟩:=List.getElem?_of_mem he
    exact hall q e (by have:=(List.getElem?_eq_some_iff.1 hq).1;omega) hq
end
end Go.Proofs.YtjicdgejhkgpgaaGreatDoor
namespace Go.Proofs.YtjicdgejhkgpgaaGreatDoor
section
def Rise (l:List Int):Prop:=l.Pairwise (·<·)
theorem B3w : ∀ {a b : List Int}, Rise a → Rise b → (∀ x, x ∈ a ↔ x ∈ b) → a = b
  | [],[],_,_,_=>rfl
  | [],y::b,_,_,h=>absurd ((h y).2 (.head _)) (by simp)
  | x::a,[],_,_,h=>absurd ((h x).1 (.head _)) (by simp)
  | x :: a, y :: b, ha, hb, h => by
    obtain⟨a1,a2⟩:=List.pairwise_cons.1 ha
    obtain⟨b1,b2⟩:=List.pairwise_cons.1 hb
    have hxy:x=y:=by
      rcases List.mem_cons.1 ((h x).1 (.head _)) with e|h1
      · exact e
      · rcases List.mem_cons.1 ((h y).2 (.head _)) with e|h2
        · exact e.symm
        · have:=b1 x h1;have:=a1 y h2;omega
    subst hxy
    rw [B3w a2 b2 fun z=>?_]
    constructor
    · intro hz
      rcases List.mem_cons.1 ((h z).1 (.tail _ hz)) with e|h1
      · have:=a1 z hz;omega
      · exact h1
    · intro hz
      rcases List.mem_cons.1 ((h z).2 (.tail _ hz)) with e|h1
      · have:=b1 z hz;omega
      · exact h1
theorem Rise.filter {l:List Int} (h:Rise l) (p:Int→Bool):Rise (l.filter p):=List.Pairwise.filter _ h
theorem Rise.sub {l m:List Int} (h:Rise l) (s:m.Sublist l):Rise m:=List.Pairwise.sublist s h
end
section
open Go.RowKit Go.En
theorem Z3 {α:Type} {f:α→Bool}:∀ {l:List α} {i:Nat},(∀ j,j<i→∀ a,l[j]?=some a→f a=true)→i≤l.length→(∀ a,l[i]?=some a→f a=false)→(l.takeWhile f).length=i
  | [],i,_,hi,_=>by simp at hi;simp [hi]
  | a::l,0,_,_,h=>by rw [List.takeWhile_cons_of_neg (by simp [h a rfl])];rfl
  | a::l,i+1,h,hi,h2=>by
    rw [List.takeWhile_cons_of_pos (h 0 (by omega) a rfl),List.length_cons,Z3 (i:=i) (fun j hj b hb=>h (j+1) (by omega) b hb) (by simpa using hi) (fun b hb=>h2 b hb)]
def A4f (ids:List Int) (id:Int):Nat:=(ids.takeWhile fun z=>decide (z<id)).length
def M7 (l:List Int) (n:Int):List Int:=
  l.take (A4f l n)++n::(if l[A4f l n]?=some n then l.drop (A4f l n+1) else l.drop (A4f l n))
def L7 (l:List Int):List Int:=l.foldl M7 []
theorem A6z {G:Nat→Prop} {w:World} {a:Option Addr} {n cap:Nat} {xs:List Int} (h:SlG G w (.slice a n cap) xs):0<(xs.map int).length→∃ b so,a=some ⟨b,so,none⟩∧At w b so (xs.map int):=fun h0=>by
  obtain⟨a',cap',hv,_,_,hp⟩:=h
  cases hv
  obtain⟨b,off,rfl,_,css,h1,h2⟩:=hp (by simpa using h0)
  rw [A3j h1,D8] at h2
  exact⟨b,off,rfl,h2⟩
theorem B2y {ids:List Int} {id:Int} {i:Nat} (hall:∀ j,j<i→∀ z,ids[j]?=some z→decide (z<id)=true) (hi:i≤ids.length) (hs:∀ z,ids[i]?=some z→¬ z<id):A4f ids id=i:=
  Z3 hall hi (fun z hz=>decide_eq_false (hs z hz))
theorem C4x (l:List Int) (n:Int):(M7 l n).length≤l.length+1:=by
  unfold M7
  split <;> simp <;> omega
theorem nput_at {l:List Int} {n:Int} {i:Nat} (h:A4f l n=i) (he:l[i]?=some n):M7 l n=l.take i++n::l.drop (i+1):=by
  unfold M7;rw [h,if_pos he]
theorem C0d {l:List Int} {n:Int} {i:Nat} (h:A4f l n=i) (he:l[i]?≠some n):M7 l n=l.take i++n::l.drop i:=by
  unfold M7;rw [h,if_neg he]
theorem B5a:∀(l acc:List Int),(l.foldl M7 acc).length≤acc.length+l.length
  | [],acc=>by simp
  | z::l,acc=>by
    have h1:=B5a l (M7 acc z)
    have h2:=C4x acc z
    simp only [List.foldl_cons,List.length_cons]
    omega
theorem C2k {l acc:List Int} {i:Nat} {z:Int} (h:l[i]?=some z):(l.take (i+1)).foldl M7 acc=M7 ((l.take i).foldl M7 acc) z:=by
  obtain⟨hi,rfl⟩:=List.getElem?_eq_some_iff.1 h
  rw [List.take_succ_eq_append_getElem hi,List.foldl_append];rfl
attribute [local irreducible] E EL K Val Enters Rt Calls bodyPost Code.wp RQ
theorem C1w (l : List Int) (n : Int) (v : Value) (w : World) (hv : Sl w v l) (hlen : l.length ≤ 1099511627776) : Calls Tryz.prog 105 #[v, int n] w (Rt fun u w' => Ext w w' ∧ SlG (fun b => w.heap.size ≤ b) w' u (M7 l n)) := by
  refine A6 (n:=51) (args:=[v,int n]) Tryz.func105 rfl Tryz.ntmps105 (by simp) ?_
  have hv0:=hv
  obtain⟨a,cap,rfl,hc,hm,hp⟩:=hv.sl
  (repeat' (first|refine Sy ?_))
  refine B0 (ι:=Nat × Value) (fun x=>[(0,.slice a l.length cap),(1,int n),(5,x.2),(6,int x.1)])
    (fun x wr=>x.1≤l.length∧Ext w wr∧(∀ j,j<x.1→∀ z,l[j]?=some z→decide (z<n)=true)∧wr.ownsRow w.heap.size 3 1 x.2 x.1 ((l.take x.1).map int)) (fun x=>l.length-x.1) (0,.slice none 0 0)
    ⟨rfl,rfl,rfl,rfl,trivial⟩ ⟨Nat.zero_le _,Ext.refl _,fun j hj=>by omega,World.ownsRow_nil _ _ _ _⟩ ?_
  rintro⟨i,vO⟩ wr ⟨hi,hx,hall,hown⟩
  dsimp only at hi hx hall hown ⊢
  have hvr:=hv0.ext hx
  by_cases hlt:i<l.length
  · obtain⟨b,off,rfl⟩:=hp (by omega)
    obtain⟨z,hz⟩:∃ z,l[i]?=some z:=⟨_,List.getElem?_eq_getElem hlt⟩
    have hcell:=int_elem hvr hz
    by_cases hzl:z<n
    · (repeat' (first|refine eV Z Z (A0 (m:=i) Z Z Z Z hlt) ?_|refine eV Z Z (A7 Z Z Z hcell) ?_|(refine A7y (C7 hown xS) (hx.trans xS) rS.at rfl rfl rfl rfl rfl rfl rfl rfl rfl (by omega) (by omega) (fun vB wB oB xB _=>?_))|refine Sy ?_|refine Dy (fun hh=>?_) fun hh=>?_|refine eL Z Z Z Z Z Z Z Z (fun bS wS xS hbS rS=>?_)))
      all_goals (first|(exfalso;omega)|skip)
      refine B3 (i+1,vB) ⟨rfl,rfl,rfl,rfl,trivial⟩ ⟨by dsimp only;omega,xB,fun j hj q hq=>?_,?_⟩ (by dsimp only;omega)
      · dsimp only at hj
        by_cases hj2:j<i
        · exact hall j hj2 q hq
        · obtain rfl:j=i:=by omega
          rw [hz] at hq;cases hq
          exact decide_eq_true hzl
      · dsimp only
        obtain⟨hi2,rfl⟩:=List.getElem?_eq_some_iff.1 hz
        rw [List.take_succ_eq_append_getElem hi2,List.map_append]
        simpa [Value.cells] using oB
    have hw:=B2y hall hi (fun z' hz'=>by rw [hz] at hz';cases hz';exact hzl)
    by_cases hze:z=n
    · have hval:=nput_at hw (by rw [hz,hze])
      obtain⟨kk,hkk0⟩:∃ kk,kk=i+1:=⟨_,rfl⟩
      rw [← hkk0] at hval
      have hkk:kk≤l.length:=by omega
      (repeat' (first|refine eV Z Z (A0 (m:=i) Z Z Z Z hlt) ?_|refine eV Z Z (A7 Z Z Z hcell) ?_|(refine A7y (C7 hown xS) (hx.trans xS) rS.at rfl rfl rfl rfl rfl rfl rfl rfl rfl (by omega) (by omega) (fun vB wB oB xB _=>?_);have hcell2:=(hv0.ext xB);replace hcell2:=int_elem hcell2 hz)|refine eV Z Z (A7 Z Z Z hcell2) ?_|refine eV Z Z (H8 (b:=kk) Z Z Z (by omega) (by omega)) ?_|refine Sy ?_|refine Dy (fun hh=>?_) fun hh=>?_|refine eL Z Z Z Z Z Z Z Z (fun bS wS xS hbS rS=>?_)))
      all_goals (first|(exfalso;omega)|skip)
      refine D5 (news:=(l.drop kk).map int) oB xB (fun h0=>A6z ((hv0.ext xB).drop hkk) (by simp;omega)) Z Z Z Z Z (by simp) (A7a _) Z Z (by omega) (by omega) (fun vQ wQ oQ xQ _ _=>?_)
      (repeat' (first|refine Sy ?_))
      refine A4 Z Z ⟨xQ,?_⟩
      rw [hval]
      exact L1 (G:=fun b=>w.heap.size≤b) (css:=(l.take i++n::l.drop kk).map fun z=>[int z]) (by rw [D8];simpa [show Rep.sz Int=1 from rfl,Value.cells] using oQ) (H1 _ _) (fun _ h=>h) (by simp;omega) (by simp;omega)
    · have hval:=C0d hw (by rw [hz];simpa using hze)
      obtain⟨kk,hkk0⟩:∃ kk,kk=i:=⟨_,rfl⟩
      rw [show l.drop i=l.drop kk by rw [hkk0]] at hval
      have hkk:kk≤l.length:=by omega
      (repeat' (first|refine eV Z Z (A0 (m:=i) Z Z Z Z hlt) ?_|refine eV Z Z (A7 Z Z Z hcell) ?_|(refine A7y (C7 hown xS) (hx.trans xS) rS.at rfl rfl rfl rfl rfl rfl rfl rfl rfl (by omega) (by omega) (fun vB wB oB xB _=>?_);have hcell2:=(hv0.ext xB);replace hcell2:=int_elem hcell2 hz)|refine eV Z Z (A7 Z Z Z hcell2) ?_|refine eV Z Z (H8 (b:=kk) Z Z Z (by omega) (by omega)) ?_|refine Sy ?_|refine Dy (fun hh=>?_) fun hh=>?_|refine eL Z Z Z Z Z Z Z Z (fun bS wS xS hbS rS=>?_)))
      all_goals (first|(exfalso;omega)|skip)
      refine D5 (news:=(l.drop kk).map int) oB xB (fun h0=>A6z ((hv0.ext xB).drop hkk) (by simp;omega)) Z Z Z Z Z (by simp) (A7a _) Z Z (by omega) (by omega) (fun vQ wQ oQ xQ _ _=>?_)
      (repeat' (first|refine Sy ?_))
      refine A4 Z Z ⟨xQ,?_⟩
      rw [hval]
      exact L1 (G:=fun b=>w.heap.size≤b) (css:=(l.take i++n::l.drop kk).map fun z=>[int z]) (by rw [D8];simpa [show Rep.sz Int=1 from rfl,Value.cells] using oQ) (H1 _ _) (fun _ h=>h) (by simp;omega) (by simp;omega)
  · have hw:=B2y (id:=n) hall hi (fun z' hz'=>by have:=(List.getElem?_eq_some_iff.1 hz').1;omega)
    have hval:=C0d hw (by rw [List.getElem?_eq_none (by omega)];simp)
    obtain⟨kk,hkk0⟩:∃ kk,kk=i:=⟨_,rfl⟩
    rw [show l.drop i=l.drop kk by rw [hkk0]] at hval
    have hkk:kk≤l.length:=by omega
    (repeat' (first|(refine A7y (C7 hown xS) (hx.trans xS) rS.at rfl rfl rfl rfl rfl rfl rfl rfl rfl (by omega) (by omega) (fun vB wB oB xB _=>?_))|refine eV Z Z (H8 (b:=kk) Z Z Z (by omega) (by omega)) ?_|refine Sy ?_|refine Dy (fun hh=>?_) fun hh=>?_|refine eL Z Z Z Z Z Z Z Z (fun bS wS xS hbS rS=>?_)))
    all_goals (first|(exfalso;omega)|skip)
    refine D5 (news:=(l.drop kk).map int) oB xB (fun h0=>A6z ((hv0.ext xB).drop hkk) (by simp;omega)) Z Z Z Z Z (by simp) (A7a _) Z Z (by omega) (by omega) (fun vQ wQ oQ xQ _ _=>?_)
    (repeat' (first|refine Sy ?_))
    refine A4 Z Z ⟨xQ,?_⟩
    rw [hval]
    exact L1 (G:=fun b=>w.heap.size≤b) (css:=(l.take i++n::l.drop kk).map fun z=>[int z]) (by rw [D8];simpa [show Rep.sz Int=1 from rfl,Value.cells] using oQ) (H1 _ _) (fun _ h=>h) (by simp;omega) (by simp;omega)
theorem B3n (l:List Int) (v:Value) (w:World) (hv:Sl w v l) (hlen:l.length≤1099511627776):Calls Tryz.prog 67 #[v] w (Rt fun u w'=>Ext w w'∧SlG (fun b=>w.heap.size≤b) w' u (L7 l)):=by
  refine A6 (n:=18) (args:=[v]) Tryz.func67 rfl Tryz.ntmps67 (by simp) ?_
  have hv0:=hv
  obtain⟨a,cap,rfl,hc,hm,hp⟩:=hv.sl
  (repeat' (first|refine Sy ?_))
  refine B0 (ι:=Nat × Value) (fun x=>[(0,.slice a l.length cap),(3,x.2),(6,int l.length),(7,int x.1)])
    (fun x wr=>x.1≤l.length∧Ext w wr∧SlG (fun b=>w.heap.size≤b) wr x.2 ((l.take x.1).foldl M7 [])) (fun x=>l.length-x.1) (0,.slice none 0 0)
    ⟨rfl,rfl,rfl,rfl,trivial⟩ ⟨Nat.zero_le _,Ext.refl _,SlG.nil⟩ ?_
  rintro⟨i,vO⟩ wr ⟨hi,hx,hs⟩
  dsimp only at hi hx hs ⊢
  have hvr:=hv0.ext hx
  have hfl:=B5a (l.take i) []
  rw [List.length_take] at hfl
  simp only [List.length_nil] at hfl
  by_cases hlt:i<l.length
  · obtain⟨b,off,rfl⟩:=hp (by omega)
    obtain⟨z,hz⟩:∃ z,l[i]?=some z:=⟨_,List.getElem?_eq_getElem hlt⟩
    have hcell:=int_elem hvr hz
    (repeat' (first|refine eV Z Z (A0 (m:=i) Z Z Z Z hlt) ?_|refine eV Z Z (A7 Z Z Z hcell) ?_|(refine A8 Z Z (A5 Z Z en105) (C1w _ z vO _ hs.any (by omega)) (fun vC wC hC=>?_);obtain⟨xC,hC⟩:=hC)|refine Sy ?_|refine Dy (fun hh=>?_) fun hh=>?_))
    all_goals (first|(exfalso;omega)|skip)
    exact B3 (i+1,vC) ⟨rfl,rfl,rfl,rfl,trivial⟩ ⟨by dsimp only;omega,hx.trans xC,by dsimp only;rw [C2k hz];exact SlG.wk hC (fun b hb=>Nat.le_trans hx.size hb)⟩ (by dsimp only;omega)
  · obtain rfl:i=l.length:=by omega
    rw [List.take_length] at hs
    (repeat' (first|refine Sy ?_|refine Dy (fun hh=>?_) fun hh=>?_))
    all_goals (first|(exfalso;omega)|skip)
    exact A4 Z Z ⟨hx,hs⟩
theorem B6w (l:List Int) (v:Value) (w:World) (hv:Sl w v l) (hlen:l.length≤1099511627776):Calls Tryz.prog 67 #[v] w (Rt fun u w'=>Ext w w'∧Sl w' u (L7 l)):=C0 (B3n l v w hv hlen) (fun _ _ h=>⟨h.1,h.2.any⟩)
end
end Go.Proofs.YtjicdgejhkgpgaaGreatDoor
namespace Go.Proofs.YtjicdgejhkgpgaaGreatDoor
section
theorem B2x {l : List Int} {n : Int} (h : Rise l) : ∃ s r, l = s ++ r ∧ A4f l n = s.length ∧ (∀ x ∈ s, x < n) ∧ ∀ x ∈ r, n ≤ x := by
  refine⟨l.takeWhile (fun z=>decide (z<n)),l.dropWhile (fun z=>decide (z<n)),(List.takeWhile_append_dropWhile ..).symm,rfl,fun x hx=>?_,fun x hx=>?_⟩
  · have:=List.all_takeWhile (p:=fun z=>decide (z<n)) (l:=l)
    exact of_decide_eq_true (List.all_eq_true.1 this x hx)
  · have hr:Rise (l.dropWhile (fun z=>decide (z<n))):=h.sub (List.dropWhile_sublist _)
    cases hd:l.dropWhile (fun z=>decide (z<n)) with
    | nil=>rw [hd] at hx;cases hx
    | cons y r=>
      have hy:¬ y<n:=by
        have:=List.head?_dropWhile_not (fun z=>decide (z<n)) l
        rw [hd] at this
        simpa using this
      rw [hd] at hx hr
      obtain⟨h1,_⟩:=List.pairwise_cons.1 hr
      rcases List.mem_cons.1 hx with rfl|hx
      · omega
      · have:=h1 x hx;omega
theorem C1v {l : List Int} {n : Int} (h : Rise l) : Rise (M7 l n) ∧ ∀ x, x ∈ M7 l n ↔ x = n ∨ x ∈ l := by
  obtain⟨s,r,hl,hw,h1,h2⟩:=B2x (n:=n) h
  have hs:Rise s:=h.sub (by rw [hl];exact List.sublist_append_left s r)
  have hr:Rise r:=h.sub (by rw [hl];exact List.sublist_append_right s r)
  have key:∀ t:List Int,Rise t→(∀ x∈t,n<x)→Rise (s++n::t):=fun t ht hn=>
    List.pairwise_append.2 ⟨hs,List.pairwise_cons.2 ⟨hn,ht⟩,fun a ha b hb=>by
      rcases List.mem_cons.1 hb with rfl|hb
      · exact h1 a ha
      · have:=h1 a ha;have:=hn b hb;omega⟩
  unfold M7
  rw [hw]
  cases r with
  | nil=>
    rw [List.append_nil] at hl
    subst hl
    rw [if_neg (by simp),List.take_length,List.drop_length]
    exact⟨key [] (by simp [Rise]) (by simp),fun x=>by simp [or_comm]⟩
  | cons y r=>
    obtain⟨r1,r2⟩:=List.pairwise_cons.1 hr
    have hy:l[s.length]?=some y:=by rw [hl];simp
    have ht:l.take s.length=s:=by rw [hl];simp
    by_cases hyn:y=n
    · subst hyn
      rw [if_pos hy,ht,show l.drop (s.length+1)=r by rw [hl];simp]
      refine⟨key r r2 r1,fun x=>?_⟩
      rw [hl,List.mem_append]
      constructor
      · intro hx;exact .inr hx
      · rintro(rfl|hx)
        · exact .inr (.head _)
        · exact hx
    · rw [if_neg (fun e=>hyn (Option.some.inj (hy.symm.trans e))),ht,show l.drop s.length=y::r by rw [hl];simp]
      have hny:n<y:=by have:=h2 y (.head _);omega
      refine⟨key (y::r) hr fun x hx=>?_,fun x=>?_⟩
      rotate_left
      · simp only [hl,List.mem_append,List.mem_cons]
        constructor
        · rintro(hx|hx|hx)
          · exact .inr (.inl hx)
          · exact .inl hx
          · exact .inr (.inr hx)
        · rintro(hx|hx|hx)
          · exact .inr (.inl hx)
          · exact .inl hx
          · exact .inr (.inr hx)
      rcases List.mem_cons.1 hx with rfl|hx
      · exact hny
      · have:=r1 x hx;omega
theorem A9y:∀(l acc:List Int),Rise acc→Rise (l.foldl M7 acc)∧∀ x,x∈l.foldl M7 acc↔x∈acc∨x∈l
  | [],acc,h=>⟨h,fun x=>by simp⟩
  | z :: l, acc, h => by
    obtain⟨p1,p2⟩:=C1v (n:=z) h
    obtain⟨q1,q2⟩:=A9y l (M7 acc z) p1
    refine⟨q1,fun x=>?_⟩
    rw [List.foldl_cons,q2,p2,List.mem_cons]
    constructor
    · rintro((h|h)|h)
      · exact .inr (.inl h)
      · exact .inl h
      · exact .inr (.inr h)
    · rintro(h|h|h)
      · exact .inl (.inr h)
      · exact .inl (.inl h)
      · exact .inr h
theorem A0b (l:List Int):Rise (L7 l)∧∀ x,x∈L7 l↔x∈l:=by
  obtain⟨h1,h2⟩:=A9y l [] (by simp [Rise])
  exact⟨h1,fun x=>by unfold L7;rw [h2];simp⟩
end
end Go.Proofs.YtjicdgejhkgpgaaGreatDoor