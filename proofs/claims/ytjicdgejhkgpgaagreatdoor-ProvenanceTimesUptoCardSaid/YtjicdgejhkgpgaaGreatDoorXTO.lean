/-
  Own text of the proof.
-/
import Derived.Test.YtjicdgejhkgpgaaGreatDoorYt
import Derived.Test.YtjicdgejhkgpgaaGreatDoorUc
import Derived.Test.YtjicdgejhkgpgaaGreatDoorY7
set_option linter.all false
set_option maxHeartbeats 4000000
set_option maxRecDepth 8000
namespace Go.Proofs.YtjicdgejhkgpgaaGreatDoor
open Go.RowKit Go.En Go.Pv
attribute [local irreducible] E EL K Val Enters Rt Calls bodyPost Code.wp RQ
theorem Ka (lex:List En) (l:List Int) (ev v:Value) (w:World) (hl:Sl w ev lex) (hv:Sl w v l):Calls Tryz.prog 59 #[ev,v] w (Rt fun u w'=>u=int (Ca lex l)∧Ext w w'):=by
  have hv0:=hv
  obtain⟨a,c,rfl,_,hm,hpp⟩:=hv.sl
  refine A7 (n:=41) (args:=[ev,.slice a l.length c]) Tryz.func59 rfl Tryz.ntmps59 (by simp) ?_
  (repeat' (first|refine Sy ?_))
  have h00:∀ j,j<1→upAt l j=0:=fun j hj=>by
    obtain rfl:j=0:=by omega
    exact up_first
  refine Ae (ι:=Nat) (fun i=>[(0,ev),(1,.slice a l.length c),(5,int i)]) (fun i wr=>1≤i∧Ext w wr∧∀ j,j<i→upAt l j=0) (fun i=>l.length-i) 1
    ⟨rfl,rfl,rfl,trivial⟩ ⟨Nat.le_refl _,Ext.refl _,h00⟩ ?_
  rintro i wr ⟨hi,hx,hall⟩
  replace hv0:=hv0.ext hx
  by_cases hlt:i<l.length
  · obtain⟨b,off,rfl⟩:=hpp (by omega)
    obtain⟨x,hxi⟩:∃ x,l[i]?=some x:=⟨_,List.getElem?_eq_getElem hlt⟩
    obtain⟨y,hyi⟩:∃ y,l[i-1]?=some y:=⟨_,List.getElem?_eq_getElem (by omega)⟩
    have h1:=(Go.Pv.int_elem hv0 hxi).one
    have h2:=(Go.Pv.int_elem hv0 hyi).one
    (repeat' (first|refine yV Z Z (fun _ _ _=>A0 (m:=i) Z Z Z (by first|rfl|omega) (by omega)) ?_|refine yV Z Z (fun _ _ _=>A0 (m:=i-1) Z Z Z (by first|rfl|omega) (by omega)) ?_|refine Sy ?_|refine Dy (fun hh=>?_) fun hh=>?_|refine yqY ?_|refine yqZ ?_|refine yqX (fun hh=>?_) fun hh=>?_|refine E_dq Aa (by kernel_rfl) Z ?_|refine yN Z (fun wq xq=>?_)))
    all_goals (try (exfalso;omega))
    · have e0:D6 l.length (upAt l)=10:=by rw [Bb hall hlt (by rw [up_ten hxi (by omega) hyi (by omega)];decide),up_ten hxi (by omega) hyi (by omega)]
      have:Ca lex l=10:=by unfold Ca;rw [e0,if_pos (by decide)]
      rw [this]
      exact A5 Z Z ⟨rfl,hx.trans xq⟩
    · refine Ad (i+1) ⟨rfl,rfl,rfl,trivial⟩ ⟨by omega,hx.trans xq,fun j hj=>?_⟩ (by omega)
      by_cases e:j=i
      · subst e;exact up_zero hxi (by omega) hyi (by omega)
      · exact hall j (by omega)
  · have hE:Ca lex l=D6 l.length (J0 lex l):=by unfold Ca;rw [if_neg (by simpa using Gj (fun j hj=>hall j (by omega)))]
    rw [hE]
    (repeat' (first|refine Sy ?_|refine Dy (fun hh=>?_) fun hh=>?_))
    all_goals (try (exfalso;omega))
    refine Ae (ι:=Nat) (fun i=>[(0,ev),(26,.slice a l.length c),(27,int l.length),(28,int i)]) (fun i wr=>i≤l.length∧Ext w wr∧∀ j,j<i→J0 lex l j=0) (fun i=>l.length-i) 0
      ⟨rfl,rfl,rfl,rfl,trivial⟩ ⟨Nat.zero_le _,hx,fun _ h=>absurd h (by omega)⟩ ?_
    clear hx hv0 hall
    rename_i hvw
    rintro i w2 ⟨hi,hx,hall⟩
    have hv0:=hv.ext hx
    by_cases hlt:i<l.length
    · obtain⟨b,off,rfl⟩:=hpp (by omega)
      obtain⟨x,hxi⟩:∃ x,l[i]?=some x:=⟨_,List.getElem?_eq_getElem hlt⟩
      have hcx:=(Go.Pv.int_elem hv0 hxi).one
      obtain⟨Y,hrepY,ce⟩:=Jv lex x ev w hl
      obtain⟨e0,k0,e1,k1,e2,k2,e3,k3,e4,k4,rfl,_⟩:=C6 hrepY
      cases hbx:(getE lex x).isSome with
      | true=>
        rw [hbx] at ce
        (repeat' (first|refine eV Z Z (A0 (m:=i) Z Z Z (by first|rfl|omega) (by omega)) ?_|(refine cqC (ce _ hx) en48 fun wC xC=>?_;replace hx:=hx.trans xC)|(refine Am Z Z Z Z Z Z Z Z Z Z (fun bN wN xN hbN rN=>?_);replace hx:=hx.trans xN)|refine Ly ?_|refine Dy (fun hh=>?_) fun hh=>?_))
        all_goals (try (exfalso;omega))
        refine Ad (i+1) ⟨rfl,rfl,rfl,rfl,trivial⟩ ⟨by omega,hx,fun j hj=>?_⟩ (by omega)
        by_cases e:j=i
        · subst e;exact none_zero hxi hbx
        · exact hall j (by omega)
      | false=>
        rw [hbx] at ce
        (repeat' (first|refine eV Z Z (A0 (m:=i) Z Z Z (by first|rfl|omega) (by omega)) ?_|(refine cqC (ce _ hx) en48 fun wC xC=>?_;replace hx:=hx.trans xC)|(refine Am Z Z Z Z Z Z Z Z Z Z (fun bN wN xN hbN rN=>?_);replace hx:=hx.trans xN)|refine Ly ?_|refine Dy (fun hh=>?_) fun hh=>?_))
        all_goals (try (exfalso;omega))
        have hf:D6 l.length (J0 lex l)=9:=by rw [Bb hall hlt (by rw [none_nine hxi hbx];decide),none_nine hxi hbx]
        rw [hf]
        exact A5 Z Z ⟨rfl,hx⟩
    · rw [Gj (fun j hj=>hall j (by omega))]
      (repeat' (first|refine Sy ?_|refine Dy (fun hh=>?_) fun hh=>?_))
      all_goals (try (exfalso;omega))
      exact A5 Z Z ⟨rfl,hx⟩
theorem Ox (l : List Rf) (v : Value) (w : World) (hv : Sl w v l) : Calls Tryz.prog 60 #[v] w (Rt fun u w' => u = int (K4 l) ∧ Ext w w') := by
  have hv0:=hv
  obtain⟨a,c,rfl,_,hm,hpp⟩:=hv.sl
  refine A7 (n:=43) (args:=[.slice a l.length c]) Tryz.func60 rfl Tryz.ntmps60 (by simp) ?_
  by_cases h12:l.length=0∨12<l.length
  · have:K4 l=24:=by unfold K4;rw [if_pos h12]
    rw [this]
    (repeat' (first|refine Sy ?_|refine Dy (fun hh=>?_) fun hh=>?_))
    all_goals (try (exfalso;omega))
    all_goals exact A5 Z Z ⟨rfl,Ext.refl _⟩
  have hR:K4 l=D6 l.length (Iq l):=by unfold K4;rw [if_neg h12]
  rw [hR]
  (repeat' (first|refine Sy ?_|refine Dy (fun hh=>?_) fun hh=>?_))
  all_goals (try (exfalso;omega))
  refine Ae (ι:=Nat) (fun i=>[(0,.slice a l.length c),(13,.slice a l.length c),(14,int l.length),(15,int i)]) (fun i wr=>i≤l.length∧Ext w wr∧∀ j,j<i→Iq l j=0) (fun i=>l.length-i) 0
    ⟨rfl,rfl,rfl,rfl,trivial⟩ ⟨Nat.zero_le _,Ext.refl _,fun _ h=>absurd h (by omega)⟩ ?_
  rintro i wr ⟨hi,hx,hall⟩
  replace hv0:=hv0.ext hx
  by_cases hlt:i<l.length
  · obtain⟨b,off,rfl⟩:=hpp (by omega)
    obtain⟨x,hxi⟩:∃ x,l[i]?=some x:=⟨_,List.getElem?_eq_getElem hlt⟩
    have hat:=Dk hv0 hxi
    have c1:=fun z wz=>Fg z wz
    cases hi1:B0 x.rcd with
    | false=>
      have hid:(B0 x.rcd&&B0 x.note)=false:=by rw [hi1];rfl
      have c2:=fun wz=>Fg x.rcd wz
      rw [hi1] at c2
      (repeat' (first|refine eV Z Z (A0 (m:=i) Z Z Z (by first|rfl|omega) (by omega)) ?_|(refine Du Z Z Z Z Z Z Z Z Z Z Z Z Z Z Z (fun bX wX xX hbX rX=>?_);replace hx:=hx.trans xX)|(refine cqC (c2 _) en56 fun wC xC=>?_;replace hx:=hx.trans xC;replace rX:=rX.ext xC)|refine Ly ?_|refine Dy (fun hh=>?_) fun hh=>?_))
      all_goals (try (exfalso;omega))
      refine A5 Z Z ⟨?_,hx⟩
      rw [Bb hall hlt (by rw [Hh hxi hid];decide),Hh hxi hid]
    | true=>
      have c2:=fun wz=>Fg x.rcd wz
      have c3:=fun wz=>Fg x.note wz
      rw [hi1] at c2
      cases hi2:B0 x.note with
      | false=>
        have hid:(B0 x.rcd&&B0 x.note)=false:=by rw [hi1,hi2];rfl
        rw [hi2] at c3
        (repeat' (first|refine eV Z Z (A0 (m:=i) Z Z Z (by first|rfl|omega) (by omega)) ?_|(refine Du Z Z Z Z Z Z Z Z Z Z Z Z Z Z Z (fun bX wX xX hbX rX=>?_);replace hx:=hx.trans xX)|(refine cqC (c2 _) en56 fun wC xC=>?_;replace hx:=hx.trans xC;replace rX:=rX.ext xC)|(refine cqC (c3 _) en56 fun wC xC=>?_;replace hx:=hx.trans xC;replace rX:=rX.ext xC)|refine Ly ?_|refine Dy (fun hh=>?_) fun hh=>?_))
        all_goals (try (exfalso;omega))
        refine A5 Z Z ⟨?_,hx⟩
        rw [Bb hall hlt (by rw [Hh hxi hid];decide),Hh hxi hid]
      | true=>
        have hid:(B0 x.rcd&&B0 x.note)=true:=by rw [hi1,hi2];rfl
        rw [hi2] at c3
        by_cases h0:i=0
        · subst h0
          (repeat' (first|(refine yN Z (fun wq xq=>?_);replace hx:=hx.trans xq)|refine eV Z Z (A0 (m:=0) Z Z Z (by first|rfl|omega) (by omega)) ?_|(refine Du Z Z Z Z Z Z Z Z Z Z Z Z Z Z Z (fun bX wX xX hbX rX=>?_);replace hx:=hx.trans xX)|(refine cqC (c2 _) en56 fun wC xC=>?_;replace hx:=hx.trans xC;replace rX:=rX.ext xC)|(refine cqC (c3 _) en56 fun wC xC=>?_;replace hx:=hx.trans xC;replace rX:=rX.ext xC)|refine Ly ?_|refine Dy (fun hh=>?_) fun hh=>?_|refine yqZ ?_|refine yqX (fun hh=>?_) fun hh=>?_|refine E_dq Aa (by kernel_rfl) Z ?_|refine yO Z Z ?_))
          all_goals (try (exfalso;omega))
          refine Ad (0+1) ⟨rfl,rfl,rfl,rfl,trivial⟩ ⟨by omega,hx,fun j hj=>?_⟩ (by omega)
          obtain rfl:j=0:=by omega
          rw [Bool.and_eq_true] at hid
          exact Lh hxi hid (.inl rfl)
        · obtain⟨y,hyi⟩:∃ y,l[i-1]?=some y:=⟨_,List.getElem?_eq_getElem (by omega)⟩
          have haty:=Dk hv0 hyi
          have cp:=fun wz=>P2 y x wz
          by_cases hlr:ltR y x
          · rw [decide_eq_true hlr] at cp
            (repeat' (first|(refine yN Z (fun wq xq=>?_);replace hx:=hx.trans xq)|refine eV Z Z (A0 (m:=i) Z Z Z (by first|rfl|omega) (by omega)) ?_|refine yV Z Z (fun _ _ _=>A0 (m:=i-1) Z Z Z (by first|rfl|omega) (by omega)) ?_|refine An Z Z (fun _ _ _=>A3 Z Z en64) (fun wq _=>cp wq) ?_|(refine Du Z Z Z Z Z Z Z Z Z Z Z Z Z Z Z (fun bX wX xX hbX rX=>?_);replace hx:=hx.trans xX;replace haty:=haty.ext xX)|(refine cqC (c2 _) en56 fun wC xC=>?_;replace hx:=hx.trans xC;replace rX:=rX.ext xC;replace haty:=haty.ext xC)|(refine cqC (c3 _) en56 fun wC xC=>?_;replace hx:=hx.trans xC;replace rX:=rX.ext xC;replace haty:=haty.ext xC)|refine Ly ?_|refine Dy (fun hh=>?_) fun hh=>?_|refine yqY ?_|refine yqZ ?_|refine yqX (fun hh=>?_) fun hh=>?_|refine E_dq Aa (by kernel_rfl) Z ?_|refine yO Z Z ?_))
            all_goals (try (exfalso;omega))
            refine Ad (i+1) ⟨rfl,rfl,rfl,rfl,trivial⟩ ⟨by omega,hx,fun j hj=>?_⟩ (by omega)
            by_cases e:j=i
            · subst e
              rw [Bool.and_eq_true] at hid
              exact Lh hxi hid (.inr ⟨y,hyi,hlr⟩)
            · exact hall j (by omega)
          · rw [decide_eq_false hlr] at cp
            (repeat' (first|(refine yN Z (fun wq xq=>?_);replace hx:=hx.trans xq)|refine eV Z Z (A0 (m:=i) Z Z Z (by first|rfl|omega) (by omega)) ?_|refine yV Z Z (fun _ _ _=>A0 (m:=i-1) Z Z Z (by first|rfl|omega) (by omega)) ?_|refine An Z Z (fun _ _ _=>A3 Z Z en64) (fun wq _=>cp wq) ?_|(refine Du Z Z Z Z Z Z Z Z Z Z Z Z Z Z Z (fun bX wX xX hbX rX=>?_);replace hx:=hx.trans xX;replace haty:=haty.ext xX)|(refine cqC (c2 _) en56 fun wC xC=>?_;replace hx:=hx.trans xC;replace rX:=rX.ext xC;replace haty:=haty.ext xC)|(refine cqC (c3 _) en56 fun wC xC=>?_;replace hx:=hx.trans xC;replace rX:=rX.ext xC;replace haty:=haty.ext xC)|refine Ly ?_|refine Dy (fun hh=>?_) fun hh=>?_|refine yqY ?_|refine yqZ ?_|refine yqX (fun hh=>?_) fun hh=>?_|refine E_dq Aa (by kernel_rfl) Z ?_|refine yO Z Z ?_))
            all_goals (try (exfalso;omega))
            refine A5 Z Z ⟨?_,hx⟩
            rw [Bb hall hlt (by rw [Le hxi hid (by omega) hyi hlr];decide),Le hxi hid (by omega) hyi hlr]
  · (repeat' (first|refine Sy ?_|refine Dy (fun hh=>?_) fun hh=>?_))
    all_goals (try (exfalso;omega))
    exact A5 Z Z ⟨by rw [Gj (fun j hj=>hall j (by omega))],hx⟩
theorem Lj (lex : List En) (l : List Pnt) (ev v : Value) (w : World) (hT : Tabs w) (hl : Sl w ev lex) (hv : Sl w v l) : Calls Tryz.prog 25 #[ev, v] w (Rt fun u w' => u = int (I0 labB txtF lex l) ∧ Ext w w') := by
  have hv0:=hv
  obtain⟨a,c,rfl,_,hm,hpp⟩:=hv.sl
  refine A7 (n:=61) (args:=[ev,.slice a l.length c]) Tryz.func25 rfl Tryz.ntmps25 (by simp) ?_
  by_cases h40:40<l.length
  · have:I0 labB txtF lex l=11:=by unfold I0;rw [if_pos h40]
    rw [this]
    (repeat' (first|refine Sy ?_|refine Dy (fun hh=>?_) fun hh=>?_))
    all_goals (try (exfalso;omega))
    exact A5 Z Z ⟨rfl,Ext.refl _⟩
  have hP:I0 labB txtF lex l=D6 l.length (D1 labB txtF lex l):=by unfold I0;rw [if_neg h40]
  rw [hP]
  (repeat' (first|refine Sy ?_|refine Dy (fun hh=>?_) fun hh=>?_))
  all_goals (try (exfalso;omega))
  refine Ae (ι:=Nat) (fun i=>[(0,ev),(1,.slice a l.length c),(13,.slice a l.length c),(14,int l.length),(15,int i)]) (fun i wr=>i≤l.length∧Ext w wr∧∀ j,j<i→D1 labB txtF lex l j=0) (fun i=>l.length-i) 0
    ⟨rfl,rfl,rfl,rfl,rfl,trivial⟩ ⟨Nat.zero_le _,Ext.refl _,fun _ h=>absurd h (by omega)⟩ ?_
  rintro i wr ⟨hi,hx,hall⟩
  replace hv0:=hv0.ext hx;replace hl:=hl.ext hx
  by_cases hlt:i<l.length
  · obtain ⟨b, off, rfl⟩ := hpp (by omega)
    obtain⟨p,hpi⟩:∃ p,l[i]?=some p:=⟨_,List.getElem?_eq_getElem hlt⟩
    obtain⟨a0,c0,a1,c1,hat,hrep,he0,hr0⟩:=Iv hv0 hpi
    have ci:=fun wz=>Fg p.id wz
    cases hid:B0 p.id with
    | false=>
      rw [hid] at ci
      (repeat' (first|refine eV Z Z (A0 (m:=i) Z Z Z (by first|rfl|omega) (by omega)) ?_|(refine Du Z Z Z Z Z Z Z Z Z Z Z Z Z Z Z (fun bX wX xX hbX rX=>?_);replace hx:=hx.trans xX)|(refine cqC (ci _) en56 fun wC xC=>?_;replace hx:=hx.trans xC)|refine Ly ?_|refine Dy (fun hh=>?_) fun hh=>?_))
      all_goals (try (exfalso;omega))
      rw [Bb hall hlt (by rw [pt_id hpi hid];decide),pt_id hpi hid]
      exact A5 Z Z ⟨rfl,hx⟩
    | true=>
      rw [hid] at ci
      have hxr:=Ext.refl wr
      by_cases hup:i≠0∧∀ q,l[i-1]?=some q→¬ q.id<p.id
      · obtain⟨h0,hq⟩:=hup
        obtain⟨q,hqi⟩:∃ q,l[i-1]?=some q:=⟨_,List.getElem?_eq_getElem (by omega)⟩
        obtain⟨_,_,_,_,hatq,_⟩:=Iv hv0 hqi
        have hlq:=hq q hqi
        have hpt:=pt_ten (lab:=labB) (txt:=txtF) (lex:=lex) hpi hid (by omega) hqi hlq
        (repeat' (first|(refine yN Z (fun wq xq=>?_);replace hx:=hx.trans xq)|refine eV Z Z (A0 (m:=i) Z Z Z (by first|rfl|omega) (by omega)) ?_|refine yV Z Z (fun _ _ _=>A0 (m:=i-1) Z Z Z (by first|rfl|omega) (by omega)) ?_|(refine Du Z Z Z Z Z Z Z Z Z Z Z Z Z Z Z (fun bX wX xX hbX rX=>?_);replace hx:=hx.trans xX;replace hatq:=hatq.ext xX)|(refine cqC (ci _) en56 fun wC xC=>?_;replace hx:=hx.trans xC;replace hatq:=hatq.ext xC;replace rX:=rX.ext xC)|refine Ly ?_|refine Dy (fun hh=>?_) fun hh=>?_|refine yqY ?_|refine yqZ ?_|refine yqX (fun hh=>?_) fun hh=>?_|refine E_dq Aa (by kernel_rfl) Z ?_|refine yO Z Z ?_))
        all_goals (try (exfalso;omega))
        rw [Bb hall hlt (by rw [hpt];decide),hpt]
        exact A5 Z Z ⟨rfl,hx⟩
      · have hpt:D1 labB txtF lex l i=F3 labB txtF lex p:=by
          by_cases h0:i=0
          · subst h0;exact pt_zero hpi hid
          · obtain⟨q,hqi⟩:∃ q,l[i-1]?=some q:=⟨_,List.getElem?_eq_getElem (by omega)⟩
            refine pt_up hpi hid (by omega) hqi (Classical.byContradiction fun hn=>hup ⟨h0,fun q' hq'=>?_⟩)
            rw [hqi] at hq';cases hq';exact hn
        by_cases h0:i=0
        · (repeat' ((fail_if_success (refine Ac (x:=(Code.seq (Code.region 10 _ _) _)) ?_));first|(refine yN Z (fun wq xq=>?_);replace hx:=hx.trans xq;replace hxr:=hxr.trans xq;replace rX:=rX.ext xq)|refine eV Z Z (A0 (m:=i) Z Z Z (by first|rfl|omega) (by omega)) ?_|refine yV Z Z (fun _ _ _=>A0 (m:=i) Z Z Z (by first|rfl|omega) (by omega)) ?_|(refine Du Z Z Z Z Z Z Z Z Z Z Z Z Z Z Z (fun bX wX xX hbX rX=>?_);replace hx:=hx.trans xX;replace hxr:=hxr.trans xX)|(refine cqC (ci _) en56 fun wC xC=>?_;replace hx:=hx.trans xC;replace hxr:=hxr.trans xC;replace rX:=rX.ext xC)|refine Ly ?_|refine Dy (fun hh=>?_) fun hh=>?_|refine yqY ?_|refine yqZ ?_|refine yqX (fun hh=>?_) fun hh=>?_|refine E_dq Aa (by kernel_rfl) Z ?_|refine yO Z Z ?_))
          all_goals (try (exfalso;omega))
          refine E.sub (M:=[(0,ev),(1,.slice (some ⟨b,off,none⟩) l.length c),(6,.pointer (some ⟨bX,0,none⟩)),(13,.slice (some ⟨b,off,none⟩) l.length c),(14,int l.length),(15,int i)]) ⟨rfl,rfl,rfl,rfl,rfl,rfl,trivial⟩ ?_
          have cl:=fun wz (hz:Ext w wz)=>N1 p.title wz (hT.ext hz)
          cases hb:labB p.title with
          | false=>
            have hP:F3 labB txtF lex p=7:=by unfold F3;rw [hb];rfl
            rw [hb] at cl
            (repeat' (first|(refine cqC (cl _ hx) en57 fun wC xC=>?_;replace hx:=hx.trans xC)|refine Ly ?_))
            all_goals (try (exfalso;omega))
            rw [Bb hall hlt (by rw [hpt,hP];decide),hpt,hP]
            exact A5 Z Z ⟨rfl,hx⟩
          | true=>
            rw [hb] at cl
            have hP0:F3 labB txtF lex p=if txtF p.text≠0 then txtF p.text else if Ca lex p.entries≠0 then Ca lex p.entries else K4 p.refs:=by unfold F3;rw [hb];rfl
            have ct:=fun wz (hz:Ext w wz)=>Of p.text wz (hT.ext hz)
            have ce:=fun wz (hz:Ext wr wz)=>Ka lex p.entries ev _ wz (hl.ext hz) (he0.ext hz)
            have cr:=fun wz (hz:Ext wr wz)=>Ox p.refs _ wz (hr0.ext hz)
            obtain⟨tz,htz⟩:∃ z,txtF p.text=z:=⟨_,rfl⟩
            obtain⟨ez,hez⟩:∃ z,Ca lex p.entries=z:=⟨_,rfl⟩
            obtain⟨rz,hrz⟩:∃ z,K4 p.refs=z:=⟨_,rfl⟩
            rw [htz,hez,hrz] at hP0
            rw [htz] at ct
            rw [hez] at ce
            rw [hrz] at cr
            rw [hP0] at hpt
            by_cases h1:tz=0
            · rw [if_neg (by simpa using h1)] at hpt
              by_cases h2:ez=0
              · rw [if_neg (by simpa using h2)] at hpt
                (repeat' (first|(refine cqC (cl _ hx) en57 fun wC xC=>?_;replace hx:=hx.trans xC;replace hxr:=hxr.trans xC;replace rX:=rX.ext xC)|(refine cqC (ct _ hx) en58 fun wC xC=>?_;replace hx:=hx.trans xC;replace hxr:=hxr.trans xC;replace rX:=rX.ext xC)|(refine cqC (ce _ hxr) en59 fun wC xC=>?_;replace hx:=hx.trans xC;replace hxr:=hxr.trans xC;replace rX:=rX.ext xC)|(refine cqC (cr _ hxr) en60 fun wC xC=>?_;replace hx:=hx.trans xC;replace hxr:=hxr.trans xC;replace rX:=rX.ext xC)|refine Ly ?_|refine Dy (fun hh=>?_) fun hh=>?_))
                all_goals (try (exfalso;omega))
                · rw [Bb hall hlt (by rw [hpt];assumption),hpt]
                  exact A5 Z Z ⟨rfl,hx⟩
                · refine Ad (i+1) ⟨rfl,rfl,rfl,rfl,rfl,trivial⟩ ⟨by omega,hx,fun j hj=>?_⟩ (by omega)
                  by_cases e:j=i
                  · subst e;rw [hpt];omega
                  · exact hall j (by omega)
              · rw [if_pos h2] at hpt
                (repeat' (first|(refine cqC (cl _ hx) en57 fun wC xC=>?_;replace hx:=hx.trans xC;replace hxr:=hxr.trans xC;replace rX:=rX.ext xC)|(refine cqC (ct _ hx) en58 fun wC xC=>?_;replace hx:=hx.trans xC;replace hxr:=hxr.trans xC;replace rX:=rX.ext xC)|(refine cqC (ce _ hxr) en59 fun wC xC=>?_;replace hx:=hx.trans xC;replace hxr:=hxr.trans xC;replace rX:=rX.ext xC)|(refine cqC (cr _ hxr) en60 fun wC xC=>?_;replace hx:=hx.trans xC;replace hxr:=hxr.trans xC;replace rX:=rX.ext xC)|refine Ly ?_|refine Dy (fun hh=>?_) fun hh=>?_))
                all_goals (try (exfalso;omega))
                rw [Bb hall hlt (by rw [hpt];assumption),hpt]
                exact A5 Z Z ⟨rfl,hx⟩
            · rw [if_pos h1] at hpt
              (repeat' (first|(refine cqC (cl _ hx) en57 fun wC xC=>?_;replace hx:=hx.trans xC;replace hxr:=hxr.trans xC;replace rX:=rX.ext xC)|(refine cqC (ct _ hx) en58 fun wC xC=>?_;replace hx:=hx.trans xC;replace hxr:=hxr.trans xC;replace rX:=rX.ext xC)|(refine cqC (ce _ hxr) en59 fun wC xC=>?_;replace hx:=hx.trans xC;replace hxr:=hxr.trans xC;replace rX:=rX.ext xC)|(refine cqC (cr _ hxr) en60 fun wC xC=>?_;replace hx:=hx.trans xC;replace hxr:=hxr.trans xC;replace rX:=rX.ext xC)|refine Ly ?_|refine Dy (fun hh=>?_) fun hh=>?_))
              all_goals (try (exfalso;omega))
              rw [Bb hall hlt (by rw [hpt];assumption),hpt]
              exact A5 Z Z ⟨rfl,hx⟩
        · obtain ⟨q, hqi⟩ : ∃ q, l[i - 1]? = some q := ⟨_, List.getElem?_eq_getElem (by omega)⟩
          obtain⟨_,_,_,_,hatq,_⟩:=Iv hv0 hqi
          have hlq:q.id<p.id:=Classical.byContradiction fun hn=>hup ⟨h0,fun q' hq'=>by rw [hqi] at hq';cases hq';exact hn⟩
          (repeat' ((fail_if_success (refine Ac (x:=(Code.seq (Code.region 10 _ _) _)) ?_));first|(refine yN Z (fun wq xq=>?_);replace hx:=hx.trans xq;replace hxr:=hxr.trans xq;replace rX:=rX.ext xq)|refine eV Z Z (A0 (m:=i) Z Z Z (by first|rfl|omega) (by omega)) ?_|refine yV Z Z (fun _ _ _=>A0 (m:=i-1) Z Z Z (by first|rfl|omega) (by omega)) ?_|(refine Du Z Z Z Z Z Z Z Z Z Z Z Z Z Z Z (fun bX wX xX hbX rX=>?_);replace hx:=hx.trans xX;replace hxr:=hxr.trans xX;replace hatq:=hatq.ext xX)|(refine cqC (ci _) en56 fun wC xC=>?_;replace hx:=hx.trans xC;replace hxr:=hxr.trans xC;replace hatq:=hatq.ext xC;replace rX:=rX.ext xC)|refine Ly ?_|refine Dy (fun hh=>?_) fun hh=>?_|refine yqY ?_|refine yqZ ?_|refine yqX (fun hh=>?_) fun hh=>?_|refine E_dq Aa (by kernel_rfl) Z ?_|refine yO Z Z ?_))
          all_goals (try (exfalso;omega))
          refine E.sub (M:=[(0,ev),(1,.slice (some ⟨b,off,none⟩) l.length c),(6,.pointer (some ⟨bX,0,none⟩)),(13,.slice (some ⟨b,off,none⟩) l.length c),(14,int l.length),(15,int i)]) ⟨rfl,rfl,rfl,rfl,rfl,rfl,trivial⟩ ?_
          have cl:=fun wz (hz:Ext w wz)=>N1 p.title wz (hT.ext hz)
          cases hb:labB p.title with
          | false=>
            have hP:F3 labB txtF lex p=7:=by unfold F3;rw [hb];rfl
            rw [hb] at cl
            (repeat' (first|(refine cqC (cl _ hx) en57 fun wC xC=>?_;replace hx:=hx.trans xC)|refine Ly ?_))
            all_goals (try (exfalso;omega))
            rw [Bb hall hlt (by rw [hpt,hP];decide),hpt,hP]
            exact A5 Z Z ⟨rfl,hx⟩
          | true=>
            rw [hb] at cl
            have hP0:F3 labB txtF lex p=if txtF p.text≠0 then txtF p.text else if Ca lex p.entries≠0 then Ca lex p.entries else K4 p.refs:=by unfold F3;rw [hb];rfl
            have ct:=fun wz (hz:Ext w wz)=>Of p.text wz (hT.ext hz)
            have ce:=fun wz (hz:Ext wr wz)=>Ka lex p.entries ev _ wz (hl.ext hz) (he0.ext hz)
            have cr:=fun wz (hz:Ext wr wz)=>Ox p.refs _ wz (hr0.ext hz)
            obtain⟨tz,htz⟩:∃ z,txtF p.text=z:=⟨_,rfl⟩
            obtain⟨ez,hez⟩:∃ z,Ca lex p.entries=z:=⟨_,rfl⟩
            obtain⟨rz,hrz⟩:∃ z,K4 p.refs=z:=⟨_,rfl⟩
            rw [htz,hez,hrz] at hP0
            rw [htz] at ct
            rw [hez] at ce
            rw [hrz] at cr
            rw [hP0] at hpt
            by_cases h1:tz=0
            · rw [if_neg (by simpa using h1)] at hpt
              by_cases h2:ez=0
              · rw [if_neg (by simpa using h2)] at hpt
                (repeat' (first|(refine cqC (cl _ hx) en57 fun wC xC=>?_;replace hx:=hx.trans xC;replace hxr:=hxr.trans xC;replace rX:=rX.ext xC)|(refine cqC (ct _ hx) en58 fun wC xC=>?_;replace hx:=hx.trans xC;replace hxr:=hxr.trans xC;replace rX:=rX.ext xC)|(refine cqC (ce _ hxr) en59 fun wC xC=>?_;replace hx:=hx.trans xC;replace hxr:=hxr.trans xC;replace rX:=rX.ext xC)|(refine cqC (cr _ hxr) en60 fun wC xC=>?_;replace hx:=hx.trans xC;replace hxr:=hxr.trans xC;replace rX:=rX.ext xC)|refine Ly ?_|refine Dy (fun hh=>?_) fun hh=>?_))
                all_goals (try (exfalso;omega))
                · rw [Bb hall hlt (by rw [hpt];assumption),hpt]
                  exact A5 Z Z ⟨rfl,hx⟩
                · refine Ad (i+1) ⟨rfl,rfl,rfl,rfl,rfl,trivial⟩ ⟨by omega,hx,fun j hj=>?_⟩ (by omega)
                  by_cases e:j=i
                  · subst e;rw [hpt];omega
                  · exact hall j (by omega)
              · rw [if_pos h2] at hpt
                (repeat' (first|(refine cqC (cl _ hx) en57 fun wC xC=>?_;replace hx:=hx.trans xC;replace hxr:=hxr.trans xC;replace rX:=rX.ext xC)|(refine cqC (ct _ hx) en58 fun wC xC=>?_;replace hx:=hx.trans xC;replace hxr:=hxr.trans xC;replace rX:=rX.ext xC)|(refine cqC (ce _ hxr) en59 fun wC xC=>?_;replace hx:=hx.trans xC;replace hxr:=hxr.trans xC;replace rX:=rX.ext xC)|(refine cqC (cr _ hxr) en60 fun wC xC=>?_;replace hx:=hx.trans xC;replace hxr:=hxr.trans xC;replace rX:=rX.ext xC)|refine Ly ?_|refine Dy (fun hh=>?_) fun hh=>?_))
                all_goals (try (exfalso;omega))
                rw [Bb hall hlt (by rw [hpt];assumption),hpt]
                exact A5 Z Z ⟨rfl,hx⟩
            · rw [if_pos h1] at hpt
              (repeat' (first|(refine cqC (cl _ hx) en57 fun wC xC=>?_;replace hx:=hx.trans xC;replace hxr:=hxr.trans xC;replace rX:=rX.ext xC)|(refine cqC (ct _ hx) en58 fun wC xC=>?_;replace hx:=hx.trans xC;replace hxr:=hxr.trans xC;replace rX:=rX.ext xC)|(refine cqC (ce _ hxr) en59 fun wC xC=>?_;replace hx:=hx.trans xC;replace hxr:=hxr.trans xC;replace rX:=rX.ext xC)|(refine cqC (cr _ hxr) en60 fun wC xC=>?_;replace hx:=hx.trans xC;replace hxr:=hxr.trans xC;replace rX:=rX.ext xC)|refine Ly ?_|refine Dy (fun hh=>?_) fun hh=>?_))
              all_goals (try (exfalso;omega))
              rw [Bb hall hlt (by rw [hpt];assumption),hpt]
              exact A5 Z Z ⟨rfl,hx⟩
  · rw [Gj (fun j hj=>hall j (by omega))]
    (repeat' (first|refine Sy ?_|refine Dy (fun hh=>?_) fun hh=>?_))
    all_goals (try (exfalso;omega))
    exact A5 Z Z ⟨rfl,hx⟩
end Go.Proofs.YtjicdgejhkgpgaaGreatDoor
