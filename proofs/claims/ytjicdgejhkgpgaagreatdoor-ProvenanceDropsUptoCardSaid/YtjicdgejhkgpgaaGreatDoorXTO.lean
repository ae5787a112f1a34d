/-
  Own text of the proof.
-/
import Derived.Test.YtjicdgejhkgpgaaGreatDoorYn
import Derived.Test.YtjicdgejhkgpgaaGreatDoorY8
import Derived.Test.YtjicdgejhkgpgaaGreatDoorY3
set_option linter.all false
set_option maxHeartbeats 4000000
set_option maxRecDepth 8000
namespace Go.Proofs.YtjicdgejhkgpgaaGreatDoor
open Go.RowKit Go.En Go.Pv
attribute [local irreducible] E EL K Val Enters Rt Calls bodyPost Code.wp RQ
theorem A1l (lex:List En) (l:List Int) (ev v:Value) (w:World) (hl:Sl w ev lex) (hv:Sl w v l):Calls Tryz.prog 59 #[ev,v] w (Rt fun u w'=>u=int (J5 lex l)∧Ext w w'):=by
  have hv0:=hv
  obtain⟨a,c,rfl,_,hm,hpp⟩:=hv.sl
  refine A6 (n:=41) (args:=[ev,.slice a l.length c]) Tryz.func59 rfl Tryz.ntmps59 (by simp) ?_
  (repeat' (first|refine Sy ?_))
  have h00:∀ j,j<1→upAt l j=0:=fun j hj=>by
    obtain rfl:j=0:=by omega
    exact C3q
  refine B0 (ι:=Nat) (fun i=>[(0,ev),(1,.slice a l.length c),(5,int i)]) (fun i wr=>1≤i∧Ext w wr∧∀ j,j<i→upAt l j=0) (fun i=>l.length-i) 1
    ⟨rfl,rfl,rfl,trivial⟩ ⟨Nat.le_refl _,Ext.refl _,h00⟩ ?_
  rintro i wr ⟨hi,hx,hall⟩
  replace hv0:=hv0.ext hx
  by_cases hlt:i<l.length
  · obtain⟨b,off,rfl⟩:=hpp (by omega)
    obtain⟨x,hxi⟩:∃ x,l[i]?=some x:=⟨_,List.getElem?_eq_getElem hlt⟩
    obtain⟨y,hyi⟩:∃ y,l[i-1]?=some y:=⟨_,List.getElem?_eq_getElem (by omega)⟩
    have h1:=(Go.Pv.int_elem hv0 hxi).one
    have h2:=(Go.Pv.int_elem hv0 hyi).one
    (repeat' (first|refine yV Z Z (fun _ _ _=>A0 (m:=i) Z Z Z (by first|rfl|omega) (by omega)) ?_|refine yV Z Z (fun _ _ _=>A0 (m:=i-1) Z Z Z (by first|rfl|omega) (by omega)) ?_|refine Sy ?_|refine Dy (fun hh=>?_) fun hh=>?_|refine yqY ?_|refine yqZ ?_|refine yqX (fun hh=>?_) fun hh=>?_|refine E_dq B5 (by kernel_rfl) Z ?_|refine yN Z (fun wq xq=>?_)))
    all_goals (try (exfalso;omega))
    · have e0:M5 l.length (upAt l)=10:=by rw [D9 hall hlt (by rw [C3p hxi (by omega) hyi (by omega)];decide),C3p hxi (by omega) hyi (by omega)]
      have:J5 lex l=10:=by unfold J5;rw [e0,if_pos (by decide)]
      rw [this]
      exact A4 Z Z ⟨rfl,hx.trans xq⟩
    · refine B3 (i+1) ⟨rfl,rfl,rfl,trivial⟩ ⟨by omega,hx.trans xq,fun j hj=>?_⟩ (by omega)
      by_cases e:j=i
      · subst e;exact up_zero hxi (by omega) hyi (by omega)
      · exact hall j (by omega)
  · have hE:J5 lex l=M5 l.length (A0k lex l):=by unfold J5;rw [if_neg (by simpa using S3 (fun j hj=>hall j (by omega)))]
    rw [hE]
    (repeat' (first|refine Sy ?_|refine Dy (fun hh=>?_) fun hh=>?_))
    all_goals (try (exfalso;omega))
    refine B0 (ι:=Nat) (fun i=>[(0,ev),(26,.slice a l.length c),(27,int l.length),(28,int i)]) (fun i wr=>i≤l.length∧Ext w wr∧∀ j,j<i→A0k lex l j=0) (fun i=>l.length-i) 0
      ⟨rfl,rfl,rfl,rfl,trivial⟩ ⟨Nat.zero_le _,hx,fun _ h=>absurd h (by omega)⟩ ?_
    clear hx hv0 hall
    rename_i hvw
    rintro i w2 ⟨hi,hx,hall⟩
    have hv0:=hv.ext hx
    by_cases hlt:i<l.length
    · obtain⟨b,off,rfl⟩:=hpp (by omega)
      obtain⟨x,hxi⟩:∃ x,l[i]?=some x:=⟨_,List.getElem?_eq_getElem hlt⟩
      have hcx:=(Go.Pv.int_elem hv0 hxi).one
      obtain⟨Y,hrepY,ce⟩:=A1b lex x ev w hl
      obtain⟨e0,k0,e1,k1,e2,k2,e3,k3,e4,k4,rfl,_⟩:=K4 hrepY
      cases hbx:(getE lex x).isSome with
      | true=>
        rw [hbx] at ce
        (repeat' (first|refine eV Z Z (A0 (m:=i) Z Z Z (by first|rfl|omega) (by omega)) ?_|(refine cqC (ce _ hx) en48 fun wC xC=>?_;replace hx:=hx.trans xC)|(refine C1 Z Z Z Z Z Z Z Z Z Z (fun bN wN xN hbN rN=>?_);replace hx:=hx.trans xN)|refine Ly ?_|refine Dy (fun hh=>?_) fun hh=>?_))
        all_goals (try (exfalso;omega))
        refine B3 (i+1) ⟨rfl,rfl,rfl,rfl,trivial⟩ ⟨by omega,hx,fun j hj=>?_⟩ (by omega)
        by_cases e:j=i
        · subst e;exact C1x hxi hbx
        · exact hall j (by omega)
      | false=>
        rw [hbx] at ce
        (repeat' (first|refine eV Z Z (A0 (m:=i) Z Z Z (by first|rfl|omega) (by omega)) ?_|(refine cqC (ce _ hx) en48 fun wC xC=>?_;replace hx:=hx.trans xC)|(refine C1 Z Z Z Z Z Z Z Z Z Z (fun bN wN xN hbN rN=>?_);replace hx:=hx.trans xN)|refine Ly ?_|refine Dy (fun hh=>?_) fun hh=>?_))
        all_goals (try (exfalso;omega))
        have hf:M5 l.length (A0k lex l)=9:=by rw [D9 hall hlt (by rw [A9p hxi hbx];decide),A9p hxi hbx]
        rw [hf]
        exact A4 Z Z ⟨rfl,hx⟩
    · rw [S3 (fun j hj=>hall j (by omega))]
      (repeat' (first|refine Sy ?_|refine Dy (fun hh=>?_) fun hh=>?_))
      all_goals (try (exfalso;omega))
      exact A4 Z Z ⟨rfl,hx⟩
theorem A6o (l : List Rf) (v : Value) (w : World) (hv : Sl w v l) : Calls Tryz.prog 60 #[v] w (Rt fun u w' => u = int (A1h l) ∧ Ext w w') := by
  have hv0:=hv
  obtain⟨a,c,rfl,_,hm,hpp⟩:=hv.sl
  refine A6 (n:=43) (args:=[.slice a l.length c]) Tryz.func60 rfl Tryz.ntmps60 (by simp) ?_
  by_cases h12:l.length=0∨12<l.length
  · have:A1h l=24:=by unfold A1h;rw [if_pos h12]
    rw [this]
    (repeat' (first|refine Sy ?_|refine Dy (fun hh=>?_) fun hh=>?_))
    all_goals (try (exfalso;omega))
    all_goals exact A4 Z Z ⟨rfl,Ext.refl _⟩
  have hR:A1h l=M5 l.length (A0g l):=by unfold A1h;rw [if_neg h12]
  rw [hR]
  (repeat' (first|refine Sy ?_|refine Dy (fun hh=>?_) fun hh=>?_))
  all_goals (try (exfalso;omega))
  refine B0 (ι:=Nat) (fun i=>[(0,.slice a l.length c),(13,.slice a l.length c),(14,int l.length),(15,int i)]) (fun i wr=>i≤l.length∧Ext w wr∧∀ j,j<i→A0g l j=0) (fun i=>l.length-i) 0
    ⟨rfl,rfl,rfl,rfl,trivial⟩ ⟨Nat.zero_le _,Ext.refl _,fun _ h=>absurd h (by omega)⟩ ?_
  rintro i wr ⟨hi,hx,hall⟩
  replace hv0:=hv0.ext hx
  by_cases hlt:i<l.length
  · obtain⟨b,off,rfl⟩:=hpp (by omega)
    obtain⟨x,hxi⟩:∃ x,l[i]?=some x:=⟨_,List.getElem?_eq_getElem hlt⟩
    have hat:=O8 hv0 hxi
    have c1:=fun z wz=>P6 z wz
    cases hi1:D0 x.rcd with
    | false=>
      have hid:(D0 x.rcd&&D0 x.note)=false:=by rw [hi1];rfl
      have c2:=fun wz=>P6 x.rcd wz
      rw [hi1] at c2
      (repeat' (first|refine eV Z Z (A0 (m:=i) Z Z Z (by first|rfl|omega) (by omega)) ?_|(refine K5 Z Z Z Z Z Z Z Z Z Z Z Z Z Z Z (fun bX wX xX hbX rX=>?_);replace hx:=hx.trans xX)|(refine cqC (c2 _) en56 fun wC xC=>?_;replace hx:=hx.trans xC;replace rX:=rX.ext xC)|refine Ly ?_|refine Dy (fun hh=>?_) fun hh=>?_))
      all_goals (try (exfalso;omega))
      refine A4 Z Z ⟨?_,hx⟩
      rw [D9 hall hlt (by rw [V9 hxi hid];decide),V9 hxi hid]
    | true=>
      have c2:=fun wz=>P6 x.rcd wz
      have c3:=fun wz=>P6 x.note wz
      rw [hi1] at c2
      cases hi2:D0 x.note with
      | false=>
        have hid:(D0 x.rcd&&D0 x.note)=false:=by rw [hi1,hi2];rfl
        rw [hi2] at c3
        (repeat' (first|refine eV Z Z (A0 (m:=i) Z Z Z (by first|rfl|omega) (by omega)) ?_|(refine K5 Z Z Z Z Z Z Z Z Z Z Z Z Z Z Z (fun bX wX xX hbX rX=>?_);replace hx:=hx.trans xX)|(refine cqC (c2 _) en56 fun wC xC=>?_;replace hx:=hx.trans xC;replace rX:=rX.ext xC)|(refine cqC (c3 _) en56 fun wC xC=>?_;replace hx:=hx.trans xC;replace rX:=rX.ext xC)|refine Ly ?_|refine Dy (fun hh=>?_) fun hh=>?_))
        all_goals (try (exfalso;omega))
        refine A4 Z Z ⟨?_,hx⟩
        rw [D9 hall hlt (by rw [V9 hxi hid];decide),V9 hxi hid]
      | true=>
        have hid:(D0 x.rcd&&D0 x.note)=true:=by rw [hi1,hi2];rfl
        rw [hi2] at c3
        by_cases h0:i=0
        · subst h0
          (repeat' (first|(refine yN Z (fun wq xq=>?_);replace hx:=hx.trans xq)|refine eV Z Z (A0 (m:=0) Z Z Z (by first|rfl|omega) (by omega)) ?_|(refine K5 Z Z Z Z Z Z Z Z Z Z Z Z Z Z Z (fun bX wX xX hbX rX=>?_);replace hx:=hx.trans xX)|(refine cqC (c2 _) en56 fun wC xC=>?_;replace hx:=hx.trans xC;replace rX:=rX.ext xC)|(refine cqC (c3 _) en56 fun wC xC=>?_;replace hx:=hx.trans xC;replace rX:=rX.ext xC)|refine Ly ?_|refine Dy (fun hh=>?_) fun hh=>?_|refine yqZ ?_|refine yqX (fun hh=>?_) fun hh=>?_|refine E_dq B5 (by kernel_rfl) Z ?_|refine yO Z Z ?_))
          all_goals (try (exfalso;omega))
          refine B3 (0+1) ⟨rfl,rfl,rfl,rfl,trivial⟩ ⟨by omega,hx,fun j hj=>?_⟩ (by omega)
          obtain rfl:j=0:=by omega
          rw [Bool.and_eq_true] at hid
          exact A2r hxi hid (.inl rfl)
        · obtain⟨y,hyi⟩:∃ y,l[i-1]?=some y:=⟨_,List.getElem?_eq_getElem (by omega)⟩
          have haty:=O8 hv0 hyi
          have cp:=fun wz=>A6r y x wz
          by_cases hlr:ltR y x
          · rw [decide_eq_true hlr] at cp
            (repeat' (first|(refine yN Z (fun wq xq=>?_);replace hx:=hx.trans xq)|refine eV Z Z (A0 (m:=i) Z Z Z (by first|rfl|omega) (by omega)) ?_|refine yV Z Z (fun _ _ _=>A0 (m:=i-1) Z Z Z (by first|rfl|omega) (by omega)) ?_|refine C4 Z Z (fun _ _ _=>A5 Z Z en64) (fun wq _=>cp wq) ?_|(refine K5 Z Z Z Z Z Z Z Z Z Z Z Z Z Z Z (fun bX wX xX hbX rX=>?_);replace hx:=hx.trans xX;replace haty:=haty.ext xX)|(refine cqC (c2 _) en56 fun wC xC=>?_;replace hx:=hx.trans xC;replace rX:=rX.ext xC;replace haty:=haty.ext xC)|(refine cqC (c3 _) en56 fun wC xC=>?_;replace hx:=hx.trans xC;replace rX:=rX.ext xC;replace haty:=haty.ext xC)|refine Ly ?_|refine Dy (fun hh=>?_) fun hh=>?_|refine yqY ?_|refine yqZ ?_|refine yqX (fun hh=>?_) fun hh=>?_|refine E_dq B5 (by kernel_rfl) Z ?_|refine yO Z Z ?_))
            all_goals (try (exfalso;omega))
            refine B3 (i+1) ⟨rfl,rfl,rfl,rfl,trivial⟩ ⟨by omega,hx,fun j hj=>?_⟩ (by omega)
            by_cases e:j=i
            · subst e
              rw [Bool.and_eq_true] at hid
              exact A2r hxi hid (.inr ⟨y,hyi,hlr⟩)
            · exact hall j (by omega)
          · rw [decide_eq_false hlr] at cp
            (repeat' (first|(refine yN Z (fun wq xq=>?_);replace hx:=hx.trans xq)|refine eV Z Z (A0 (m:=i) Z Z Z (by first|rfl|omega) (by omega)) ?_|refine yV Z Z (fun _ _ _=>A0 (m:=i-1) Z Z Z (by first|rfl|omega) (by omega)) ?_|refine C4 Z Z (fun _ _ _=>A5 Z Z en64) (fun wq _=>cp wq) ?_|(refine K5 Z Z Z Z Z Z Z Z Z Z Z Z Z Z Z (fun bX wX xX hbX rX=>?_);replace hx:=hx.trans xX;replace haty:=haty.ext xX)|(refine cqC (c2 _) en56 fun wC xC=>?_;replace hx:=hx.trans xC;replace rX:=rX.ext xC;replace haty:=haty.ext xC)|(refine cqC (c3 _) en56 fun wC xC=>?_;replace hx:=hx.trans xC;replace rX:=rX.ext xC;replace haty:=haty.ext xC)|refine Ly ?_|refine Dy (fun hh=>?_) fun hh=>?_|refine yqY ?_|refine yqZ ?_|refine yqX (fun hh=>?_) fun hh=>?_|refine E_dq B5 (by kernel_rfl) Z ?_|refine yO Z Z ?_))
            all_goals (try (exfalso;omega))
            refine A4 Z Z ⟨?_,hx⟩
            rw [D9 hall hlt (by rw [A2q hxi hid (by omega) hyi hlr];decide),A2q hxi hid (by omega) hyi hlr]
  · (repeat' (first|refine Sy ?_|refine Dy (fun hh=>?_) fun hh=>?_))
    all_goals (try (exfalso;omega))
    exact A4 Z Z ⟨by rw [S3 (fun j hj=>hall j (by omega))],hx⟩
theorem A2t (lex : List En) (l : List Pnt) (ev v : Value) (w : World) (hT : Tabs w) (hl : Sl w ev lex) (hv : Sl w v l) : Calls Tryz.prog 25 #[ev, v] w (Rt fun u w' => u = int (Y1 labB txtF lex l) ∧ Ext w w') := by
  have hv0:=hv
  obtain⟨a,c,rfl,_,hm,hpp⟩:=hv.sl
  refine A6 (n:=61) (args:=[ev,.slice a l.length c]) Tryz.func25 rfl Tryz.ntmps25 (by simp) ?_
  by_cases h40:40<l.length
  · have:Y1 labB txtF lex l=11:=by unfold Y1;rw [if_pos h40]
    rw [this]
    (repeat' (first|refine Sy ?_|refine Dy (fun hh=>?_) fun hh=>?_))
    all_goals (try (exfalso;omega))
    exact A4 Z Z ⟨rfl,Ext.refl _⟩
  have hP:Y1 labB txtF lex l=M5 l.length (L8 labB txtF lex l):=by unfold Y1;rw [if_neg h40]
  rw [hP]
  (repeat' (first|refine Sy ?_|refine Dy (fun hh=>?_) fun hh=>?_))
  all_goals (try (exfalso;omega))
  refine B0 (ι:=Nat) (fun i=>[(0,ev),(1,.slice a l.length c),(13,.slice a l.length c),(14,int l.length),(15,int i)]) (fun i wr=>i≤l.length∧Ext w wr∧∀ j,j<i→L8 labB txtF lex l j=0) (fun i=>l.length-i) 0
    ⟨rfl,rfl,rfl,rfl,rfl,trivial⟩ ⟨Nat.zero_le _,Ext.refl _,fun _ h=>absurd h (by omega)⟩ ?_
  rintro i wr ⟨hi,hx,hall⟩
  replace hv0:=hv0.ext hx;replace hl:=hl.ext hx
  by_cases hlt:i<l.length
  · obtain ⟨b, off, rfl⟩ := hpp (by omega)
    obtain⟨p,hpi⟩:∃ p,l[i]?=some p:=⟨_,List.getElem?_eq_getElem hlt⟩
    obtain⟨a0,c0,a1,c1,hat,hrep,he0,hr0⟩:=A0i hv0 hpi
    have ci:=fun wz=>P6 p.id wz
    cases hid:D0 p.id with
    | false=>
      rw [hid] at ci
      (repeat' (first|refine eV Z Z (A0 (m:=i) Z Z Z (by first|rfl|omega) (by omega)) ?_|(refine K5 Z Z Z Z Z Z Z Z Z Z Z Z Z Z Z (fun bX wX xX hbX rX=>?_);replace hx:=hx.trans xX)|(refine cqC (ci _) en56 fun wC xC=>?_;replace hx:=hx.trans xC)|refine Ly ?_|refine Dy (fun hh=>?_) fun hh=>?_))
      all_goals (try (exfalso;omega))
      rw [D9 hall hlt (by rw [pt_id hpi hid];decide),pt_id hpi hid]
      exact A4 Z Z ⟨rfl,hx⟩
    | true=>
      rw [hid] at ci
      have hxr:=Ext.refl wr
      by_cases hup:i≠0∧∀ q,l[i-1]?=some q→¬ q.id<p.id
      · obtain⟨h0,hq⟩:=hup
        obtain⟨q,hqi⟩:∃ q,l[i-1]?=some q:=⟨_,List.getElem?_eq_getElem (by omega)⟩
        obtain⟨_,_,_,_,hatq,_⟩:=A0i hv0 hqi
        have hlq:=hq q hqi
        have hpt:=pt_ten (lab:=labB) (txt:=txtF) (lex:=lex) hpi hid (by omega) hqi hlq
        (repeat' (first|(refine yN Z (fun wq xq=>?_);replace hx:=hx.trans xq)|refine eV Z Z (A0 (m:=i) Z Z Z (by first|rfl|omega) (by omega)) ?_|refine yV Z Z (fun _ _ _=>A0 (m:=i-1) Z Z Z (by first|rfl|omega) (by omega)) ?_|(refine K5 Z Z Z Z Z Z Z Z Z Z Z Z Z Z Z (fun bX wX xX hbX rX=>?_);replace hx:=hx.trans xX;replace hatq:=hatq.ext xX)|(refine cqC (ci _) en56 fun wC xC=>?_;replace hx:=hx.trans xC;replace hatq:=hatq.ext xC;replace rX:=rX.ext xC)|refine Ly ?_|refine Dy (fun hh=>?_) fun hh=>?_|refine yqY ?_|refine yqZ ?_|refine yqX (fun hh=>?_) fun hh=>?_|refine E_dq B5 (by kernel_rfl) Z ?_|refine yO Z Z ?_))
        all_goals (try (exfalso;omega))
        rw [D9 hall hlt (by rw [hpt];decide),hpt]
        exact A4 Z Z ⟨rfl,hx⟩
      · have hpt:L8 labB txtF lex l i=O1 labB txtF lex p:=by
          by_cases h0:i=0
          · subst h0;exact pt_zero hpi hid
          · obtain⟨q,hqi⟩:∃ q,l[i-1]?=some q:=⟨_,List.getElem?_eq_getElem (by omega)⟩
            refine pt_up hpi hid (by omega) hqi (Classical.byContradiction fun hn=>hup ⟨h0,fun q' hq'=>?_⟩)
            rw [hqi] at hq';cases hq';exact hn
        by_cases h0:i=0
        · (repeat' ((fail_if_success (refine B4 (x:=(Code.seq (Code.region 10 _ _) _)) ?_));first|(refine yN Z (fun wq xq=>?_);replace hx:=hx.trans xq;replace hxr:=hxr.trans xq;replace rX:=rX.ext xq)|refine eV Z Z (A0 (m:=i) Z Z Z (by first|rfl|omega) (by omega)) ?_|refine yV Z Z (fun _ _ _=>A0 (m:=i) Z Z Z (by first|rfl|omega) (by omega)) ?_|(refine K5 Z Z Z Z Z Z Z Z Z Z Z Z Z Z Z (fun bX wX xX hbX rX=>?_);replace hx:=hx.trans xX;replace hxr:=hxr.trans xX)|(refine cqC (ci _) en56 fun wC xC=>?_;replace hx:=hx.trans xC;replace hxr:=hxr.trans xC;replace rX:=rX.ext xC)|refine Ly ?_|refine Dy (fun hh=>?_) fun hh=>?_|refine yqY ?_|refine yqZ ?_|refine yqX (fun hh=>?_) fun hh=>?_|refine E_dq B5 (by kernel_rfl) Z ?_|refine yO Z Z ?_))
          all_goals (try (exfalso;omega))
          refine E.sub (M:=[(0,ev),(1,.slice (some ⟨b,off,none⟩) l.length c),(6,.pointer (some ⟨bX,0,none⟩)),(13,.slice (some ⟨b,off,none⟩) l.length c),(14,int l.length),(15,int i)]) ⟨rfl,rfl,rfl,rfl,rfl,rfl,trivial⟩ ?_
          have cl:=fun wz (hz:Ext w wz)=>A4s p.title wz (hT.ext hz)
          cases hb:labB p.title with
          | false=>
            have hP:O1 labB txtF lex p=7:=by unfold O1;rw [hb];rfl
            rw [hb] at cl
            (repeat' (first|(refine cqC (cl _ hx) en57 fun wC xC=>?_;replace hx:=hx.trans xC)|refine Ly ?_))
            all_goals (try (exfalso;omega))
            rw [D9 hall hlt (by rw [hpt,hP];decide),hpt,hP]
            exact A4 Z Z ⟨rfl,hx⟩
          | true=>
            rw [hb] at cl
            have hP0:O1 labB txtF lex p=if txtF p.text≠0 then txtF p.text else if J5 lex p.entries≠0 then J5 lex p.entries else A1h p.refs:=by unfold O1;rw [hb];rfl
            have ct:=fun wz (hz:Ext w wz)=>A6b p.text wz (hT.ext hz)
            have ce:=fun wz (hz:Ext wr wz)=>A1l lex p.entries ev _ wz (hl.ext hz) (he0.ext hz)
            have cr:=fun wz (hz:Ext wr wz)=>A6o p.refs _ wz (hr0.ext hz)
            obtain⟨tz,htz⟩:∃ z,txtF p.text=z:=⟨_,rfl⟩
            obtain⟨ez,hez⟩:∃ z,J5 lex p.entries=z:=⟨_,rfl⟩
            obtain⟨rz,hrz⟩:∃ z,A1h p.refs=z:=⟨_,rfl⟩
            rw [htz,hez,hrz] at hP0
            rw [htz] at ct
            rw [hez] at ce
            rw [hrz] at cr
            rw [hP0] at hpt
            by_cases h1:tz=0
            · rw [if_neg (by simpa using h1)] at hpt
              by_cases h2:ez=0
              · rw [if_neg (by simpa using h2)] at hpt
                (repeat' (first|(refine cqC (cl _ hx) en57 fun wC xC=>?_;replace hx:=hx.trans xC;replace hxr:=hxr.trans xC;replace rX:=rX.ext xC)|(refine cqC (ct _ hx) en58 fun wC xC=>?_;replace hx:=hx.trans xC;replace hxr:=hxr.trans xC;replace rX:=rX.ext xC)|(refine cqC (ce _ hxr) en59 fun wC xC=>?_;replace hx:=hx.trans xC;replace hxr:=hxr.trans xC;replace rX:=rX.ext xC)|(refine cqC (cr _ hxr) en60 fun wC xC=>?_;replace hx:=hx.trans xC;replace hxr:=hxr.trans xC;replace rX:=rX.ext xC)|refine Ly ?_|refine Dy (fun hh=>?_) fun hh=>?_))
                all_goals (try (exfalso;omega))
                · rw [D9 hall hlt (by rw [hpt];assumption),hpt]
                  exact A4 Z Z ⟨rfl,hx⟩
                · refine B3 (i+1) ⟨rfl,rfl,rfl,rfl,rfl,trivial⟩ ⟨by omega,hx,fun j hj=>?_⟩ (by omega)
                  by_cases e:j=i
                  · subst e;rw [hpt];omega
                  · exact hall j (by omega)
              · rw [if_pos h2] at hpt
                (repeat' (first|(refine cqC (cl _ hx) en57 fun wC xC=>?_;replace hx:=hx.trans xC;replace hxr:=hxr.trans xC;replace rX:=rX.ext xC)|(refine cqC (ct _ hx) en58 fun wC xC=>?_;replace hx:=hx.trans xC;replace hxr:=hxr.trans xC;replace rX:=rX.ext xC)|(refine cqC (ce _ hxr) en59 fun wC xC=>?_;replace hx:=hx.trans xC;replace hxr:=hxr.trans xC;replace rX:=rX.ext xC)|(refine cqC (cr _ hxr) en60 fun wC xC=>?_;replace hx:=hx.trans xC;replace hxr:=hxr.trans xC;replace rX:=rX.ext xC)|refine Ly ?_|refine Dy (fun hh=>?_) fun hh=>?_))
                all_goals (try (exfalso;omega))
                rw [D9 hall hlt (by rw [hpt];assumption),hpt]
                exact A4 Z Z ⟨rfl,hx⟩
            · rw [if_pos h1] at hpt
              (repeat' (first|(refine cqC (cl _ hx) en57 fun wC xC=>?_;replace hx:=hx.trans xC;replace hxr:=hxr.trans xC;replace rX:=rX.ext xC)|(refine cqC (ct _ hx) en58 fun wC xC=>?_;replace hx:=hx.trans xC;replace hxr:=hxr.trans xC;replace rX:=rX.ext xC)|(refine cqC (ce _ hxr) en59 fun wC xC=>?_;replace hx:=hx.trans xC;replace hxr:=hxr.trans xC;replace rX:=rX.ext xC)|(refine cqC (cr _ hxr) en60 fun wC xC=>?_;replace hx:=hx.trans xC;replace hxr:=hxr.trans xC;replace rX:=rX.ext xC)|refine Ly ?_|refine Dy (fun hh=>?_) fun hh=>?_))
              all_goals (try (exfalso;omega))
              rw [D9 hall hlt (by rw [hpt];assumption),hpt]
              exact A4 Z Z ⟨rfl,hx⟩
        · obtain ⟨q, hqi⟩ : ∃ q, l[i - 1]? = some q := ⟨_, List.getElem?_eq_getElem (by omega)⟩
          obtain⟨_,_,_,_,hatq,_⟩:=A0i hv0 hqi
          have hlq:q.id<p.id:=Classical.byContradiction fun hn=>hup ⟨h0,fun q' hq'=>by rw [hqi] at hq';cases hq';exact hn⟩
          (repeat' ((fail_if_success (refine B4 (x:=(Code.seq (Code.region 10 _ _) _)) ?_));first|(refine yN Z (fun wq xq=>?_);replace hx:=hx.trans xq;replace hxr:=hxr.trans xq;replace rX:=rX.ext xq)|refine eV Z Z (A0 (m:=i) Z Z Z (by first|rfl|omega) (by omega)) ?_|refine yV Z Z (fun _ _ _=>A0 (m:=i-1) Z Z Z (by first|rfl|omega) (by omega)) ?_|(refine K5 Z Z Z Z Z Z Z Z Z Z Z Z Z Z Z (fun bX wX xX hbX rX=>?_);replace hx:=hx.trans xX;replace hxr:=hxr.trans xX;replace hatq:=hatq.ext xX)|(refine cqC (ci _) en56 fun wC xC=>?_;replace hx:=hx.trans xC;replace hxr:=hxr.trans xC;replace hatq:=hatq.ext xC;replace rX:=rX.ext xC)|refine Ly ?_|refine Dy (fun hh=>?_) fun hh=>?_|refine yqY ?_|refine yqZ ?_|refine yqX (fun hh=>?_) fun hh=>?_|refine E_dq B5 (by kernel_rfl) Z ?_|refine yO Z Z ?_))
          all_goals (try (exfalso;omega))
          refine E.sub (M:=[(0,ev),(1,.slice (some ⟨b,off,none⟩) l.length c),(6,.pointer (some ⟨bX,0,none⟩)),(13,.slice (some ⟨b,off,none⟩) l.length c),(14,int l.length),(15,int i)]) ⟨rfl,rfl,rfl,rfl,rfl,rfl,trivial⟩ ?_
          have cl:=fun wz (hz:Ext w wz)=>A4s p.title wz (hT.ext hz)
          cases hb:labB p.title with
          | false=>
            have hP:O1 labB txtF lex p=7:=by unfold O1;rw [hb];rfl
            rw [hb] at cl
            (repeat' (first|(refine cqC (cl _ hx) en57 fun wC xC=>?_;replace hx:=hx.trans xC)|refine Ly ?_))
            all_goals (try (exfalso;omega))
            rw [D9 hall hlt (by rw [hpt,hP];decide),hpt,hP]
            exact A4 Z Z ⟨rfl,hx⟩
          | true=>
            rw [hb] at cl
            have hP0:O1 labB txtF lex p=if txtF p.text≠0 then txtF p.text else if J5 lex p.entries≠0 then J5 lex p.entries else A1h p.refs:=by unfold O1;rw [hb];rfl
            have ct:=fun wz (hz:Ext w wz)=>A6b p.text wz (hT.ext hz)
            have ce:=fun wz (hz:Ext wr wz)=>A1l lex p.entries ev _ wz (hl.ext hz) (he0.ext hz)
            have cr:=fun wz (hz:Ext wr wz)=>A6o p.refs _ wz (hr0.ext hz)
            obtain⟨tz,htz⟩:∃ z,txtF p.text=z:=⟨_,rfl⟩
            obtain⟨ez,hez⟩:∃ z,J5 lex p.entries=z:=⟨_,rfl⟩
            obtain⟨rz,hrz⟩:∃ z,A1h p.refs=z:=⟨_,rfl⟩
            rw [htz,hez,hrz] at hP0
            rw [htz] at ct
            rw [hez] at ce
            rw [hrz] at cr
            rw [hP0] at hpt
            by_cases h1:tz=0
            · rw [if_neg (by simpa using h1)] at hpt
              by_cases h2:ez=0
              · rw [if_neg (by simpa using h2)] at hpt
                (repeat' (first|(refine cqC (cl _ hx) en57 fun wC xC=>?_;replace hx:=hx.trans xC;replace hxr:=hxr.trans xC;replace rX:=rX.ext xC)|(refine cqC (ct _ hx) en58 fun wC xC=>?_;replace hx:=hx.trans xC;replace hxr:=hxr.trans xC;replace rX:=rX.ext xC)|(refine cqC (ce _ hxr) en59 fun wC xC=>?_;replace hx:=hx.trans xC;replace hxr:=hxr.trans xC;replace rX:=rX.ext xC)|(refine cqC (cr _ hxr) en60 fun wC xC=>?_;replace hx:=hx.trans xC;replace hxr:=hxr.trans xC;replace rX:=rX.ext xC)|refine Ly ?_|refine Dy (fun hh=>?_) fun hh=>?_))
                all_goals (try (exfalso;omega))
                · rw [D9 hall hlt (by rw [hpt];assumption),hpt]
                  exact A4 Z Z ⟨rfl,hx⟩
                · refine B3 (i+1) ⟨rfl,rfl,rfl,rfl,rfl,trivial⟩ ⟨by omega,hx,fun j hj=>?_⟩ (by omega)
                  by_cases e:j=i
                  · subst e;rw [hpt];omega
                  · exact hall j (by omega)
              · rw [if_pos h2] at hpt
                (repeat' (first|(refine cqC (cl _ hx) en57 fun wC xC=>?_;replace hx:=hx.trans xC;replace hxr:=hxr.trans xC;replace rX:=rX.ext xC)|(refine cqC (ct _ hx) en58 fun wC xC=>?_;replace hx:=hx.trans xC;replace hxr:=hxr.trans xC;replace rX:=rX.ext xC)|(refine cqC (ce _ hxr) en59 fun wC xC=>?_;replace hx:=hx.trans xC;replace hxr:=hxr.trans xC;replace rX:=rX.ext xC)|(refine cqC (cr _ hxr) en60 fun wC xC=>?_;replace hx:=hx.trans xC;replace hxr:=hxr.trans xC;replace rX:=rX.ext xC)|refine Ly ?_|refine Dy (fun hh=>?_) fun hh=>?_))
                all_goals (try (exfalso;omega))
                rw [D9 hall hlt (by rw [hpt];assumption),hpt]
                exact A4 Z Z ⟨rfl,hx⟩
            · rw [if_pos h1] at hpt
              (repeat' (first|(refine cqC (cl _ hx) en57 fun wC xC=>?_;replace hx:=hx.trans xC;replace hxr:=hxr.trans xC;replace rX:=rX.ext xC)|(refine cqC (ct _ hx) en58 fun wC xC=>?_;replace hx:=hx.trans xC;replace hxr:=hxr.trans xC;replace rX:=rX.ext xC)|(refine cqC (ce _ hxr) en59 fun wC xC=>?_;replace hx:=hx.trans xC;replace hxr:=hxr.trans xC;replace rX:=rX.ext xC)|(refine cqC (cr _ hxr) en60 fun wC xC=>?_;replace hx:=hx.trans xC;replace hxr:=hxr.trans xC;replace rX:=rX.ext xC)|refine Ly ?_|refine Dy (fun hh=>?_) fun hh=>?_))
              all_goals (try (exfalso;omega))
              rw [D9 hall hlt (by rw [hpt];assumption),hpt]
              exact A4 Z Z ⟨rfl,hx⟩
  · rw [S3 (fun j hj=>hall j (by omega))]
    (repeat' (first|refine Sy ?_|refine Dy (fun hh=>?_) fun hh=>?_))
    all_goals (try (exfalso;omega))
    exact A4 Z Z ⟨rfl,hx⟩
end Go.Proofs.YtjicdgejhkgpgaaGreatDoor
