/-
  Walks of align: Where, of both. Walks: the reference's Doc, Where, Attests, of provenance. Walks: the reference's check of references, of the words of an entry.
-/
import Derived.Test.YtjicdgejhkgpgaaGreatDoorYk
import Derived.Test.YtjicdgejhkgpgaaGreatDoorYi
import Derived.Test.YtjicdgejhkgpgaaGreatDoorYg
import Derived.Test.YtjicdgejhkgpgaaGreatDoorYh
set_option linter.all false
namespace Go.Proofs.YtjicdgejhkgpgaaGreatDoor
open Go.RowKit Go.En
def whereV (d:Dc) (id:Int):Value:=.tuple #[.agg #[int (spanF d id).1,int (spanF d id).2],.bool (whereF d id).isSome]
theorem span_some {d:Dc} {id:Int} {p:Note} (h:whereF d id=some p):whereV d id=.tuple #[.agg #[int p.frm,int p.til],.bool true]:=by
  unfold whereV spanF;rw [h];rfl
theorem span_none {d:Dc} {id:Int} (h:whereF d id=none):whereV d id=.tuple #[.agg #[int 0,int 0],.bool false]:=by
  unfold whereV spanF;rw [h];rfl
attribute [local irreducible] E EL K Val Enters Rt Calls bodyPost Code.wp RQ
set_option maxHeartbeats 4000000 in
set_option maxRecDepth 8000 in
theorem where_any {d:Dc} (h:LightD d) (v:Value) (id:Int) (w:World) (hv:DcAt w v d):Calls Tryz.prog 37 #[v,int id] w (Rt fun u w'=>u=whereV d id∧Ext w w'):=by
  have hd0:=hv
  obtain⟨sv,tv,nv,rfl,_,ht,hn⟩:=hv
  refine calls_E (n:=35) (args:=[.agg #[int d.rid,str d.rname,int d.len,int d.day,sv,tv,nv],int id]) Tryz.func37 rfl Tryz.ntmps37 (by simp) ?_
  refine E_seq ?_
  refine E_region ?_
  refine EL_box Z Z Z Z (fun bD wD xD hbD rD0=>?_)
  refine EL_alloc Z Z Z (fun bA wA xA hbA rA0=>?_)
  have rD:Row wA bD 72 [int d.rid,str d.rname,int d.len,int d.day,sv,tv,nv]:=rD0.ext xA
  have rA:Row wA bA 76 [int 0,int 0]:=rA0
  have hX:=xD.trans xA
  clear rD0 rA0
  have hbAw:w.heap.size≤bA:=by have:=xD.size;omega
  have cg:=tget_any d _ id wA (hd0.ext hX)
  rw [getR_cur] at cg
  (repeat' (first|refine eV Z Z (val_loadA Z Z Z rD.at rfl) ?_|(refine EL_call Z Z (entersF Z Z en36) cg (fun vC wC hC=>?_);obtain⟨rfl,xC⟩:=hC)|(refine at_EL ?_;first|refine eN ?_|refine eV Z Z (zA Z Z) ?_|refine eV Z Z (zB Z Z) ?_|refine eV Z Z (zF Z Z Z) ?_)|(refine at_K ?_;first|refine K_then ?_)|(refine at_E ?_;first|refine E_seq ?_|refine E_region ?_)))
  refine EL_alloc Z Z Z (fun bP wP xP hbP rP0=>?_)
  refine EL_storeP (cs:=noteC (curN d.notes id)) rP0 (xC.trans xP) (by have:=xC.size;omega) Z Z Z Z Z Z Z Z (Nat.le_refl _) (fun w3 rP1 x3 k3=>?_)
  have rP:Row w3 bP 80 (noteC (curN d.notes id)):=rP1
  have hbPA:wA.heap.size≤bP:=by have:=xC.size;omega
  clear rP0 rP1 k3 cg
  (repeat' (first|(refine at_EL ?_;first|refine eN ?_|refine eV Z Z (zB Z Z) ?_)|(refine at_K ?_;first|refine K_then ?_)|(refine at_E ?_;first|refine E_seq ?_|refine E_block ?_)))
  refine E_loop (ι:=Int) (fun q=>[(2,.pointer (some ⟨bD,0,none⟩)),(4,.pointer (some ⟨bA,0,none⟩)),(6,.pointer (some ⟨bP,0,none⟩)),(7,.bool (getF d.notes q).isSome)])
    (fun q wr=>Ext wA wr∧Row wr bP 80 (noteC (curN d.notes q))∧whereF d q=whereF d id) (fun q=>(chainF d q).length) id
    ⟨rfl,rfl,rfl,rfl,trivial⟩ ⟨x3,rP,rfl⟩ ?_
  rintro q wr ⟨hx,rPr,hwq⟩
  have rDr:=rD.ext hx
  have rAr:=rA.ext hx
  have hXr:=hX.trans hx
  cases hg:getF d.notes q with
  | none=>
    (repeat' (first|refine eV Z Z (val_build (vs:=[]) [int 0,int 0] rfl rfl rfl) ?_|(refine at_EL ?_;first|refine eN ?_|refine eO Z Z ?_|refine eV Z Z (zA Z Z) ?_|refine eV Z Z (zD Z Z Z) ?_|refine eV Z Z (zE Z Z) ?_)|(refine at_K ?_;first|refine K_then ?_|refine K_then_exit ?_|refine K_in_exit ?_)|(refine at_E ?_;first|refine E_seq ?_|refine E_region ?_|refine E_cond_t Z ?_|refine E_cond_f Z ?_|refine E_exit ?_)))
    refine EL_storeP (cs:=[int 0,int 0]) rAr hXr hbAw rfl rfl rfl rfl rfl rfl rfl rfl (Nat.le_refl _) (fun w9 r9 x9 k9=>?_)
    (repeat' (first|(refine at_EL ?_;first|refine eN ?_|refine eV Z Z (zB Z Z) ?_)|(refine at_K ?_;first|refine K_then ?_|refine K_then_ret ?_)|(refine at_E ?_;first|refine E_ret ?_)))
    exact ret_ct Z Z Z r9.at rfl rfl ⟨by rw [span_none (hwq▸where_none hg)];rfl,x9⟩
  | some p=>
    obtain⟨hpm,hpi⟩:=get_some hg
    have hcp:curN d.notes q=p:=by unfold curN;rw [hg];rfl
    rw [hcp] at rPr
    have ca:=ttAligned_any d tv p.tier wr (ht.ext hXr)
    cases hal:alignedB d p.tier with
    | true=>
      rw [hal] at ca
      (repeat' (first|refine eV Z Z (val_load Z Z Z (rDr.cellAt rfl)) ?_|refine eV Z Z (val_load Z Z Z (rPr.cellAt rfl)) ?_|(refine EL_call Z Z (entersF Z Z en68) ca (fun vE wE hE=>?_);obtain⟨rfl,xE⟩:=hE)|(refine at_EL ?_;first|refine eN ?_|refine eV Z Z (zA Z Z) ?_|refine eV Z Z (zC Z Z Z) ?_|refine eV Z Z (zE Z Z) ?_|refine eV Z Z (zH Z Z) ?_)|(refine at_K ?_;first|refine K_then ?_|refine K_then_exit ?_|refine K_in_exit ?_)|(refine at_E ?_;first|refine E_seq ?_|refine E_region ?_|refine E_cond_f Z ?_|refine E_skip ?_|refine E_exit ?_)))
      have rPe:=rPr.ext xE
      have at3:At wE bP (0+3) [int p.frm,int p.til]:=rPe.at.seg 3 (n:=2)
      (repeat' (first|refine eV Z Z (val_loadA Z Z Z at3 rfl) ?_))
      refine EL_storeP (cs:=[int p.frm,int p.til]) (rAr.ext xE) (hXr.trans xE) hbAw rfl rfl rfl rfl rfl rfl rfl rfl (Nat.le_refl _) (fun w9 r9 x9 k9=>?_)
      (repeat' (first|(refine at_EL ?_;first|refine eN ?_|refine eV Z Z (zB Z Z) ?_)|(refine at_K ?_;first|refine K_then ?_)|(refine at_E ?_;first|refine E_ret ?_)))
      refine ret_ct Z Z Z r9.at rfl rfl ⟨?_,x9⟩
      have:=where_pos h hpm hal
      rw [hpi,hwq] at this
      rw [span_some this];rfl
    | false=>
      rw [hal] at ca
      (repeat' (first|refine eV Z Z (val_load Z Z Z (rDr.cellAt rfl)) ?_|refine eV Z Z (val_load Z Z Z (rPr.cellAt rfl)) ?_|(refine EL_call Z Z (entersF Z Z en68) ca (fun vE wE hE=>?_);obtain⟨rfl,xE⟩:=hE)|(refine at_EL ?_;first|refine eN ?_|refine eV Z Z (zA Z Z) ?_|refine eV Z Z (zC Z Z Z) ?_|refine eV Z Z (zE Z Z) ?_|refine eV Z Z (zH Z Z) ?_)|(refine at_K ?_;first|refine K_then ?_)|(refine at_E ?_;first|refine E_seq ?_|refine E_region ?_|refine E_cond_t Z ?_|refine E_block ?_|refine E_skip ?_)))
      have rPe:=rPr.ext xE
      have rDe:=rDr.ext xE
      have cg2:=tget_any d _ p.parent wE (hd0.ext (hXr.trans xE))
      rw [getR_cur] at cg2
      (repeat' (first|refine eV Z Z (val_loadA Z Z Z rDe.at rfl) ?_|refine eV Z Z (val_load Z Z Z (rPe.cellAt rfl)) ?_|(refine EL_call Z Z (entersF Z Z en36) cg2 (fun vC wC2 hC=>?_);obtain⟨rfl,xC2⟩:=hC)|(refine at_EL ?_;first|refine eV Z Z (zA Z Z) ?_|refine eV Z Z (zF Z Z Z) ?_|refine eV Z Z (zH Z Z) ?_)))
      refine EL_storeP (cs:=noteC (curN d.notes p.parent)) (rPe.ext xC2) (hx.trans (xE.trans xC2)) hbPA rfl rfl rfl rfl rfl rfl rfl rfl (Nat.le_refl _) (fun w5 rP5 x5 k5=>?_)
      have rP5':Row w5 bP 80 (noteC (curN d.notes p.parent)):=rP5
      clear rP5
      (repeat' (first|(refine at_EL ?_;first|refine eN ?_|refine eV Z Z (zB Z Z) ?_)|(refine at_K ?_;first|refine K_in ?_)))
      refine K_rnd p.parent ⟨rfl,rfl,rfl,rfl,trivial⟩ ⟨x5,rP5',?_⟩ ?_
      · have:=where_neg h hpm hal
        rw [hpi] at this
        rw [← this,hwq]
      · have:=chain_cons h hpm
        rw [hpi] at this
        rw [this];simp
end Go.Proofs.YtjicdgejhkgpgaaGreatDoor
namespace Go.Proofs.YtjicdgejhkgpgaaGreatDoor
open Go.RowKit Go.En Go.Pv
def zeroD:List Value:=[int 0,str [],int 0,int 0,.slice none 0 0,.slice none 0 0,.slice none 0 0]
theorem docF_some {ds:List Dc} {rec:Int} {d:Dc} (h:docF ds rec=some d):∃ i,ds[i]?=some d∧d.rid=rec∧∀(j:Nat) (x:Dc),j<i→ds[j]?=some x→x.rid≠rec:=by
  unfold docF at h
  obtain⟨h1,i,hi,h2,h3⟩:=List.find?_eq_some_iff_getElem.1 h
  refine⟨i,by rw [List.getElem?_eq_getElem hi,h2],by simpa using h1,fun j x hj hx=>?_⟩
  have:=h3 j hj
  obtain⟨h4,h5⟩:=List.getElem?_eq_some_iff.1 hx
  rw [h5] at this
  simpa using this
theorem docF_none {ds:List Dc} {rec:Int} (h:docF ds rec=none):∀ x∈ds,x.rid≠rec:=by
  unfold docF at h
  rw [List.find?_eq_none] at h
  intro x hx
  simpa using h x hx
attribute [local irreducible] E EL K Val Enters Rt Calls bodyPost Code.wp RQ
def whereDV (ds:List Dc) (r:Rf):Value:=.tuple #[.agg #[int (whereS ds r).1,int (whereS ds r).2],.bool (leadsB ds r)]
theorem wd_none {ds:List Dc} {r:Rf} (h:docF ds r.rcd=none):whereDV ds r=.tuple #[.agg #[int 0,int 0],.bool false]:=by unfold whereDV whereS leadsB;rw [h]
theorem wd_some {ds:List Dc} {r:Rf} {d:Dc} (h:docF ds r.rcd=some d):whereDV ds r=whereV d r.note:=by unfold whereDV whereS leadsB whereV;rw [h]
theorem doc_light {ds:List Dc} (h:LightDs ds) {rec:Int} {d:Dc} (hg:docF ds rec=some d):LightD d:=h.each d (by obtain⟨_,h1,_⟩:=docF_some hg;exact List.mem_of_getElem? h1)
def zeroDc:Dc:=⟨0,[],0,0,[],[],[]⟩
def docD (ds:List Dc) (rec:Int):Dc:=(docF ds rec).getD zeroDc
theorem zeroD_at (w:World):Rep.at_ Tt w zeroDc zeroD:=⟨_,_,_,rfl,SlG.nil,SlG.nil,SlG.nil⟩
def zeroEn:En:=⟨0,[],0,[],0,[],[],[]⟩
def entD (lex:List En) (id:Int):En:=(getE lex id).getD zeroEn
theorem zeroE_at (w:World):Rep.at_ Tt w zeroEn zeroE:=⟨_,_,_,_,_,rfl,SlG.nil,SlG.nil,SlG.nil,SlG.nil,SlG.nil⟩
theorem get53_any (lex:List En) (id:Int) (ev:Value) (w:World) (hv:Sl w ev lex) :
    ∃ X:List Value,Rep.at_ Tt w (entD lex id) X∧∀ w',Ext w w'→Calls Tryz.prog 53 #[ev,int id] w' (Rt fun u w2=>u=.tuple #[.agg X.toArray,.bool (getE lex id).isSome]∧Ext w' w2):=by
  cases h:getE lex id with
  | none=>exact⟨zeroE,by unfold entD;rw [h];exact zeroE_at w,fun w' x=>get53_none h ev w' (hv.ext x)⟩
  | some e=>
    obtain⟨X,h1,_,h2⟩:=get53_some h ev w hv
    exact⟨X,by unfold entD;rw [h];exact h1,h2⟩
def noteD (ns:List Note) (id:Int):Note:=(getF ns id).getD zeroN
theorem getR_eq (ns:List Note) (id:Int):getR ns id=.tuple #[.agg #[int (noteD ns id).id,int (noteD ns id).tier,int (noteD ns id).parent,int (noteD ns id).frm,int (noteD ns id).til,int (noteD ns id).rank,str (noteD ns id).text],.bool (getF ns id).isSome]:=by
  unfold getR noteD
  cases getF ns id <;> rfl
theorem dc_open {G:Nat→Prop} {w:World} {d:Dc} {X:List Value} (h:Rep.at_ G w d X):∃ a1 c1 a2 c2 a3 c3,X=[int d.rid,str d.rname,int d.len,int d.day,.slice a1 d.sp.length c1,.slice a2 d.tiers.length c2,.slice a3 d.notes.length c3]∧SlG G w (.slice a1 d.sp.length c1) d.sp∧SlG G w (.slice a2 d.tiers.length c2) d.tiers∧SlG G w (.slice a3 d.notes.length c3) d.notes:=by
  obtain⟨sv,tv,nv,rfl,h1,h2,h3⟩:=h
  obtain⟨a1,c1,rfl,_⟩:=h1.sl
  obtain⟨a2,c2,rfl,_⟩:=h2.sl
  obtain⟨a3,c3,rfl,_⟩:=h3.sl
  exact⟨a1,c1,a2,c2,a3,c3,rfl,h1,h2,h3⟩
theorem getF_memN {ns:List Note} {id:Int} {n:Note} (h:getF ns id=some n):n∈ns:=List.mem_of_find?_eq_some h
end Go.Proofs.YtjicdgejhkgpgaaGreatDoor
namespace Go.Proofs.YtjicdgejhkgpgaaGreatDoor
open Go.RowKit Go.En Go.Pv
theorem refAt_ok {l:List Rf} {i:Nat} {r:Rf} (h:l[i]?=some r) (hi:identB r.rcd=true∧identB r.note=true) (hp:i=0∨∃ q,l[i-1]?=some q∧ltR q r):refAt l i=0:=by
  unfold refAt
  rw [h]
  dsimp only
  rw [hi.1,hi.2]
  rcases hp with rfl|⟨q,hq,hl⟩
  · rfl
  · by_cases h0:0<i
    · rw [if_pos h0,hq];simp [hl]
    · rw [if_neg h0];rfl
theorem refAt_id {l:List Rf} {i:Nat} {r:Rf} (h:l[i]?=some r) (hi:(identB r.rcd&&identB r.note)=false):refAt l i=2:=by
  unfold refAt
  rw [h]
  dsimp only
  rw [hi];rfl
theorem refAt_up {l:List Rf} {i:Nat} {r q:Rf} (h:l[i]?=some r) (hi:(identB r.rcd&&identB r.note)=true) (h0:0<i) (hq:l[i-1]?=some q) (hl:¬ ltR q r):refAt l i=10:=by
  unfold refAt
  rw [h]
  dsimp only
  rw [hi,if_pos h0,hq];simp [hl]
attribute [local irreducible] E EL K Val Enters Rt Calls bodyPost Code.wp RQ
set_option maxHeartbeats 4000000 in
set_option maxRecDepth 8000 in
theorem refs99_any (l : List Rf) (v : Value) (w : World) (hv : Sl w v l) : Calls Tryz.prog 99 #[v, int 12] w (Rt fun u w' => u = int (if 12 < l.length then 11 else firstE l.length (refAt l)) ∧ Ext w w') := by
  have hv0:=hv
  obtain⟨a,c,rfl,_,hm,hpp⟩:=hv.sl
  refine calls_E (n:=37) (args:=[.slice a l.length c,int 12]) Tryz.func99 rfl Tryz.ntmps99 (by simp) ?_
  (repeat' (first|(refine at_EL ?_;first|refine eN ?_|refine eV Z Z (zA Z Z) ?_|refine eV Z Z (zB Z Z) ?_|(refine at_bin ?_;first|refine eD Z Z (zO Z Z Z) (fun hh=>?_) (fun hh=>?_))|(refine at_call ?_;first|refine eV Z Z (zK Z Z) ?_))|(refine at_K ?_;first|refine K_then ?_|refine K_then_ret ?_)|(refine at_E ?_;first|refine E_seq ?_|refine E_region ?_|refine E_cond_t Z ?_|refine E_cond_f Z ?_|refine E_block ?_|refine E_skip ?_|refine E_ret ?_)))
  all_goals (try (exfalso;omega))
  · exact ret_1 Z Z ⟨by rw [if_pos (by omega)],Ext.refl _⟩
  rw [if_neg (show ¬ 12<l.length by omega)]
  refine E_loop (ι:=Nat) (fun i=>[(0,.slice a l.length c),(5,int i)]) (fun i wr=>i≤l.length∧Ext w wr∧∀ j,j<i→refAt l j=0) (fun i=>l.length-i) 0
    ⟨rfl,rfl,trivial⟩ ⟨Nat.zero_le _,Ext.refl _,fun _ h=>absurd h (by omega)⟩ ?_
  rintro i wr ⟨hi,hx,hall⟩
  replace hv0:=hv0.ext hx
  by_cases hlt:i<l.length
  · obtain ⟨b, off, rfl⟩ := hpp (by omega)
    obtain⟨x,hxi⟩:∃ x,l[i]?=some x:=⟨_,List.getElem?_eq_getElem hlt⟩
    have hat:=rf_elem hv0 hxi
    have c1:=fun wz=>ref131_any x wz
    cases hid:(identB x.rcd&&identB x.note) with
    | false=>
      rw [hid] at c1
      (repeat' (first|refine eV Z Z (val_indexAddr (m:=i) Z Z Z (by first|rfl|omega) (by omega)) ?_|refine eV Z Z (val_loadA Z Z Z (by assumption) (by rfl)) ?_|(refine EL_call Z Z (entersF Z Z en131) (c1 _) (fun vC wC hC=>?_);obtain⟨rfl,xC⟩:=hC;replace hx:=hx.trans xC)|(refine at_EL ?_;first|refine eN ?_|refine eV Z Z (zA Z Z) ?_|refine eV Z Z (zB Z Z) ?_|(refine at_bin ?_;first|refine eD Z Z (zL Z Z Z) (fun hh=>?_) (fun hh=>?_))|(refine at_call ?_;first|refine eV Z Z (zK Z Z) ?_)|refine eV Z Z (zE Z Z) ?_)|(refine at_K ?_;first|refine K_then ?_|refine K_then_ret ?_|refine K_then_exit ?_|refine K_in_ret ?_|refine K_in_exit ?_)|(refine at_E ?_;first|refine E_seq ?_|refine E_region ?_|refine E_cond_t Z ?_|refine E_cond_f Z ?_|refine E_block ?_|refine E_skip ?_|refine E_ret ?_|refine E_exit ?_)))
      all_goals (try (exfalso;omega))
      refine ret_1 Z Z ⟨?_,hx⟩
      rw [firstE_at hall hlt (by rw [refAt_id hxi hid];decide),refAt_id hxi hid]
    | true=>
      rw [hid] at c1
      by_cases h0:i=0
      · subst h0
        (repeat' (first|refine eV Z Z (val_indexAddr (m:=0) Z Z Z (by first|rfl|omega) (by omega)) ?_|refine eV Z Z (val_loadA Z Z Z (by assumption) (by rfl)) ?_|(refine EL_call Z Z (entersF Z Z en131) (c1 _) (fun vC wC hC=>?_);obtain⟨rfl,xC⟩:=hC;replace hx:=hx.trans xC)|(refine at_EL ?_;first|refine eN ?_|refine eV Z Z (zA Z Z) ?_|refine eV Z Z (zB Z Z) ?_|(refine at_bin ?_;first|refine eD Z Z (zL Z Z Z) (fun hh=>?_) (fun hh=>?_)|refine eV Z Z (zU Z Z Z (by omega) (by omega)) ?_)|(refine at_call ?_;first|refine eV Z Z (zK Z Z) ?_)|refine eV Z Z (zE Z Z) ?_)|(refine at_K ?_;first|refine K_then ?_|refine K_in ?_|refine K_then_exit ?_|refine K_in_exit ?_)|(refine at_E ?_;first|refine E_seq ?_|refine E_region ?_|refine E_cond_t Z ?_|refine E_cond_f Z ?_|refine E_block ?_|refine E_skip ?_|refine E_ret ?_|refine E_exit ?_|refine E_dq mixedOk (by kernel_rfl) Z ?_)|(refine at_RQ ?_;first|refine yN Z (fun wq xq=>?_)|refine yO Z Z ?_|refine yV Z Z (fun _ _ _=>zA Z Z) ?_|(refine at_binR ?_;first|refine yD Z Z (fun _ _ _=>zO Z Z Z) (fun hh=>?_) (fun hh=>?_)|refine yV Z Z (fun _ _ _=>zV Z Z Z (by omega) (by omega)) ?_)|refine yV Z Z (fun _ _ _=>zD Z Z Z) ?_)))
        all_goals (try (exfalso;omega))
        refine K_rnd (0+1) ⟨rfl,rfl,trivial⟩ ⟨by omega,hx.trans xq,fun j hj=>?_⟩ (by omega)
        obtain rfl:j=0:=by omega
        rw [Bool.and_eq_true] at hid
        exact refAt_ok hxi hid (.inl rfl)
      · obtain⟨y,hyi⟩:∃ y,l[i-1]?=some y:=⟨_,List.getElem?_eq_getElem (by omega)⟩
        have haty:=rf_elem hv0 hyi
        have c2:=fun wz=>prec101_any y x wz
        by_cases hlr:ltR y x
        · rw [decide_eq_true hlr] at c2
          (repeat' (first|refine eV Z Z (val_indexAddr (m:=i) Z Z Z (by first|rfl|omega) (by omega)) ?_|refine eV Z Z (val_loadA Z Z Z (by assumption) (by rfl)) ?_|refine yV Z Z (fun wq _ xq=>val_loadA Z Z Z (At.ext (by assumption) xq) (by rfl)) ?_|refine yV Z Z (fun _ _ _=>val_indexAddr (m:=i) Z Z Z (by first|rfl|omega) (by omega)) ?_|refine yV Z Z (fun _ _ _=>val_indexAddr (m:=i-1) Z Z Z (by first|rfl|omega) (by omega)) ?_|refine RQ_call Z Z (fun _ _ _=>entersF Z Z en101) (fun wq _=>c2 wq) ?_|(refine EL_call Z Z (entersF Z Z en131) (c1 _) (fun vC wC hC=>?_);obtain⟨rfl,xC⟩:=hC;replace hx:=hx.trans xC;replace hat:=hat.ext xC;replace haty:=haty.ext xC)|(refine at_EL ?_;first|refine eN ?_|refine eV Z Z (zA Z Z) ?_|refine eV Z Z (zB Z Z) ?_|(refine at_bin ?_;first|refine eD Z Z (zL Z Z Z) (fun hh=>?_) (fun hh=>?_)|refine eV Z Z (zU Z Z Z (by omega) (by omega)) ?_)|(refine at_call ?_;first|refine eV Z Z (zK Z Z) ?_)|refine eV Z Z (zE Z Z) ?_)|(refine at_K ?_;first|refine K_then ?_|refine K_in ?_|refine K_then_exit ?_|refine K_in_exit ?_)|(refine at_E ?_;first|refine E_seq ?_|refine E_region ?_|refine E_cond_t Z ?_|refine E_cond_f Z ?_|refine E_block ?_|refine E_skip ?_|refine E_ret ?_|refine E_exit ?_|refine E_dq mixedOk (by kernel_rfl) Z ?_)|(refine at_RQ ?_;first|refine yN Z (fun wq xq=>?_)|refine yO Z Z ?_|refine yV Z Z (fun _ _ _=>zA Z Z) ?_|(refine at_binR ?_;first|refine yD Z Z (fun _ _ _=>zO Z Z Z) (fun hh=>?_) (fun hh=>?_)|refine yV Z Z (fun _ _ _=>zV Z Z Z (by omega) (by omega)) ?_)|refine yV Z Z (fun _ _ _=>zC Z Z Z) ?_|refine yV Z Z (fun _ _ _=>zD Z Z Z) ?_|refine yV Z Z (fun _ _ _=>zE Z Z) ?_)))
          all_goals (try (exfalso;omega))
          refine K_rnd (i+1) ⟨rfl,rfl,trivial⟩ ⟨by omega,hx.trans xq,fun j hj=>?_⟩ (by omega)
          by_cases e:j=i
          · subst e
            rw [Bool.and_eq_true] at hid
            exact refAt_ok hxi hid (.inr ⟨y,hyi,hlr⟩)
          · exact hall j (by omega)
        · rw [decide_eq_false hlr] at c2
          (repeat' (first|refine eV Z Z (val_indexAddr (m:=i) Z Z Z (by first|rfl|omega) (by omega)) ?_|refine eV Z Z (val_loadA Z Z Z (by assumption) (by rfl)) ?_|refine yV Z Z (fun wq _ xq=>val_loadA Z Z Z (At.ext (by assumption) xq) (by rfl)) ?_|refine yV Z Z (fun _ _ _=>val_indexAddr (m:=i) Z Z Z (by first|rfl|omega) (by omega)) ?_|refine yV Z Z (fun _ _ _=>val_indexAddr (m:=i-1) Z Z Z (by first|rfl|omega) (by omega)) ?_|refine RQ_call Z Z (fun _ _ _=>entersF Z Z en101) (fun wq _=>c2 wq) ?_|(refine EL_call Z Z (entersF Z Z en131) (c1 _) (fun vC wC hC=>?_);obtain⟨rfl,xC⟩:=hC;replace hx:=hx.trans xC;replace hat:=hat.ext xC;replace haty:=haty.ext xC)|(refine at_EL ?_;first|refine eN ?_|refine eV Z Z (zA Z Z) ?_|refine eV Z Z (zB Z Z) ?_|(refine at_bin ?_;first|refine eD Z Z (zL Z Z Z) (fun hh=>?_) (fun hh=>?_)|refine eV Z Z (zU Z Z Z (by omega) (by omega)) ?_)|(refine at_call ?_;first|refine eV Z Z (zK Z Z) ?_)|refine eV Z Z (zE Z Z) ?_)|(refine at_K ?_;first|refine K_then ?_|refine K_in ?_|refine K_then_ret ?_|refine K_then_exit ?_|refine K_in_ret ?_|refine K_in_exit ?_)|(refine at_E ?_;first|refine E_seq ?_|refine E_region ?_|refine E_cond_t Z ?_|refine E_cond_f Z ?_|refine E_block ?_|refine E_skip ?_|refine E_ret ?_|refine E_exit ?_|refine E_dq mixedOk (by kernel_rfl) Z ?_)|(refine at_RQ ?_;first|refine yN Z (fun wq xq=>?_)|refine yO Z Z ?_|refine yV Z Z (fun _ _ _=>zA Z Z) ?_|(refine at_binR ?_;first|refine yD Z Z (fun _ _ _=>zO Z Z Z) (fun hh=>?_) (fun hh=>?_)|refine yV Z Z (fun _ _ _=>zV Z Z Z (by omega) (by omega)) ?_)|refine yV Z Z (fun _ _ _=>zC Z Z Z) ?_|refine yV Z Z (fun _ _ _=>zD Z Z Z) ?_|refine yV Z Z (fun _ _ _=>zE Z Z) ?_)))
          all_goals (try (exfalso;omega))
          refine ret_1 Z Z ⟨?_,hx.trans xq⟩
          rw [firstE_at hall hlt (by rw [refAt_up hxi hid (by omega) hyi hlr];decide),refAt_up hxi hid (by omega) hyi hlr]
  · (repeat' (first|(refine at_EL ?_;first|refine eN ?_|refine eV Z Z (zA Z Z) ?_|refine eV Z Z (zB Z Z) ?_|(refine at_bin ?_;first|refine eD Z Z (zL Z Z Z) (fun hh=>?_) (fun hh=>?_))|(refine at_call ?_;first|refine eV Z Z (zK Z Z) ?_))|(refine at_K ?_;first|refine K_then ?_|refine K_then_exit ?_|refine K_in_exit ?_)|(refine at_E ?_;first|refine E_seq ?_|refine E_region ?_|refine E_cond_t Z ?_|refine E_cond_f Z ?_|refine E_block ?_|refine E_skip ?_|refine E_ret ?_|refine E_exit ?_)))
    all_goals (try (exfalso;omega))
    exact ret_1 Z Z ⟨by rw [firstE_all (fun j hj=>hall j (by omega))],hx⟩
end Go.Proofs.YtjicdgejhkgpgaaGreatDoor
