/-
  Walks: num's Put, Sorted, Union, Minus. Walks: num's Minus, the reference's with. Walk: the reference's with. Walks: the reference's Put and Take. Walks: Update, the program's and the reference's; the reference's Build.
-/
import Derived.Test.YtnifmbbpfdghmaaGreatDoorYg
import Derived.Test.YtnifmbbpfdghmaaGreatDoorXa
import Derived.Test.YtnifmbbpfdghmaaGreatDoorY8
import Derived.Test.YtnifmbbpfdghmaaGreatDoorYh
import Derived.Test.YtnifmbbpfdghmaaGreatDoorY1
set_option linter.all false
namespace Go.Proofs.YtnifmbbpfdghmaaGreatDoor.Ix
open Go.RowKit Go.En
attribute [local irreducible] E EL K Val Enters Rt Calls bodyPost Code.wp RQ
set_option maxRecDepth 8000 in
theorem unionW_any (l m:List Int) (v v':Value) (w:World) (hv:Sl w v l) (hv':Sl w v' m) (hlen:l.length≤1099511627) (hlen':m.length≤1099511627):Calls Tryz.prog 58 #[v,v'] w (Rt fun u w'=>Ext w w'∧SlG (fun b=>w.heap.size≤b) w' u (unionF l m)):=by
  refine calls_E (n:=22) (args:=[v,v']) Tryz.func58 rfl Tryz.ntmps58 (by simp) ?_
  have hv0:=hv'
  obtain⟨a,cap,rfl,hc,hm,hp⟩:=hv'.sl
  have hsl:=fold_len l []
  simp only [List.length_nil] at hsl
  (repeat' (first|(refine EL_call Z Z (entersF Z Z en102) (sortedW_any l v _ hv (by omega)) (fun vA wA hA=>?_);obtain⟨xA,hA⟩:=hA)|(refine at_EL ?_;first|refine eN ?_|refine eV Z Z (zA Z Z) ?_|refine eV Z Z (zB Z Z) ?_|(refine at_call ?_;first|refine eV Z Z (zK Z Z) ?_))|(refine at_K ?_;first|refine K_then ?_)|(refine at_E ?_;first|refine E_seq ?_|refine E_region ?_|refine E_block ?_)))
  refine E_loop (ι:=Nat × Value) (fun x=>[(1,.slice a m.length cap),(5,x.2),(10,int m.length),(11,int x.1)])
    (fun x wr=>x.1≤m.length∧Ext wA wr∧SlG (fun b=>w.heap.size≤b) wr x.2 ((m.take x.1).foldl nputF (sortedF l))) (fun x=>m.length-x.1) (0,vA)
    ⟨rfl,rfl,rfl,rfl,trivial⟩ ⟨Nat.zero_le _,Ext.refl _,hA⟩ ?_
  rintro⟨i,vO⟩ wr ⟨hi,hx,hs⟩
  dsimp only at hi hx hs ⊢
  have hvr:=hv0.ext (xA.trans hx)
  have hfl:=fold_len (m.take i) (sortedF l)
  rw [List.length_take] at hfl
  unfold sortedF at hfl
  by_cases hlt:i<m.length
  · obtain⟨b,off,rfl⟩:=hp (by omega)
    obtain⟨z,hz⟩:∃ z,m[i]?=some z:=⟨_,List.getElem?_eq_getElem hlt⟩
    have hcell:=int_elem hvr hz
    (repeat' (first|refine eV Z Z (val_indexAddr (m:=i) Z Z Z Z hlt) ?_|refine eV Z Z (val_load Z Z Z hcell) ?_|(refine EL_call Z Z (entersF Z Z en90) (nputW_any _ z vO _ hs.any (by unfold sortedF;omega)) (fun vC wC hC=>?_);obtain⟨xC,hC⟩:=hC)|(refine at_EL ?_;first|refine eN ?_|refine eV Z Z (zA Z Z) ?_|refine eV Z Z (zB Z Z) ?_|(refine at_bin ?_;first|refine eD Z Z (zL Z Z Z) (fun hh=>?_) (fun hh=>?_)|refine eV Z Z (zU Z Z Z (by omega) (by omega)) ?_))|(refine at_K ?_;first|refine K_then ?_|refine K_in ?_|refine K_then_exit ?_|refine K_in_exit ?_)|(refine at_E ?_;first|refine E_seq ?_|refine E_region ?_|refine E_cond_t Z ?_|refine E_cond_f Z ?_|refine E_block ?_|refine E_skip ?_|refine E_ret ?_|refine E_exit ?_)))
    all_goals (first|(exfalso;omega)|skip)
    exact K_rnd (i+1,vC) ⟨rfl,rfl,rfl,rfl,trivial⟩ ⟨by dsimp only;omega,hx.trans xC,by dsimp only;rw [fold_take hz];exact SlG.wk hC (fun b hb=>Nat.le_trans (xA.trans hx).size hb)⟩ (by dsimp only;omega)
  · obtain rfl:i=m.length:=by omega
    rw [List.take_length] at hs
    (repeat' (first|(refine at_EL ?_;first|refine eN ?_|refine eV Z Z (zA Z Z) ?_|refine eV Z Z (zB Z Z) ?_|(refine at_bin ?_;first|refine eD Z Z (zL Z Z Z) (fun hh=>?_) (fun hh=>?_)))|(refine at_K ?_;first|refine K_then ?_|refine K_then_exit ?_|refine K_in_exit ?_)|(refine at_E ?_;first|refine E_seq ?_|refine E_region ?_|refine E_cond_t Z ?_|refine E_cond_f Z ?_|refine E_block ?_|refine E_skip ?_|refine E_ret ?_|refine E_exit ?_)))
    all_goals (first|(exfalso;omega)|skip)
    exact ret_1 Z Z ⟨xA.trans hx,hs⟩
end Go.Proofs.YtnifmbbpfdghmaaGreatDoor.Ix
namespace Go.Proofs.YtnifmbbpfdghmaaGreatDoor.Ix
open Go.RowKit Go.En
def mstep (b:List Int):List Int→Int→List Int:=fun acc z=>if z∈b then acc else nputF acc z
theorem minus_len (b:List Int):∀(l acc:List Int),(l.foldl (mstep b) acc).length≤acc.length+l.length
  | [],acc=>by simp
  | z::l,acc=>by
    have h1:=minus_len b l (mstep b acc z)
    have h2:=nput_len acc z
    have h3:(mstep b acc z).length≤acc.length+1:=by unfold mstep;split <;> omega
    simp only [List.foldl_cons,List.length_cons]
    omega
theorem minus_take {b l acc:List Int} {i:Nat} {z:Int} (h:l[i]?=some z):(l.take (i+1)).foldl (mstep b) acc=mstep b ((l.take i).foldl (mstep b) acc) z:=by
  obtain⟨hi,rfl⟩:=List.getElem?_eq_some_iff.1 h
  rw [List.take_succ_eq_append_getElem hi,List.foldl_append];rfl
attribute [local irreducible] E EL K Val Enters Rt Calls bodyPost Code.wp RQ
set_option maxRecDepth 8000 in
theorem minusW_any (l m:List Int) (v v':Value) (w:World) (hv:Sl w v l) (hv':Sl w v' m) (hlen:l.length≤1099511627776):Calls Tryz.prog 36 #[v,v'] w (Rt fun u w'=>Ext w w'∧SlG (fun b=>w.heap.size≤b) w' u (minusF l m)):=by
  refine calls_E (n:=27) (args:=[v,v']) Tryz.func36 rfl Tryz.ntmps36 (by simp) ?_
  have hv0:=hv
  obtain⟨a,cap,rfl,hc,hm,hp⟩:=hv.sl
  (repeat' (first|(refine at_EL ?_;first|refine eN ?_|refine eV Z Z (zA Z Z) ?_|refine eV Z Z (zB Z Z) ?_|(refine at_call ?_;first|refine eV Z Z (zK Z Z) ?_))|(refine at_K ?_;first|refine K_then ?_)|(refine at_E ?_;first|refine E_seq ?_|refine E_region ?_|refine E_block ?_)))
  refine E_loop (ι:=Nat × Value) (fun x=>[(0,.slice a l.length cap),(1,v'),(5,x.2),(8,int l.length),(9,int x.1)])
    (fun x wr=>x.1≤l.length∧Ext w wr∧SlG (fun b=>w.heap.size≤b) wr x.2 ((l.take x.1).foldl (mstep m) [])) (fun x=>l.length-x.1) (0,.slice none 0 0)
    ⟨rfl,rfl,rfl,rfl,rfl,trivial⟩ ⟨Nat.zero_le _,Ext.refl _,SlG.nil⟩ ?_
  rintro⟨i,vO⟩ wr ⟨hi,hx,hs⟩
  dsimp only at hi hx hs ⊢
  have hvr:=hv0.ext hx
  have hfl:=minus_len m (l.take i) []
  rw [List.length_take] at hfl
  simp only [List.length_nil] at hfl
  by_cases hlt:i<l.length
  · obtain⟨b,off,rfl⟩:=hp (by omega)
    obtain⟨z,hz⟩:∃ z,l[i]?=some z:=⟨_,List.getElem?_eq_getElem hlt⟩
    have hcell:=int_elem hvr hz
    have c35:=r1has_any m z v' wr (hv'.ext hx)
    have hst:=minus_take (b:=m) (acc:=[]) hz
    by_cases hmem:z∈m
    · rw [decide_eq_true hmem] at c35
      have e:mstep m ((l.take i).foldl (mstep m) []) z=(l.take i).foldl (mstep m) []:=if_pos hmem
      rw [e] at hst
      (repeat' (first|refine eV Z Z (val_indexAddr (m:=i) Z Z Z Z hlt) ?_|refine eV Z Z (val_load Z Z Z hcell) ?_|(refine EL_call Z Z (entersF Z Z en33) c35 (fun vC wC hC=>?_);obtain⟨rfl,xC⟩:=hC)|(refine at_EL ?_;first|refine eN ?_|refine eV Z Z (zA Z Z) ?_|refine eV Z Z (zB Z Z) ?_|(refine at_bin ?_;first|refine eD Z Z (zL Z Z Z) (fun hh=>?_) (fun hh=>?_)|refine eV Z Z (zU Z Z Z (by omega) (by omega)) ?_)|refine eV Z Z (zE Z Z) ?_)|(refine at_K ?_;first|refine K_then ?_|refine K_in ?_|refine K_then_exit ?_|refine K_in_exit ?_)|(refine at_E ?_;first|refine E_seq ?_|refine E_region ?_|refine E_cond_t Z ?_|refine E_cond_f Z ?_|refine E_block ?_|refine E_skip ?_|refine E_ret ?_|refine E_exit ?_)))
      all_goals (first|(exfalso;omega)|skip)
      exact K_rnd (i+1,vO) ⟨rfl,rfl,rfl,rfl,rfl,trivial⟩ ⟨by dsimp only;omega,hx.trans xC,by dsimp only;rw [hst];exact hs.ext xC⟩ (by dsimp only;omega)
    · rw [decide_eq_false hmem] at c35
      have e:mstep m ((l.take i).foldl (mstep m) []) z=nputF ((l.take i).foldl (mstep m) []) z:=if_neg hmem
      rw [e] at hst
      (repeat' (first|refine eV Z Z (val_indexAddr (m:=i) Z Z Z Z hlt) ?_|refine eV Z Z (val_load Z Z Z hcell) ?_|(refine EL_call Z Z (entersF Z Z en33) c35 (fun vC wC hC=>?_);obtain⟨rfl,xC⟩:=hC;have hcell2:=xC.cell hcell)|refine eV Z Z (val_load Z Z Z hcell2) ?_|(refine EL_call Z Z (entersF Z Z en90) (nputW_any _ z vO _ (SlG.any (hs.ext xC)) (by omega)) (fun vD wD hD=>?_);obtain⟨xD,hD⟩:=hD)|(refine at_EL ?_;first|refine eN ?_|refine eV Z Z (zA Z Z) ?_|refine eV Z Z (zB Z Z) ?_|(refine at_bin ?_;first|refine eD Z Z (zL Z Z Z) (fun hh=>?_) (fun hh=>?_)|refine eV Z Z (zU Z Z Z (by omega) (by omega)) ?_)|refine eV Z Z (zE Z Z) ?_)|(refine at_K ?_;first|refine K_then ?_|refine K_in ?_|refine K_then_exit ?_|refine K_in_exit ?_)|(refine at_E ?_;first|refine E_seq ?_|refine E_region ?_|refine E_cond_t Z ?_|refine E_cond_f Z ?_|refine E_block ?_|refine E_skip ?_|refine E_ret ?_|refine E_exit ?_)))
      all_goals (first|(exfalso;omega)|skip)
      exact K_rnd (i+1,vD) ⟨rfl,rfl,rfl,rfl,rfl,trivial⟩ ⟨by dsimp only;omega,hx.trans (xC.trans xD),by dsimp only;rw [hst];exact SlG.wk hD (fun b hb=>Nat.le_trans (hx.trans xC).size hb)⟩ (by dsimp only;omega)
  · obtain rfl:i=l.length:=by omega
    rw [List.take_length] at hs
    (repeat' (first|(refine at_EL ?_;first|refine eN ?_|refine eV Z Z (zA Z Z) ?_|refine eV Z Z (zB Z Z) ?_|(refine at_bin ?_;first|refine eD Z Z (zL Z Z Z) (fun hh=>?_) (fun hh=>?_)))|(refine at_K ?_;first|refine K_then ?_|refine K_then_exit ?_|refine K_in_exit ?_)|(refine at_E ?_;first|refine E_seq ?_|refine E_region ?_|refine E_cond_t Z ?_|refine E_cond_f Z ?_|refine E_block ?_|refine E_skip ?_|refine E_ret ?_|refine E_exit ?_)))
    all_goals (first|(exfalso;omega)|skip)
    exact ret_1 Z Z ⟨hx,hs⟩
theorem rw_step {xs:List Post} {p q:Post} {i:Nat} (h:xs[i]?=some q) (out:List Post) (done:Bool) :
    rwGo p (xs.drop i) out done=rwGo p (xs.drop (i+1)) (if q.role≠p.role∨q.text≠p.text then (if !done&&decide (ltK p.role p.text q.role q.text) then out++[p] else out)++[q] else (if !done&&decide (ltK p.role p.text q.role q.text) then out++[p] else out)) (done||decide (ltK p.role p.text q.role q.text)):=by
  obtain⟨hi,rfl⟩:=List.getElem?_eq_some_iff.1 h
  conv=>lhs;rw [List.drop_eq_getElem_cons hi]
  rfl
end Go.Proofs.YtnifmbbpfdghmaaGreatDoor.Ix
namespace Go.Proofs.YtnifmbbpfdghmaaGreatDoor.Ix
open Go.RowKit Go.En
attribute [local irreducible] E EL K Val Enters Rt Calls bodyPost Code.wp RQ
set_option maxHeartbeats 4000000 in
set_option maxRecDepth 8000 in
theorem rwith_any {G:Nat→Prop} (xs:List Post) (p:Post) (s pv:Value) (w:World) (hv:SlG G w s xs) (hpv:SlG G w pv p.ids) (hlen:xs.length≤1099511627) :
    Calls Tryz.prog 160 #[.agg #[s],.agg #[int p.role,str p.text,pv]] w (Rt fun u w'=>Ext w w'∧IxG (Fr G w) w' u (rwithF xs p)):=by
  refine calls_E (n:=61) (args:=[.agg #[s],.agg #[int p.role,str p.text,pv]]) Tryz.func160 rfl Tryz.ntmps160 (by simp) ?_
  have hv0:=hv
  obtain⟨a,cap,rfl,hc,hm,hp⟩:=hv.sl
  have hpv0:=hpv
  obtain⟨ap,capp,rfl,hcp,hmp,hpp⟩:=hpv.sl
  refine E_seq ?_
  refine E_region ?_
  refine EL_box Z Z Z Z (fun bB wB xB hbB rB0=>?_)
  refine EL_box Z Z Z Z (fun bP wP0 xP0 hbP rP0=>?_)
  refine EL_alloc Z Z Z (fun bA wA xA hbA rA0=>?_)
  have rB:=rB0.ext (xP0.trans xA)
  have rP:=rP0.ext xA
  have x0:=xB.trans (xP0.trans xA)
  have hBA:bA<wA.heap.size:=rA0.lt
  have hwB:w.heap.size≤bA:=by have:=xB.size;have:=xP0.size;omega
  obtain⟨d0,hd0⟩:∃ d0,d0=decide (p.ids=[]):=⟨_,rfl⟩
  refine EL_nil ?_
  refine K_then ?_
  refine E_seq ?_
  refine E_region ?_
  refine eL Z Z Z Z Z Z Z Z (fun bS wS xS hbS rS=>?_)
  have rPS:=rP.ext xS
  (repeat' (first|refine eV Z Z (val_load Z Z Z (rPS.cellAt rfl)) ?_|(refine at_EL ?_;first|refine eN ?_|refine eV Z Z (zB Z Z) ?_|(refine at_bin ?_;first|refine eD Z Z (zM Z Z Z) (fun hh=>?_) (fun hh=>?_))|(refine at_call ?_;first|refine eV Z Z (zK Z Z) ?_)|refine eV Z Z (zH Z Z) ?_)|(refine at_K ?_;first|refine K_then ?_)|(refine at_E ?_;first|refine E_seq ?_|refine E_region ?_|refine E_block ?_)))
  all_goals
    refine E_loop (ι:=Nat × Value × Bool) (fun x=>[(2,.pointer (some ⟨bB,0,none⟩)),(3,.pointer (some ⟨bP,0,none⟩)),(4,.pointer (some ⟨bA,0,none⟩)),(5,x.2.1),(6,.bool x.2.2),(7,int x.1)])
      (fun x wr=>x.1≤xs.length∧Ext wA wr∧∃ ys css,rwGo p (xs.drop x.1) ys x.2.2=rwGo p xs [] d0∧AtsG G w ys css∧wr.ownsRow wA.heap.size 102 3 x.2.1 ys.length css.flatten∧ys.length≤2*x.1) (fun x=>xs.length-x.1) (0,_,d0)
      ⟨rfl,rfl,rfl,rfl,by first|(rw [hd0,decide_eq_true (List.length_eq_zero_iff.1 (by omega))];rfl)|(rw [hd0,decide_eq_false (fun e=>absurd (show p.ids.length=0 by rw [e];rfl) (by omega))];rfl),rfl,trivial⟩ ⟨Nat.zero_le _,xS,[],[],rfl,trivial,own_row (n:=0) (size:=3) rS rfl (by omega) (by omega),by simp⟩ ?_
    rintro⟨i,vO,dn⟩ wr ⟨hi,hx,ys,css,heq,hA,hown,hyl⟩
    dsimp only at hi hx heq hA hown hyl ⊢
    have rBr:=rB.ext hx
    have rPr:=rP.ext hx
    have x0r:=x0.trans hx
    by_cases hlt:i<xs.length
    · obtain⟨b,off,rfl⟩:=hp (by omega)
      obtain⟨q,hqq⟩:∃ q,xs[i]?=some q:=⟨_,List.getElem?_eq_getElem hlt⟩
      obtain⟨ivq,hatq0,hivq⟩:=post_elem hv0 hqq
      have hatq:=hatq0.ext x0r
      have hivq0:=hivq
      obtain⟨aq,capq,rfl,_⟩:=hivq.sl
      rw [rw_step hqq] at heq
      (repeat' (first|refine eV Z Z (val_load Z Z Z (rBr.cellAt rfl)) ?_|refine eV Z Z (val_indexAddr (m:=i) Z Z Z Z (by omega)) ?_|refine eV Z Z (val_loadA Z Z Z hatq rfl) ?_|(refine at_EL ?_;first|refine eN ?_|refine eV Z Z (zA Z Z) ?_|(refine at_bin ?_;first|refine eD Z Z (zL Z Z Z) (fun hh=>?_) (fun hh=>?_))|(refine at_call ?_;first|refine eV Z Z (zK Z Z) ?_)|refine eV Z Z (zE Z Z) ?_|refine eV Z Z (zH Z Z) ?_)|(refine at_K ?_;first|refine K_then ?_|refine K_then_exit ?_|refine K_in_exit ?_)|(refine at_E ?_;first|refine E_seq ?_|refine E_region ?_|refine E_cond_t Z ?_|refine E_cond_f Z ?_|refine E_block ?_|refine E_skip ?_|refine E_exit ?_)))
      all_goals (first|(exfalso;omega)|skip)
      refine EL_alloc Z Z Z (fun b8 w5 x5 hb8 r8=>?_)
      refine EL_storeP (cs:=[int q.role,str q.text,.slice aq q.ids.length capq]) r8 x5 (by omega) Z Z Z Z Z Z Z Z (Nat.le_refl _) (fun w6 R8 x6 k6=>?_)
      have r86:Row w6 b8 102 [int q.role,str q.text,.slice aq q.ids.length capq]:=R8
      clear R8
      have rP6:=rPr.ext x6
      have cl:=less_any p q (.slice ap p.ids.length capp) (.slice aq q.ids.length capq)
      by_cases hcase:dn=false∧ltK p.role p.text q.role q.text
      · obtain⟨rfl,hl⟩:=hcase
        have hk:q.role≠p.role∨q.text≠p.text:=by
          by_cases h1:q.role=p.role
          · refine .inr fun h2=>?_
            rw [h1,h2] at hl;exact ltK_irrefl hl
          · exact .inl h1
        rw [decide_eq_true hl] at cl
        simp only [decide_eq_true hl,Bool.not_false,Bool.true_and,if_true,Bool.false_or,if_pos hk] at heq
        have hown2:∀ b',vO.ownBlock=some b'→b'<wr.heap.size:=fun b' h=>(hown.lt b' h).2
        (repeat' (first|refine eV Z Z (val_loadA Z Z Z rP6.at rfl) ?_|refine eV Z Z (val_loadA Z Z Z r86.at rfl) ?_|(refine EL_call Z Z (entersF Z Z en126) (cl _) (fun vC wC hC=>?_);obtain⟨rfl,xC⟩:=hC;have rPC:=rP6.ext xC;have r8C:=r86.ext xC)|refine eV Z Z (val_loadA Z Z Z rPC.at rfl) ?_|(refine EL_appO (news:=[int p.role,str p.text,.slice ap p.ids.length capp]) (own_ext hown (x6.trans (xC.trans xS))) (hx.trans (x6.trans (xC.trans xS))) (fun _=>⟨_,_,rfl,rS.at⟩) Z Z Z Z Z Z Z Z Z (by omega) (by omega) (fun vP wP oP xP kP hP=>?_);have r8P:=kP.row (r8C.ext xS) (fun e=>by have:=hown2 b8 e.symm;omega);have rPP:=rP.ext xP)|refine eV Z Z (val_load Z Z Z (r8P.cellAt rfl)) ?_|refine eV Z Z (val_load Z Z Z (rPP.cellAt rfl)) ?_|refine eV Z Z (val_loadA Z Z Z r8P.at rfl) ?_|(refine EL_appO (news:=[int q.role,str q.text,.slice aq q.ids.length capq]) (own_ext oP xS) (xP.trans xS) (fun _=>⟨_,_,rfl,rS.at⟩) Z Z Z Z Z Z Z Z Z (by omega) (by omega) (fun vQ wQ oQ xQ kQ hQ=>?_))|(refine at_EL ?_;first|refine eN ?_|refine eO Z Z ?_|refine eV Z Z (zA Z Z) ?_|refine eV Z Z (zB Z Z) ?_|(refine at_bin ?_;first|refine eD Z Z (zQ Z Z Z) (fun hh=>?_) (fun hh=>?_)|refine eD Z Z (zS Z Z Z) (fun hh=>?_) (fun hh=>?_)|refine eV Z Z (zU Z Z Z (by omega) (by omega)) ?_)|refine eV Z Z (zC Z Z Z) ?_|refine eV Z Z (zD Z Z Z) ?_|refine eV Z Z (zE Z Z) ?_|refine eV Z Z (zH Z Z) ?_|refine eL Z Z Z Z Z Z Z Z (fun bS wS xS hbS rS=>?_))|(refine at_K ?_;first|refine K_then ?_|refine K_in ?_)|(refine at_E ?_;first|refine E_seq ?_|refine E_region ?_|refine E_cond_t Z ?_|refine E_cond_f Z ?_|refine E_skip ?_)))
        all_goals (first|(exfalso;omega)|(exact absurd ‹q.role=p.role› (hk.resolve_right (fun h=>h ‹q.text=p.text›)))|skip)
        all_goals
          first
          | (refine K_rnd (i+1,vQ,true) ⟨rfl,rfl,rfl,rfl,rfl,rfl,trivial⟩ ⟨by dsimp only;omega,xQ,ys++[p]++[q],css++[[int p.role,str p.text,.slice ap p.ids.length capp]]++[[int q.role,str q.text,.slice aq q.ids.length capq]],heq,AllAt.append (AllAt.append hA (AllAt.one ⟨_,rfl,hpv0⟩)) (AllAt.one ⟨_,rfl,hivq0⟩),?_,by simp;omega⟩ (by dsimp only;omega);simpa [Value.cells] using oQ)
          | (exfalso;exact hk.elim (fun h=>h (Classical.not_not.1 ‹_›)) (fun h=>h (Classical.not_not.1 ‹_›)))
      · have hcf:(!dn&&decide (ltK p.role p.text q.role q.text))=false:=by
          cases dn
          · simpa using hcase
          · rfl
        have hcd:(dn||decide (ltK p.role p.text q.role q.text))=dn:=by
          cases dn
          · simpa using hcase
          · rfl
        rw [hcf,hcd] at heq
        simp only [Bool.false_eq_true,if_false] at heq
        cases dn
        all_goals
          first|rw [decide_eq_false (fun h=>hcase ⟨rfl,h⟩)] at cl|skip
          (repeat' (first|refine eV Z Z (val_loadA Z Z Z rP6.at rfl) ?_|refine eV Z Z (val_loadA Z Z Z r86.at rfl) ?_|(refine EL_call Z Z (entersF Z Z en126) (cl _) (fun vC wC hC=>?_);obtain⟨rfl,xC⟩:=hC;replace x6:=x6.trans xC;replace rP6:=rP6.ext xC;replace r86:=r86.ext xC)|refine eV Z Z (val_load Z Z Z (r86.cellAt rfl)) ?_|refine eV Z Z (val_load Z Z Z (rP6.cellAt rfl)) ?_|(refine EL_appO (news:=[int q.role,str q.text,.slice aq q.ids.length capq]) (own_ext hown (x6.trans xS)) (hx.trans (x6.trans xS)) (fun _=>⟨_,_,rfl,rS.at⟩) Z Z Z Z Z Z Z Z Z (by omega) (by omega) (fun vQ wQ oQ xQ kQ hQ=>?_))|(refine at_EL ?_;first|refine eN ?_|refine eO Z Z ?_|refine eV Z Z (zA Z Z) ?_|refine eV Z Z (zB Z Z) ?_|(refine at_bin ?_;first|refine eD Z Z (zQ Z Z Z) (fun hh=>?_) (fun hh=>?_)|refine eD Z Z (zS Z Z Z) (fun hh=>?_) (fun hh=>?_)|refine eV Z Z (zU Z Z Z (by omega) (by omega)) ?_)|refine eV Z Z (zC Z Z Z) ?_|refine eV Z Z (zD Z Z Z) ?_|refine eV Z Z (zE Z Z) ?_|refine eV Z Z (zH Z Z) ?_|refine eL Z Z Z Z Z Z Z Z (fun bS wS xS hbS rS=>?_))|(refine at_K ?_;first|refine K_then ?_|refine K_in ?_)|(refine at_E ?_;first|refine E_seq ?_|refine E_region ?_|refine E_cond_t Z ?_|refine E_cond_f Z ?_|refine E_skip ?_)))
          all_goals (first|(exfalso;omega)|skip)
          all_goals
            first
            | (rw [if_pos (by first | exact Or.inl ‹_› | exact Or.inr ‹_›)] at heq
               refine K_rnd (i+1,vQ,_) ⟨rfl,rfl,rfl,rfl,rfl,rfl,trivial⟩ ⟨by dsimp only;omega,xQ,ys++[q],css++[[int q.role,str q.text,.slice aq q.ids.length capq]],heq,AllAt.append hA (AllAt.one ⟨_,rfl,hivq0⟩),?_,by simp;omega⟩ (by dsimp only;omega)
               simpa [Value.cells] using oQ)
            | (rw [if_neg (by rintro (h | h) <;> exact h (Classical.not_not.1 ‹_›))] at heq
               exact K_rnd (i+1,vO,_) ⟨rfl,rfl,rfl,rfl,rfl,rfl,trivial⟩ ⟨by dsimp only;omega,hx.trans x6,ys,css,heq,hA,own_ext hown x6,by omega⟩ (by dsimp only;omega))
    · have hdr:xs.drop i=[]:=List.drop_eq_nil_of_le (by omega)
      rw [hdr] at heq
      have hres:rwithF xs p=if dn then ys else ys++[p]:=by
        unfold rwithF
        rw [← hd0,← heq];rfl
      cases dn with
      | true=>
        have hS:SlG (fun b=>b≠bA∧Fr G w b) wr vO ys:=own_SlG (css:=css) hown (AtsG.wk (AtsG.ext (AtsG.move hA (fun b hg hlt=>⟨(⟨hg,hlt⟩:G b∧b<w.heap.size),rfl⟩)) x0r) fun b h=>⟨fun e=>by subst e;have:=h.2;omega,.inl h.1⟩) (fun b hb=>⟨by omega,.inr (Nat.le_trans x0.size hb)⟩) rfl (by omega)
        have hS0:=hS
        obtain⟨aO,capO,rfl,_⟩:=hS.sl
        (repeat' (first|refine eV Z Z (val_load Z Z Z (rBr.cellAt rfl)) ?_|refine eV Z Z (val_build (vs:=[(0,.slice aO ys.length capO)]) [.slice aO ys.length capO] rfl rfl rfl) ?_|(refine at_EL ?_;first|refine eN ?_|refine eV Z Z (zA Z Z) ?_|(refine at_bin ?_;first|refine eD Z Z (zL Z Z Z) (fun hh=>?_) (fun hh=>?_))|(refine at_call ?_;first|refine eV Z Z (zK Z Z) ?_)|refine eV Z Z (zE Z Z) ?_|refine eV Z Z (zH Z Z) ?_)|(refine at_K ?_;first|refine K_then ?_|refine K_then_exit ?_|refine K_in_exit ?_)|(refine at_E ?_;first|refine E_seq ?_|refine E_region ?_|refine E_cond_t Z ?_|refine E_cond_f Z ?_|refine E_block ?_|refine E_skip ?_|refine E_exit ?_)))
        all_goals (first|(exfalso;omega)|skip)
        refine EL_storeP (cs:=[_]) (rA0.ext hx) x0r hwB rfl rfl rfl rfl rfl rfl rfl rfl (Nat.le_refl _) (fun w9 r9 x9 k9=>?_)
        (repeat' (first|(refine at_EL ?_;first|refine eN ?_)|(refine at_K ?_;first|refine K_then ?_)|(refine at_E ?_;first|refine E_ret ?_)))
        refine ret_c Z Z Z r9.at rfl ⟨x9,_,rfl,?_⟩
        rw [hres]
        exact SlG.wk (hS0.move (k9.mv fun b hb e=>by cases e;exact hb.1 rfl)) (fun b hb=>hb.2)
      | false=>
        (repeat' (first|refine eV Z Z (val_load Z Z Z (rBr.cellAt rfl)) ?_|refine eV Z Z (val_loadA Z Z Z rPr.at rfl) ?_|(refine EL_appO (news:=[int p.role,str p.text,.slice ap p.ids.length capp]) (own_ext hown xS) (hx.trans xS) (fun _=>⟨_,_,rfl,rS.at⟩) Z Z Z Z Z Z Z Z Z (by omega) (by omega) (fun vP wP oP xP kP hP=>?_))|(refine at_EL ?_;first|refine eN ?_|refine eV Z Z (zA Z Z) ?_|refine eV Z Z (zB Z Z) ?_|(refine at_bin ?_;first|refine eD Z Z (zL Z Z Z) (fun hh=>?_) (fun hh=>?_))|(refine at_call ?_;first|refine eV Z Z (zK Z Z) ?_)|refine eV Z Z (zE Z Z) ?_|refine eV Z Z (zH Z Z) ?_|refine eL Z Z Z Z Z Z Z Z (fun bS wS xS hbS rS=>?_))|(refine at_K ?_;first|refine K_then ?_|refine K_then_exit ?_|refine K_in_exit ?_)|(refine at_E ?_;first|refine E_seq ?_|refine E_region ?_|refine E_cond_t Z ?_|refine E_cond_f Z ?_|refine E_block ?_|refine E_skip ?_|refine E_exit ?_)))
        all_goals (first|(exfalso;omega)|skip)
        have hS:SlG (fun b=>b≠bA∧Fr G w b) wP vP (ys++[p]):=own_SlG (css:=css++[[int p.role,str p.text,.slice ap p.ids.length capp]]) (by simpa [show Rep.sz Post=3 from rfl,Value.cells] using oP)
          (AtsG.wk (AtsG.ext (AtsG.move (AllAt.append hA (AllAt.one ⟨_,rfl,hpv0⟩)) (fun b hg hlt=>⟨(⟨hg,hlt⟩:G b∧b<w.heap.size),rfl⟩)) (x0.trans xP)) fun b h=>⟨fun e=>by subst e;have:=h.2;omega,.inl h.1⟩) (fun b hb=>⟨by omega,.inr (Nat.le_trans x0.size hb)⟩) (by simp) (by simp;omega)
        have hS0:=hS
        obtain⟨aO,capO,rfl,_⟩:=hS.sl
        (repeat' (first|refine eV Z Z (val_build (vs:=[(0,.slice aO (ys++[p]).length capO)]) [.slice aO (ys++[p]).length capO] rfl rfl rfl) ?_))
        refine EL_storeP (cs:=[_]) (rA0.ext xP) (x0.trans xP) hwB rfl rfl rfl rfl rfl rfl rfl rfl (Nat.le_refl _) (fun w9 r9 x9 k9=>?_)
        (repeat' (first|(refine at_EL ?_;first|refine eN ?_)|(refine at_K ?_;first|refine K_then ?_)|(refine at_E ?_;first|refine E_ret ?_)))
        refine ret_c Z Z Z r9.at rfl ⟨x9,_,rfl,?_⟩
        rw [hres]
        exact SlG.wk (hS0.move (k9.mv fun b hb e=>by cases e;exact hb.1 rfl)) (fun b hb=>hb.2)
end Go.Proofs.YtnifmbbpfdghmaaGreatDoor.Ix
namespace Go.Proofs.YtnifmbbpfdghmaaGreatDoor.Ix
open Go.RowKit Go.En
theorem away_ints {w:World} {b:Nat} {v:Value} {ids:List Int} {x:Option Addr} {m c:Nat} (r:Row w b 49 [.slice x m c]) (h:Sl w v ids):SlG (fun k=>k≠b) w v ids:=by
  obtain⟨a,cap,hv,hc,hm,hp⟩:=h
  refine⟨a,cap,hv,hc,hm,fun h0=>?_⟩
  obtain⟨k,off,ha,_,css,h1,h2⟩:=hp h0
  refine⟨k,off,ha,fun e=>?_,css,by rw [ats_ints h1];exact ints_ats _ _,h2⟩
  subst e
  rw [ats_ints h1,ints_flat] at h2
  cases ids with
  | nil=>simp at h0
  | cons z l=>
    have h3:=h2.cell0 (v:=int z) (r:=l.map int)
    rw [r.cell] at h3
    cases off with
    | zero=>simp at h3
    | succ o=>simp at h3
theorem away_posts {w:World} {b:Nat} {v:Value} {xs:List Post} {x:Option Addr} {m c:Nat} (r:Row w b 49 [.slice x m c]) (h:Sl w v xs):SlG (fun k=>k≠b) w v xs:=by
  obtain⟨a,cap,hv,hc,hm,hp⟩:=h
  refine⟨a,cap,hv,hc,hm,fun h0=>?_⟩
  obtain⟨k,off,ha,_,css,h1,h2⟩:=hp h0
  refine⟨k,off,ha,fun e=>?_,css,AllAt.mono (fun p cs hpc=>by obtain⟨iv,e,hi⟩:=hpc;exact⟨iv,e,away_ints r hi⟩) h1,h2⟩
  subst e
  cases xs with
  | nil=>simp at h0
  | cons p l=>
    cases css with
    | nil=>exact h1.elim
    | cons c0 cs=>
      obtain⟨iv,e,_⟩:=h1.1
      subst e
      have h3:=h2 0 (int p.role) rfl
      rw [Nat.add_zero,r.cell] at h3
      cases off with
      | zero=>simp at h3
      | succ o=>simp at h3
theorem away_postsG {G:Nat→Prop} {w:World} {b:Nat} {v:Value} {xs:List Post} {x:Option Addr} {m c:Nat} (r:Row w b 49 [.slice x m c]) (h:SlG G w v xs):SlG (fun k=>k≠b∧G k) w v xs:=by
  have h1:=away_posts r h.any
  obtain⟨a,cap,hv,hc,hm,hp⟩:=h
  refine⟨a,cap,hv,hc,hm,fun h0=>?_⟩
  obtain⟨k,off,ha,hg,css,q1,q2⟩:=hp h0
  obtain⟨a',cap',hv',_,_,hp'⟩:=h1
  rw [hv] at hv'
  cases hv'
  obtain⟨k',off',ha',hne,css',q1',q2'⟩:=hp' h0
  rw [ha] at ha'
  cases ha'
  refine⟨k,off,ha,⟨hne,hg⟩,css,AllAt.mono (fun p cs hpc=>by
    obtain⟨iv,e,hi⟩:=hpc
    refine⟨iv,e,?_⟩
    obtain⟨a2,c2,hv2,hc2,hm2,hp2⟩:=hi
    refine⟨a2,c2,hv2,hc2,hm2,fun h2=>?_⟩
    obtain⟨k2,o2,ha2,hg2,css2,s1,s2⟩:=hp2 h2
    obtain⟨a3,c3,hv3,_,_,hp3⟩:=away_ints r (⟨a2,c2,hv2,hc2,hm2,fun _=>⟨k2,o2,ha2,trivial,css2,AtsG.any s1,s2⟩⟩:Sl w iv p.ids)
    rw [hv2] at hv3
    cases hv3
    obtain⟨k3,o3,ha3,hn3,_,_,_⟩:=hp3 h2
    rw [ha2] at ha3
    cases ha3
    exact⟨k2,o2,ha2,⟨hn3,hg2⟩,css2,by rw [ats_ints s1];exact ints_ats _ _,s2⟩) q1,q2⟩
theorem Fr.up {G:Nat→Prop} {w w':World} (x:Ext w w') {b:Nat} (h:Fr (Fr G w) w' b):Fr G w b:=by
  rcases h with h|h
  · exact h
  · exact .inr (Nat.le_trans x.size h)
theorem lit1 {w:World} {b:Nat} {id:Int} (r:Row w b 3 [int id]):Sl w (.slice (some ⟨b,0,none⟩) 1 1) [id]:=
  row_Sl (xs:=[id]) (css:=[id].map fun z=>[int z]) r (ints_ats _ _) (Nat.le_refl _) (by simp)
theorem rfind_mem {xs:List Post} {r:Int} {t:List UInt8} {k:Nat} (h:∀ p∈xs,p.ids.length≤k):(rfindF xs r t).length≤k:=by
  unfold rfindF
  split
  · simp
  · rename_i p hp;exact h p (List.mem_of_find?_eq_some hp)
attribute [local irreducible] E EL K Val Enters Rt Calls bodyPost Code.wp RQ
set_option maxHeartbeats 1000000 in
set_option maxRecDepth 8000 in
theorem rput_any {G:Nat→Prop} (xs:List Post) (s:Value) (r:Int) (t:List UInt8) (id:Int) (w:World) (hv:SlG G w s xs) (hlen:xs.length≤1099511627) (hids:∀ p∈xs,p.ids.length≤1099511626) :
    Calls Tryz.prog 129 #[.agg #[s],int r,str t,int id] w (Rt fun u w'=>Ext w w'∧IxG (Fr G w) w' u (rputF xs r t id)):=by
  refine calls_E (n:=27) (args:=[.agg #[s],int r,str t,int id]) Tryz.func129 rfl Tryz.ntmps129 (by simp) ?_
  have hv0:=hv
  obtain⟨a,cap,rfl,hc,hm,hp⟩:=hv.sl
  refine E_seq ?_
  refine E_region ?_
  refine EL_box Z Z Z Z (fun bB wB xB hbB rB0=>?_)
  refine EL_alloc Z Z Z (fun bA wA xA hbA rA=>?_)
  have rB:=rB0.ext xA
  have x0:=xB.trans xA
  have hwB:w.heap.size≤bA:=by have:=xB.size;omega
  have hvA:=hv0.ext x0
  have c39:=role_any r
  cases hro:isRole r with
  | false=>
    rw [hro] at c39
    have hres:rputF xs r t id=xs:=by unfold rputF;rw [hro];rfl
    rw [hres]
    (repeat' (first|(refine EL_call Z Z (entersF Z Z en125) (c39 _) (fun vC wC hC=>?_);obtain⟨rfl,xC⟩:=hC)|refine eV Z Z (val_loadA Z Z Z (rB.ext xC).at rfl) ?_|(refine at_EL ?_;first|refine eN ?_|refine eV Z Z (zA Z Z) ?_|refine eV Z Z (zE Z Z) ?_)|(refine at_K ?_;first|refine K_then ?_)|(refine at_E ?_;first|refine E_seq ?_|refine E_region ?_|refine E_cond_t Z ?_)))
    have SQ':=away_postsG (rA.ext xC) (hvA.ext xC)
    refine EL_storeP (cs:=[_]) (rA.ext xC) (x0.trans xC) hwB rfl rfl rfl rfl rfl rfl rfl rfl (Nat.le_refl _) (fun w9 r9 x9 k9=>?_)
    (repeat' (first|(refine at_EL ?_;first|refine eN ?_)|(refine at_K ?_;first|refine K_then ?_|refine K_then_ret ?_)|(refine at_E ?_;first|refine E_ret ?_)))
    refine ret_c Z Z Z r9.at rfl ⟨x9,_,rfl,?_⟩
    exact SlG.wk (SQ'.move (k9.mv fun b hb e=>by cases e;exact hb.1 rfl)) (fun b hb=>.inl hb.2)
  | true=>
    rw [hro] at c39
    have hres:rputF xs r t id=rwithF xs ⟨r,t,unionF (rfindF xs r t) [id]⟩:=by unfold rputF;rw [hro];rfl
    rw [hres]
    (repeat' (first|(refine EL_call Z Z (entersF Z Z en125) (c39 _) (fun vC wC hC=>?_);obtain⟨rfl,xC⟩:=hC)|refine eV Z Z (val_loadA Z Z Z (rB.ext xC).at rfl) ?_|(refine EL_call Z Z (entersF Z Z en159) (rfind_any xs _ r t _ (SlG.any (hvA.ext xC))) (fun vF wF hF=>?_);obtain⟨xF,SF⟩:=hF)|(refine at_EL ?_;first|refine eN ?_|refine eV Z Z (zA Z Z) ?_|refine eV Z Z (zE Z Z) ?_|refine eL Z Z Z Z Z Z Z Z (fun bS wS xS hbS rS=>?_))|(refine at_K ?_;first|refine K_then ?_)|(refine at_E ?_;first|refine E_seq ?_|refine E_region ?_|refine E_cond_f Z ?_|refine E_skip ?_)))
    refine EL_call Z Z (entersF Z Z en58) (unionW_any _ [id] vF _ _ (SF.ext xS) (lit1 rS) (Nat.le_trans (rfind_mem hids) (by omega)) (by simp)) (fun vU wU hU=>?_)
    obtain⟨xU,SU⟩:=hU
    have XS0:=x0.trans (xC.trans (xF.trans xS))
    have XX:=xC.trans (xF.trans (xS.trans xU))
    (repeat' (first|refine eV Z Z (val_loadA Z Z Z (rB.ext XX).at rfl) ?_|(refine at_EL ?_;first|refine eN ?_|refine eV Z Z (zA Z Z) ?_|refine eV Z Z (zB Z Z) ?_)|(refine at_K ?_;first|refine K_then ?_)|(refine at_E ?_;first|refine E_seq ?_|refine E_region ?_)))
    have SU2:=SU
    obtain⟨aU,capU,rfl,_⟩:=SU2.sl
    (repeat' (first|refine eV Z Z (val_build (vs:=[(0,int r),(1,str t),(2,.slice aU (unionF (rfindF xs r t) [id]).length capU)]) [int r,str t,.slice aU (unionF (rfindF xs r t) [id]).length capU] rfl rfl rfl) ?_|refine EL_call Z Z (entersF Z Z en160) (rwith_any xs ⟨r,t,unionF (rfindF xs r t) [id]⟩ _ _ _ (SlG.wk (G':=Fr G w) (hvA.ext XX) (fun b hb=>.inl hb)) (SlG.wk (G':=Fr G w) SU (fun b hb=>.inr (Nat.le_trans XS0.size hb))) hlen) (fun vQ wQ hQ=>?_)))
    obtain⟨xQ,sQ,rfl,SQ⟩:=hQ
    have SQ':=away_postsG ((rA.ext XX).ext xQ) SQ
    have SQ2:=SQ
    obtain⟨aQ,capQ,rfl,_⟩:=SQ2.sl
    refine EL_storeP (cs:=[_]) ((rA.ext XX).ext xQ) (x0.trans (XX.trans xQ)) hwB rfl rfl rfl rfl rfl rfl rfl rfl (Nat.le_refl _) (fun w9 r9 x9 k9=>?_)
    (repeat' (first|(refine at_EL ?_;first|refine eN ?_)|(refine at_K ?_;first|refine K_then ?_)|(refine at_E ?_;first|refine E_ret ?_)))
    refine ret_c Z Z Z r9.at rfl ⟨x9,_,rfl,?_⟩
    exact SlG.wk (SQ'.move (k9.mv fun b hb e=>by cases e;exact hb.1 rfl)) (fun b hb=>Fr.up (x0.trans XX) hb.2)
set_option maxHeartbeats 1000000 in
set_option maxRecDepth 8000 in
theorem rtake_any {G:Nat→Prop} (xs:List Post) (s:Value) (r:Int) (t:List UInt8) (id:Int) (w:World) (hv:SlG G w s xs) (hlen:xs.length≤1099511627) (hids:∀ p∈xs,p.ids.length≤1099511626) :
    Calls Tryz.prog 128 #[.agg #[s],int r,str t,int id] w (Rt fun u w'=>Ext w w'∧IxG (Fr G w) w' u (rtakeF xs r t id)):=by
  refine calls_E (n:=23) (args:=[.agg #[s],int r,str t,int id]) Tryz.func128 rfl Tryz.ntmps128 (by simp) ?_
  have hv0:=hv
  obtain⟨a,cap,rfl,hc,hm,hp⟩:=hv.sl
  refine E_seq ?_
  refine E_region ?_
  refine EL_box Z Z Z Z (fun bB wB xB hbB rB0=>?_)
  refine EL_alloc Z Z Z (fun bA wA xA hbA rA=>?_)
  have rB:=rB0.ext xA
  have x0:=xB.trans xA
  have hwB:w.heap.size≤bA:=by have:=xB.size;omega
  have hvA:=hv0.ext x0
  have hres:rtakeF xs r t id=rwithF xs ⟨r,t,minusF (rfindF xs r t) [id]⟩:=rfl
  rw [hres]
  (repeat' (first|refine eV Z Z (val_loadA Z Z Z rB.at rfl) ?_|(refine EL_call Z Z (entersF Z Z en159) (rfind_any xs _ r t _ hvA.any) (fun vF wF hF=>?_);obtain⟨xF,SF⟩:=hF)|(refine at_EL ?_;first|refine eN ?_|refine eV Z Z (zA Z Z) ?_|refine eL Z Z Z Z Z Z Z Z (fun bS wS xS hbS rS=>?_))|(refine at_K ?_;first|refine K_then ?_)|(refine at_E ?_;first|refine E_seq ?_|refine E_region ?_)))
  refine EL_call Z Z (entersF Z Z en36) (minusW_any _ [id] vF _ _ (SF.ext xS) (lit1 rS) (Nat.le_trans (rfind_mem hids) (by omega))) (fun vU wU hU=>?_)
  obtain⟨xU,SU⟩:=hU
  have XS0:=x0.trans (xF.trans xS)
  have XX:=xF.trans (xS.trans xU)
  (repeat' (first|refine eV Z Z (val_loadA Z Z Z (rB.ext XX).at rfl) ?_|(refine at_EL ?_;first|refine eN ?_|refine eV Z Z (zA Z Z) ?_|refine eV Z Z (zB Z Z) ?_)|(refine at_K ?_;first|refine K_then ?_)|(refine at_E ?_;first|refine E_seq ?_|refine E_region ?_)))
  have SU2:=SU
  obtain⟨aU,capU,rfl,_⟩:=SU2.sl
  (repeat' (first|refine eV Z Z (val_build (vs:=[(0,int r),(1,str t),(2,.slice aU (minusF (rfindF xs r t) [id]).length capU)]) [int r,str t,.slice aU (minusF (rfindF xs r t) [id]).length capU] rfl rfl rfl) ?_|refine EL_call Z Z (entersF Z Z en160) (rwith_any xs ⟨r,t,minusF (rfindF xs r t) [id]⟩ _ _ _ (SlG.wk (G':=Fr G w) (hvA.ext XX) (fun b hb=>.inl hb)) (SlG.wk (G':=Fr G w) SU (fun b hb=>.inr (Nat.le_trans XS0.size hb))) hlen) (fun vQ wQ hQ=>?_)))
  obtain⟨xQ,sQ,rfl,SQ⟩:=hQ
  have SQ':=away_postsG ((rA.ext XX).ext xQ) SQ
  have SQ2:=SQ
  obtain⟨aQ,capQ,rfl,_⟩:=SQ2.sl
  refine EL_storeP (cs:=[_]) ((rA.ext XX).ext xQ) (x0.trans (XX.trans xQ)) hwB rfl rfl rfl rfl rfl rfl rfl rfl (Nat.le_refl _) (fun w9 r9 x9 k9=>?_)
  (repeat' (first|(refine at_EL ?_;first|refine eN ?_)|(refine at_K ?_;first|refine K_then ?_)|(refine at_E ?_;first|refine E_ret ?_)))
  refine ret_c Z Z Z r9.at rfl ⟨x9,_,rfl,?_⟩
  exact SlG.wk (SQ'.move (k9.mv fun b hb e=>by cases e;exact hb.1 rfl)) (fun b hb=>Fr.up (x0.trans XX) hb.2)
end Go.Proofs.YtnifmbbpfdghmaaGreatDoor.Ix
namespace Go.Proofs.YtnifmbbpfdghmaaGreatDoor.Ix
open Go.RowKit Go.En
def TierIn (d:Dc):Prop:=∀ n∈d.notes,0≤n.tier∧n.tier<d.tiers.length
theorem tier_in {d:Dc} (h:TierIn d) {i:Nat} {n:Note} (hn:d.notes[i]?=some n):∃(m:Nat) (t:Tier),n.tier=(m:Int)∧m<d.tiers.length∧d.tiers[m]?=some t∧roleAt d.tiers n=t.role:=by
  have h1:=h n (List.mem_of_getElem? hn)
  have hlt:n.tier.toNat<d.tiers.length:=by omega
  refine⟨n.tier.toNat,d.tiers[n.tier.toNat],by omega,hlt,List.getElem?_eq_getElem hlt,?_⟩
  unfold roleAt
  rw [List.getElem?_eq_getElem hlt]
attribute [local irreducible] E EL K Val Enters Rt Calls bodyPost Code.wp RQ
set_option maxHeartbeats 4000000 in
set_option maxRecDepth 8000 in
theorem rupdate_any {G:Nat→Prop} (xs:List Post) (o e:Dc) (s vo ve:Value) (w:World) (hv:SlG G w s xs) (ho:DcAt w vo o) (he:DcAt w ve e) (hR:Right xs) (hxs:Small 1000000 xs) (hno:TierIn o) (hne:TierIn e) (hlo:o.notes.length≤1000) (hle:e.notes.length≤1000) :
    Calls Tryz.prog 98 #[.agg #[s],vo,ve] w (Rt fun u w'=>Ext w w'∧IxG (Fr G w) w' u (updF xs o e)):=by
  obtain⟨so,tvo,nvo,rfl,_,hto,hnot⟩:=ho
  obtain⟨se,tve,nve,rfl,_,hte,hnet⟩:=he
  refine calls_E (n:=62) (args:=[.agg #[s],.agg #[int o.rid,str o.rname,int o.len,int o.day,so,tvo,nvo],.agg #[int e.rid,str e.rname,int e.len,int e.day,se,tve,nve]]) Tryz.func98 rfl Tryz.ntmps98 (by simp) ?_
  have hto0:=hto
  have hno0:=hnot
  have hte0:=hte
  have hne0:=hnet
  have hv0:=hv
  obtain⟨as_,cs_,rfl,_⟩:=hv0.sl
  obtain⟨ato,cto,rfl,_,hmto,hpto⟩:=hto.sl
  obtain⟨ano,cno,rfl,_,hmno,hpno⟩:=hnot.sl
  obtain⟨ate,cte,rfl,_,hmte,hpte⟩:=hte.sl
  obtain⟨ane,cne,rfl,_,hmne,hpne⟩:=hnet.sl
  refine E_seq ?_
  refine E_region ?_
  refine EL_box Z Z Z Z (fun bX wX xX hbX rX0=>?_)
  refine EL_box Z Z Z Z (fun bO wO xO hbO rO0=>?_)
  refine EL_box Z Z Z Z (fun bE wE xE hbE rE0=>?_)
  refine EL_alloc Z Z Z (fun bA wA xA hbA rA0=>?_)
  have hbXl:=rX0.lt
  have hbOl:=rO0.lt
  have hbEl:=rE0.lt
  have hbAl:=rA0.lt
  have rX:Row wA bX 49 [.slice as_ xs.length cs_]:=rX0.ext (xO.trans (xE.trans xA))
  have rO:Row wA bO 28 [int o.rid,str o.rname,int o.len,int o.day,so,.slice ato o.tiers.length cto,.slice ano o.notes.length cno]:=rO0.ext (xE.trans xA)
  have rE:Row wA bE 28 [int e.rid,str e.rname,int e.len,int e.day,se,.slice ate e.tiers.length cte,.slice ane e.notes.length cne]:=rE0.ext xA
  have x0:=xX.trans (xO.trans (xE.trans xA))
  have hsv:SlG (Fr G w) wA (.slice as_ xs.length cs_) xs:=SlG.wk (hv.ext x0) (fun b hb=>.inl hb)
  have hwX:w.heap.size≤bX:=by omega
  have hwA:w.heap.size≤bA:=by have:=xX.size;have:=xO.size;have:=xE.size;omega
  clear rX0 rO0 rE0
  (repeat' (first|(refine at_EL ?_;first|refine eN ?_|refine eV Z Z (zB Z Z) ?_)|(refine at_K ?_;first|refine K_then ?_)|(refine at_E ?_;first|refine E_seq ?_|refine E_region ?_|refine E_block ?_)))
  refine E_loop (ι:=Nat) (fun i=>[(3,.pointer (some ⟨bX,0,none⟩)),(4,.pointer (some ⟨bO,0,none⟩)),(5,.pointer (some ⟨bE,0,none⟩)),(6,.pointer (some ⟨bA,0,none⟩)),(7,int i)])
    (fun i wr=>i≤o.notes.length∧Ext w wr∧Row wr bO 28 [int o.rid,str o.rname,int o.len,int o.day,so,.slice ato o.tiers.length cto,.slice ano o.notes.length cno]∧Row wr bE 28 [int e.rid,str e.rname,int e.len,int e.day,se,.slice ate e.tiers.length cte,.slice ane e.notes.length cne]∧Row wr bA 49 [.slice none 0 0]∧∃ sv,Row wr bX 49 [sv]∧SlG (Fr G w) wr sv (offF o.tiers (o.notes.take i) xs)) (fun i=>o.notes.length-i) 0
    ⟨rfl,rfl,rfl,rfl,rfl,trivial⟩ ⟨Nat.zero_le _,x0,rO,rE,rA0,_,rX,hsv⟩ ?_
  rintro i wr ⟨hi,hx,rO,rE,rA,sv,rX,hsv⟩
  have hsm:=(hxs.off o.tiers (o.notes.take i))
  have hRi:=(off_right o.tiers (o.notes.take i) hR)
  by_cases hlt:i<o.notes.length
  · obtain⟨b',off',rfl⟩:=hpno (by omega)
    obtain⟨x,hxx⟩:∃ x,o.notes[i]?=some x:=⟨_,List.getElem?_eq_getElem hlt⟩
    obtain⟨m,t,hmm,hmlt,htt,hro⟩:=tier_in hno hxx
    obtain⟨b,off,rfl⟩:=hpto (by omega)
    have hatn:=note_elem (hno0.ext hx) hxx
    have hbt:=off_take (ts:=o.tiers) (xs:=xs) hxx
    rw [hro,← rtake_eq hRi] at hbt
    have hbXr:=rX.lt
    have hbAr:=rA.lt
    (repeat' (first|refine eV Z Z (val_load Z Z Z (rO.cellAt rfl)) ?_|refine eV Z Z (val_indexAddr (m:=i) Z Z Z Z (by omega)) ?_|refine eV Z Z (val_loadA Z Z Z hatn rfl) ?_|(refine at_EL ?_;first|refine eN ?_|refine eV Z Z (zA Z Z) ?_|refine eV Z Z (zB Z Z) ?_|(refine at_bin ?_;first|refine eD Z Z (zL Z Z Z) (fun hh=>?_) (fun hh=>?_))|(refine at_call ?_;first|refine eV Z Z (zK Z Z) ?_)|refine eV Z Z (zH Z Z) ?_)|(refine at_K ?_;first|refine K_then ?_|refine K_then_exit ?_|refine K_in_exit ?_)|(refine at_E ?_;first|refine E_seq ?_|refine E_region ?_|refine E_cond_t Z ?_|refine E_cond_f Z ?_|refine E_block ?_|refine E_skip ?_|refine E_exit ?_)))
    all_goals (first|(exfalso;omega)|skip)
    refine EL_alloc Z Z Z (fun b4 w3 x3 hb4 r3=>?_)
    refine EL_storeP (cs:=noteC x) r3 x3 (by omega) Z Z Z Z Z Z Z Z (Nat.le_refl _) (fun w4 r4' x4 k4=>?_)
    have r4:Row w4 b4 74 [int x.id,int m,int x.parent,int x.frm,int x.til,int x.rank,str x.text]:=by rw [← hmm];exact r4'
    clear r4'
    replace rX:=rX.ext x4
    replace rO:=rO.ext x4
    replace rE:=rE.ext x4
    replace rA:=rA.ext x4
    have hatt:=tier_elem (hto0.ext (hx.trans x4)) htt
    have hsv4:=hsv.ext x4
    (repeat' (first|refine yV Z Z (fun wq _ xq=>val_loadA (cs:=[sv]) Z Z Z (rX.ext xq).at rfl) ?_|refine yV Z Z (fun wq _ xq=>val_load Z Z Z ((rO.ext xq).cellAt rfl)) ?_|refine yV Z Z (fun wq _ xq=>val_load Z Z Z ((r4.ext xq).cellAt rfl)) ?_|refine yV Z Z (fun _ _ _=>val_indexAddr (m:=m) Z Z Z Z hmlt) ?_|refine yV Z Z (fun wq _ xq=>val_load Z Z Z ((hatt.ext xq).cellAt rfl)) ?_|(refine at_EL ?_;first|refine eN ?_)|(refine at_K ?_;first|refine K_then ?_)|(refine at_E ?_;first|refine E_dq mixedOk (by kernel_rfl) Z ?_)|(refine at_RQ ?_;first|refine yV Z Z (fun _ _ _=>zH Z Z) ?_)))
    refine RQ_callR (fun u w'=>IxG (Fr G w) w' u (offF o.tiers (o.notes.take (i+1)) xs)) (fun _=>#[.agg #[sv],int t.role,str x.text,int x.id]) Z Z (fun _ _ _ _ xe h=>h.ext xe) (fun _ _ _=>entersF Z Z en128)
      (fun wq δ xq _=>calls_mono (rtake_any _ sv t.role x.text x.id wq (hsv4.ext xq) (by have:=hsm.1;omega) (fun p hp=>by have:=hsm.2 p hp;omega)) ?_) ?_
    · rintro u w' ⟨xe,h'⟩
      rw [hbt]
      obtain⟨s9,es9,h9⟩:=h'
      exact⟨⟨s9,es9,SlG.wk h9 (fun b hb=>Fr.up (hx.trans (x4.trans xq)) hb)⟩,xe⟩
    refine RQ_end (fun wq δ xq hQ=>?_)
    obtain⟨s',he,hs'⟩:=hQ 35 _ rfl
    obtain⟨aV,cV,rfl,_⟩:=hsv4.sl
    have hsaw:=away_postsG (rX.ext xq) hs'
    refine EL_storeP (cs:=[s']) (v:=.agg #[s']) (rX.ext xq) (hx.trans (x4.trans xq)) (by omega) Z Z Z Z (show some (δ 35)=_ by rw [he]) Z Z (by obtain⟨_,_,rfl,_⟩:=hs';rfl) (Nat.le_refl _) (fun w5 r5 x5 k5=>?_)
    (repeat' (first|(refine at_EL ?_;first|refine eN ?_|refine eV Z Z (zA Z Z) ?_|refine eV Z Z (zB Z Z) ?_|(refine at_bin ?_;first|refine eV Z Z (zU Z Z Z (by omega) (by omega)) ?_))|(refine at_K ?_;first|refine K_then ?_|refine K_in ?_)|(refine at_E ?_;first|refine E_region ?_)))
    exact K_rnd (i+1) ⟨rfl,rfl,rfl,rfl,rfl,trivial⟩ ⟨by omega,x5,k5.row (rO.ext xq) (fun e=>by cases e;omega),k5.row (rE.ext xq) (fun e=>by cases e;omega),k5.row (rA.ext xq) (fun e=>by cases e;omega),s',r5,SlG.wk (hsaw.move (k5.mv fun b hb e=>by cases e;exact hb.1 rfl)) (fun b hb=>hb.2)⟩ (by omega)
  obtain rfl:i=o.notes.length:=by omega
  rw [List.take_length] at hsv hsm hRi
  obtain⟨Y,hY⟩:∃ Y,Y=offF o.tiers o.notes xs:=⟨_,rfl⟩
  rw [← hY] at hsv hsm hRi
  have hYR:=hsm
  have hYr:=hRi
  clear hRi
  (repeat' (first|refine eV Z Z (val_load Z Z Z (rO.cellAt rfl)) ?_|(refine at_EL ?_;first|refine eN ?_|refine eV Z Z (zA Z Z) ?_|refine eV Z Z (zB Z Z) ?_|(refine at_bin ?_;first|refine eD Z Z (zL Z Z Z) (fun hh=>?_) (fun hh=>?_))|(refine at_call ?_;first|refine eV Z Z (zK Z Z) ?_)|refine eV Z Z (zH Z Z) ?_)|(refine at_K ?_;first|refine K_then ?_|refine K_then_exit ?_|refine K_in_exit ?_)|(refine at_E ?_;first|refine E_seq ?_|refine E_region ?_|refine E_cond_t Z ?_|refine E_cond_f Z ?_|refine E_block ?_|refine E_skip ?_|refine E_exit ?_)))
  all_goals (first|(exfalso;omega)|skip)
  clear hto0 hno0 hpto hpno hlt hi
  refine E_loop (ι:=Nat) (fun i=>[(3,.pointer (some ⟨bX,0,none⟩)),(4,.pointer (some ⟨bO,0,none⟩)),(5,.pointer (some ⟨bE,0,none⟩)),(6,.pointer (some ⟨bA,0,none⟩)),(9,int i)])
    (fun i wr=>i≤e.notes.length∧Ext w wr∧Row wr bO 28 [int o.rid,str o.rname,int o.len,int o.day,so,.slice ato o.tiers.length cto,.slice ano o.notes.length cno]∧Row wr bE 28 [int e.rid,str e.rname,int e.len,int e.day,se,.slice ate e.tiers.length cte,.slice ane e.notes.length cne]∧Row wr bA 49 [.slice none 0 0]∧∃ sv,Row wr bX 49 [sv]∧SlG (Fr G w) wr sv (onF e.tiers (e.notes.take i) Y)) (fun i=>e.notes.length-i) 0
    ⟨rfl,rfl,rfl,rfl,rfl,trivial⟩ ⟨Nat.zero_le _,hx,rO,rE,rA,_,rX,hsv⟩ ?_
  rintro i wr ⟨hi,hx,rO,rE,rA,sv,rX,hsv⟩
  have hsm:=((hYR.on e.tiers (e.notes.take i)).wk (m:=1001000) (by rw [List.length_take];omega))
  have hRi:=(on_right e.tiers (e.notes.take i) hYr)
  by_cases hlt:i<e.notes.length
  · obtain⟨b',off',rfl⟩:=hpne (by omega)
    obtain⟨x,hxx⟩:∃ x,e.notes[i]?=some x:=⟨_,List.getElem?_eq_getElem hlt⟩
    obtain⟨m,t,hmm,hmlt,htt,hro⟩:=tier_in hne hxx
    obtain⟨b,off,rfl⟩:=hpte (by omega)
    have hatn:=note_elem (hne0.ext hx) hxx
    have hbt:=on_take (ts:=e.tiers) (xs:=Y) hxx
    rw [hro,← rput_eq hRi] at hbt
    have hbXr:=rX.lt
    have hbAr:=rA.lt
    (repeat' (first|refine eV Z Z (val_load Z Z Z (rE.cellAt rfl)) ?_|refine eV Z Z (val_indexAddr (m:=i) Z Z Z Z (by omega)) ?_|refine eV Z Z (val_loadA Z Z Z hatn rfl) ?_|(refine at_EL ?_;first|refine eN ?_|refine eV Z Z (zA Z Z) ?_|(refine at_bin ?_;first|refine eD Z Z (zL Z Z Z) (fun hh=>?_) (fun hh=>?_))|(refine at_call ?_;first|refine eV Z Z (zK Z Z) ?_)|refine eV Z Z (zH Z Z) ?_)|(refine at_K ?_;first|refine K_then ?_|refine K_then_exit ?_|refine K_in_exit ?_)|(refine at_E ?_;first|refine E_seq ?_|refine E_region ?_|refine E_cond_t Z ?_|refine E_cond_f Z ?_|refine E_block ?_|refine E_skip ?_|refine E_exit ?_)))
    all_goals (first|(exfalso;omega)|skip)
    refine EL_alloc Z Z Z (fun b4 w3 x3 hb4 r3=>?_)
    refine EL_storeP (cs:=noteC x) r3 x3 (by omega) Z Z Z Z Z Z Z Z (Nat.le_refl _) (fun w4 r4' x4 k4=>?_)
    have r4:Row w4 b4 74 [int x.id,int m,int x.parent,int x.frm,int x.til,int x.rank,str x.text]:=by rw [← hmm];exact r4'
    clear r4'
    replace rX:=rX.ext x4
    replace rO:=rO.ext x4
    replace rE:=rE.ext x4
    replace rA:=rA.ext x4
    have hatt:=tier_elem (hte0.ext (hx.trans x4)) htt
    have hsv4:=hsv.ext x4
    (repeat' (first|refine yV Z Z (fun wq _ xq=>val_loadA (cs:=[sv]) Z Z Z (rX.ext xq).at rfl) ?_|refine yV Z Z (fun wq _ xq=>val_load Z Z Z ((rE.ext xq).cellAt rfl)) ?_|refine yV Z Z (fun wq _ xq=>val_load Z Z Z ((r4.ext xq).cellAt rfl)) ?_|refine yV Z Z (fun _ _ _=>val_indexAddr (m:=m) Z Z Z Z hmlt) ?_|refine yV Z Z (fun wq _ xq=>val_load Z Z Z ((hatt.ext xq).cellAt rfl)) ?_|(refine at_EL ?_;first|refine eN ?_)|(refine at_K ?_;first|refine K_then ?_)|(refine at_E ?_;first|refine E_dq mixedOk (by kernel_rfl) Z ?_)|(refine at_RQ ?_;first|refine yV Z Z (fun _ _ _=>zH Z Z) ?_)))
    refine RQ_callR (fun u w'=>IxG (Fr G w) w' u (onF e.tiers (e.notes.take (i+1)) Y)) (fun _=>#[.agg #[sv],int t.role,str x.text,int x.id]) Z Z (fun _ _ _ _ xe h=>h.ext xe) (fun _ _ _=>entersF Z Z en129)
      (fun wq δ xq _=>calls_mono (rput_any _ sv t.role x.text x.id wq (hsv4.ext xq) (by have:=hsm.1;omega) (fun p hp=>by have:=hsm.2 p hp;omega)) ?_) ?_
    · rintro u w' ⟨xe,h'⟩
      rw [hbt]
      obtain⟨s9,es9,h9⟩:=h'
      exact⟨⟨s9,es9,SlG.wk h9 (fun b hb=>Fr.up (hx.trans (x4.trans xq)) hb)⟩,xe⟩
    refine RQ_end (fun wq δ xq hQ=>?_)
    obtain⟨s',he,hs'⟩:=hQ 60 _ rfl
    obtain⟨aV,cV,rfl,_⟩:=hsv4.sl
    have hsaw:=away_postsG (rX.ext xq) hs'
    refine EL_storeP (cs:=[s']) (v:=.agg #[s']) (rX.ext xq) (hx.trans (x4.trans xq)) (by omega) Z Z Z Z (show some (δ 60)=_ by rw [he]) Z Z (by obtain⟨_,_,rfl,_⟩:=hs';rfl) (Nat.le_refl _) (fun w5 r5 x5 k5=>?_)
    (repeat' (first|(refine at_EL ?_;first|refine eN ?_|refine eV Z Z (zA Z Z) ?_|refine eV Z Z (zB Z Z) ?_|(refine at_bin ?_;first|refine eV Z Z (zU Z Z Z (by omega) (by omega)) ?_))|(refine at_K ?_;first|refine K_then ?_|refine K_in ?_)|(refine at_E ?_;first|refine E_region ?_)))
    exact K_rnd (i+1) ⟨rfl,rfl,rfl,rfl,rfl,trivial⟩ ⟨by omega,x5,k5.row (rO.ext xq) (fun e=>by cases e;omega),k5.row (rE.ext xq) (fun e=>by cases e;omega),k5.row (rA.ext xq) (fun e=>by cases e;omega),s',r5,SlG.wk (hsaw.move (k5.mv fun b hb e=>by cases e;exact hb.1 rfl)) (fun b hb=>hb.2)⟩ (by omega)
  obtain rfl:i=e.notes.length:=by omega
  rw [List.take_length] at hsv
  have hsaw:=away_postsG rA hsv
  obtain⟨aS,capS,rfl,_⟩:=hsv.sl
  (repeat' (first|refine eV Z Z (val_load Z Z Z (rE.cellAt rfl)) ?_|refine eV Z Z (val_loadA (cs:=[_]) Z Z Z rX.at rfl) ?_|(refine at_EL ?_;first|refine eN ?_|refine eV Z Z (zA Z Z) ?_|(refine at_bin ?_;first|refine eD Z Z (zL Z Z Z) (fun hh=>?_) (fun hh=>?_))|(refine at_call ?_;first|refine eV Z Z (zK Z Z) ?_)|refine eV Z Z (zH Z Z) ?_)|(refine at_K ?_;first|refine K_then ?_|refine K_then_exit ?_|refine K_in_exit ?_)|(refine at_E ?_;first|refine E_seq ?_|refine E_region ?_|refine E_cond_t Z ?_|refine E_cond_f Z ?_|refine E_block ?_|refine E_skip ?_|refine E_exit ?_)))
  all_goals (first|(exfalso;omega)|skip)
  refine EL_storeP (cs:=[_]) rA hx hwA rfl rfl rfl rfl rfl rfl rfl rfl (Nat.le_refl _) (fun w9 r9 x9 k9=>?_)
  (repeat' (first|(refine at_EL ?_;first|refine eN ?_)|(refine at_K ?_;first|refine K_then ?_)|(refine at_E ?_;first|refine E_ret ?_)))
  refine ret_c Z Z Z r9.at rfl ⟨x9,_,rfl,?_⟩
  unfold updF
  rw [← hY]
  exact SlG.wk (hsaw.move (k9.mv fun b hb e=>by cases e;exact hb.1 rfl)) (fun b hb=>hb.2)
def zeroD:Dc:=⟨0,[],0,0,[],[],[]⟩
set_option maxRecDepth 8000 in
theorem rbuildW_any (e:Dc) (ve:Value) (w:World) (he:DcAt w ve e) (hne:TierIn e) (hle:e.notes.length≤1000) :
    Calls Tryz.prog 48 #[ve] w (Rt fun u w'=>Ext w w'∧IxG (fun b=>w.heap.size≤b) w' u (buildF e.tiers e.notes)):=by
  have he0:=he
  obtain⟨se,tve,nve,rfl,hse,hte,hnet⟩:=he
  refine calls_E (n:=7) (args:=[.agg #[int e.rid,str e.rname,int e.len,int e.day,se,tve,nve]]) Tryz.func48 rfl Tryz.ntmps48 (by simp) ?_
  obtain⟨aS,cS,rfl,_⟩:=hse.sl
  obtain⟨aT,cT,rfl,_⟩:=hte.sl
  obtain⟨aN,cN,rfl,_⟩:=hnet.sl
  refine E_seq ?_
  refine E_region ?_
  refine EL_box Z Z Z Z (fun bE wE xE hbE rE0=>?_)
  refine EL_alloc Z Z Z (fun bA wA xA hbA rA0=>?_)
  have rE:Row wA bE 28 [int e.rid,str e.rname,int e.len,int e.day,.slice aS e.sp.length cS,.slice aT e.tiers.length cT,.slice aN e.notes.length cN]:=rE0.ext xA
  have hwA:w.heap.size≤bA:=by have:=xE.size;omega
  have hz:DcAt wA (.agg #[int 0,str [],int 0,int 0,.slice none 0 0,.slice none 0 0,.slice none 0 0]) zeroD:=⟨_,_,_,rfl,SlG.nil,SlG.nil,SlG.nil⟩
  have cU:=rupdate_any (G:=fun _=>False) [] zeroD e (.slice none 0 0) _ _ wA SlG.nil hz (he0.ext (xE.trans xA)) right_nil ⟨by simp,by simp⟩ (fun n hn=>by cases hn) hne (by simp [zeroD]) hle
  (repeat' (first|refine eV Z Z (val_build (vs:=[]) [.slice none 0 0] rfl rfl rfl) ?_|refine eV Z Z (val_build (vs:=[]) [int 0,str [],int 0,int 0,.slice none 0 0,.slice none 0 0,.slice none 0 0] rfl rfl rfl) ?_|refine eV Z Z (val_loadA Z Z Z rE.at rfl) ?_|(refine EL_call Z Z (entersF Z Z en98) cU (fun vC wC hC=>?_);obtain⟨xC,s',rfl,hs'⟩:=hC)|(refine at_EL ?_;first|refine eN ?_)|(refine at_K ?_;first|refine K_then ?_)|(refine at_E ?_;first|refine E_seq ?_|refine E_region ?_)))
  have hsaw:=away_postsG (rA0.ext xC) hs'
  obtain⟨aV,cV,rfl,_⟩:=hs'.sl
  refine EL_storeP (cs:=[_]) (rA0.ext xC) (xE.trans (xA.trans xC)) hwA rfl rfl rfl rfl rfl rfl rfl rfl (Nat.le_refl _) (fun w9 r9 x9 k9=>?_)
  (repeat' (first|(refine at_EL ?_;first|refine eN ?_)|(refine at_K ?_;first|refine K_then ?_)|(refine at_E ?_;first|refine E_ret ?_)))
  refine ret_c Z Z Z r9.at rfl ⟨x9,_,rfl,?_⟩
  have e2:updF [] zeroD e=buildF e.tiers e.notes:=by rw [build_on];rfl
  rw [← e2]
  exact SlG.wk (hsaw.move (k9.mv fun b hb e=>by cases e;exact hb.1 rfl)) (fun b hb=>hb.2.elim (fun h=>h.elim) (fun h=>Nat.le_trans (xE.trans xA).size h))
theorem rbuild_any (e:Dc) (ve:Value) (w:World) (he:DcAt w ve e) (hne:TierIn e) (hle:e.notes.length≤1000) :
    Calls Tryz.prog 48 #[ve] w (Rt fun u w'=>Ext w w'∧Ix w' u (buildF e.tiers e.notes)):=calls_mono (rbuildW_any e ve w he hne hle) (fun _ _ h=>by obtain⟨x,s,e,hs⟩:=h;exact⟨x,s,e,hs.any⟩)
end Go.Proofs.YtnifmbbpfdghmaaGreatDoor.Ix
