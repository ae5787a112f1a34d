/-
  SearchAll: the row and its card.
-/
import Derived.Test.YtnifmbbpfdghmaaGreatDoorYp
import Derived.Test.YtnifmbbpfdghmaaGreatDoorPz
import Derived.Test.YtnifmbbpfdghmaaGreatDoorTp
import Derived.OpenShut
set_option linter.all false
namespace Go.Proofs.YtnifmbbpfdghmaaGreatDoor.searchAll
open Go.Shelf Go.ChangeShapes Go.WideShapes Go.ChangeAt Go.RowKit Go.Lib Go.En
open Go.ChangeMaps (open_string shut_string)
theorem laid_met (os:Os) (args:Array Value):laidMet Tryz.prog Rows.searchAllRow.laid ((laidWorld os).forCall (fun _ _=>0) ⟨#[],args,[]⟩).memory:=
  (LaidIn.of_run (l:=Rows.searchAllRow.laid) [1,0] 8 (by kernel_rfl) (by kernel_rfl) (by kernel_rfl) (by kernel_rfl)).met
theorem witness_row (os:Os) {H:Type} (enc:TypeId × Value→H) :
    (OpenSpec.ofChange Rows.searchAllSpec).preRow enc Tryz.prog Tryz.f11 Rows.searchAllRow.domain false Rows.searchAllRow.laid ((laidWorld os).forCall (fun _ _=>0) ⟨#[],#[.slice none 0 0,.agg #[.int .i64 0,.int .i64 0,.string ⟨#[]⟩,.slice none 0 0],.int .u8 0],[]⟩).memory #[.slice none 0 0,.agg #[.int .i64 0,.int .i64 0,.string ⟨#[]⟩,.slice none 0 0],.int .u8 0]:=by
  have hw:(DataW.whole enc Tryz.prog ((laidWorld os).forCall (fun _ _=>0) ⟨#[],#[.slice none 0 0,.agg #[.int .i64 0,.int .i64 0,.string ⟨#[]⟩,.slice none 0 0],.int .u8 0],[]⟩).memory Tryz.f11.params.toList Rows.searchAllSpec.vars false #[Value.slice none 0 0,Value.agg #[.int .i64 0,.int .i64 0,.string ⟨#[]⟩,.slice none 0 0],Value.int .u8 0].toList 8).map (fun x=>(x.1,x.2.1))=
      some ([.nil,.agg [.lit (.int .i64 0),.lit (.int .i64 0),.lit (.string []),.nil],.lit (.int .u8 0)],[]):=by kernel_rfl
  obtain⟨⟨x1,x2,x3⟩,hx,hx1⟩:=Option.map_eq_some_iff.1 hw
  simp only [Prod.mk.injEq] at hx1
  obtain⟨rfl,rfl⟩:=hx1
  exact OpenSpec.preRow_of_cond 8 hx (by kernel_rfl) (fun k hk=>by cases hk) (by kernel_rfl) (laid_met os _)
set_option maxRecDepth 100000 in
set_option maxHeartbeats 2000000 in
theorem lifted (os:Os) (started:os.Started) (H:Type) (enc:TypeId × Value→H) (F:Stop.Interp) :
    ReturnsInHanded {} Tryz.checked os 11 .any ((OpenSpec.ofChange Rows.searchAllSpec).preRow enc Tryz.prog Tryz.f11 Rows.searchAllRow.domain false Rows.searchAllRow.laid) (((OpenSpec.ofChange Rows.searchAllSpec).at F).post enc Tryz.prog Tryz.f11 false true false false):=by
  refine returnsInHanded_of_row (C:=Tryz.checked) (s:=(OpenSpec.ofChange Rows.searchAllSpec)) own started (by kernel_rfl) Tryz.func11
    (witness_row_atRef (enc:=enc) (C:=Tryz.checked) false (laidWorld os) #[.slice none 0 0,.agg #[.int .i64 0,.int .i64 0,.string ⟨#[]⟩,.slice none 0 0],.int .u8 0] rfl (by kernel_rfl) (by kernel_rfl) (by kernel_rfl) (witness_row os enc)) ?_
  intro W base args ds gs before hval0 hW hcnd1 hcond hcnd3 hL _ _
  have hval:∀(j:Nat) t v,Tryz.f11.params[j]?=some t→args[j]?=some v→Value.okWide Tryz.prog W .any base t v:=hval0
  have hW':=hW
  obtain⟨p,q,hA0,hV0,rfl,_,_⟩:=hW
  have hA:DataW.TrodAll enc Tryz.prog W 0 (fun _=>true) true Tryz.f11.params.toList args.toList ds p:=hA0
  rw [Tryz.params11] at hA hval
  obtain⟨v0,vs0,d0,ds0,p0,q0,hargs0,rfl,rfl,h0,r0⟩:=trodAll_cons hA
  obtain⟨v1,vs1,d1,ds1,p1,q1,hargs1,rfl,rfl,h1,r1⟩:=trodAll_cons r0
  obtain⟨v2,vs2,d2,ds2,p2,q2,hargs2,rfl,rfl,h2,r2⟩:=trodAll_cons r1
  obtain⟨rfl,rfl,rfl⟩:=trodAll_nil r2
  obtain rfl:args=#[v0,v1,v2]:=by cases args;simp_all
  obtain⟨rfl,rfl⟩:=trodVars_none hV0
  obtain⟨x0,hx0,hnm0⟩:=open_docs (hval 0 59 v0 rfl rfl) h0 (bd_each hcnd3 (j:=0) rfl rfl)
  obtain⟨x1,hx1⟩:=open_q (hval 1 36 v1 rfl rfl) h1 (bd_each hcnd3 (j:=1) rfl rfl)
  obtain⟨z2,rfl,rfl,rfl,wz2⟩:=open_int Tryz.underlying5 (hval 2 5 v2 rfl rfl) h2
  clear hA0 hV0 hval0
  have htab:Tabs W:=laid_tabs hL
  have walk:=slaw11_any x0 x1 z2 v0 v1 W hx0 hnm0 hx1 (u8_wf wz2).1 (u8_wf wz2).2 htab
  have hlt:=fun x hx=>hW'.lt x hx
  refine walk.mono ?_
  rintro e W' ⟨u,rfl,rfl,bel⟩
  refine⟨_,rfl,_,_,_,[],(p0++(p1++([]++[]))),[],hW',?_,?_,?_,Below.frame bel _,fun h=>by cases h⟩
  · exact trodAll_mk1 (shut_bool Tryz.underlying4 _)
  · exact trodAll_cons_mk (Below.trod laidOut (by kernel_rfl) (of_decide_eq_true (by kernel_rfl)) h0 bel fun x hx=>hlt x (by simp [hx])) (trodAll_cons_mk (Below.trod laidOut (by kernel_rfl) (of_decide_eq_true (by kernel_rfl)) h1 bel fun x hx=>hlt x (by simp [hx])) (trodAll_cons_mk (shut_int Tryz.underlying5 wz2) (trodAll_mk0)))
  · rfl
theorem jf1:(Rows.searchAllRow.inPlace==Tryz.pinned.checked.prog.inPlace 11)=true:=by kernel_rfl
theorem jf2:(Rows.searchAllRow.unfollowed==Tryz.pinned.checked.prog.unfollowed 11)=true:=by kernel_rfl
theorem jf3:(Rows.searchAllRow.recurses==Tryz.pinned.checked.prog.recurses 11)=true:=by kernel_rfl
theorem jf4:(Rows.searchAllRow.named==Tryz.pinned.checked.prog.varsNamed 11)=true:=by kernel_rfl
theorem said:Rows.SearchAllSaid:=
  OpenClaim.holds_of_cond 11 Tryz.f11 rfl rfl rfl rfl rfl rfl rfl ⟨rfl,rfl,rfl,rfl,rfl⟩ rfl rfl rfl rfl rfl (by kernel_rfl) Tryz.func11
    (by unfold joinedFacts;exact band (band (band (band (band (band (band (band (band (band (band (band (band (band (band (band (band (band (band (band (band (band (band (band (band (band (band (band (band (band (band (by kernel_rfl) pj_laid) pj_rowed) (by kernel_rfl)) (by kernel_rfl)) (by kernel_rfl)) (by kernel_rfl)) (by kernel_rfl)) (by kernel_rfl)) jf1) jf2) jf3) jf4) (by kernel_rfl)) (by kernel_rfl)) (by kernel_rfl)) (by kernel_rfl)) (by kernel_rfl)) (by kernel_rfl)) (by kernel_rfl)) (by kernel_rfl)) (by kernel_rfl)) pj_plain) (by kernel_rfl)) pj_heard) pj_enter) pj_lifts) pj_make) (by kernel_rfl)) (by kernel_rfl)) (by kernel_rfl)) (by kernel_rfl))
    (of_decide_eq_true (by kernel_rfl)) (by unfold Func.isWrapper;first|(rw [if_pos (by decide +kernel)];kernel_rfl)|(rw [if_neg (by decide +kernel)];exact⟨rfl,rfl⟩))
    (fun os started H enc _ F=>by rw [OpenClaim.pre_eq_preRow];exact lifted os started H enc F)
theorem plain (f:FuncId) (fn:Func) (hf:Tryz.pinned.checked.prog.funcNamed Rows.searchAllRow.func=some f) (hfn:Tryz.pinned.checked.prog.funcs[f]?=some fn) :
    false=Tryz.pinned.checked.prog.looks []∧∀(j:Nat) t,fn.params[j]?=some t→Tryz.pinned.checked.prog.wantsStandIn t=false:=by
  obtain rfl:f=11:=Option.some.inj ((show Tryz.prog.funcNamed Rows.searchAllRow.func=some 11 by kernel_rfl).symm.trans hf) |>.symm
  obtain rfl:fn=Tryz.f11:=(Option.some.inj (Tryz.func11.symm.trans hfn)).symm
  refine⟨by kernel_rfl,fun j t ht=>?_⟩
  rw [Tryz.params11] at ht
  have hm:=Array.mem_of_getElem? ht
  rcases (show t=59∨t=36∨t=5 by simpa using hm) with rfl|rfl|rfl
  · exact(show Tryz.prog.wantsStandIn 59=false by kernel_rfl)
  · exact(show Tryz.prog.wantsStandIn 36=false by kernel_rfl)
  · exact(show Tryz.prog.wantsStandIn 5=false by kernel_rfl)
theorem goes:false=Rows.searchAllRow.goesBy Tryz.pinned.checked.prog:=by kernel_rfl
theorem card:Rows.SearchAllCardSaid:=
  Claim7.holds_tied_plain_at .later [] _ _ _ _ said (fun _ h=>by cases h) (by kernel_rfl) (fun _ h=>by cases h) searchAll_row_tie rfl ⟨rfl,rfl⟩ pj_main rfl plain goes
end Go.Proofs.YtnifmbbpfdghmaaGreatDoor.searchAll
