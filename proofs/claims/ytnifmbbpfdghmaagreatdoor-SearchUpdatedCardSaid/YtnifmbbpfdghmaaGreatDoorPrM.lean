/-
  SearchUpdated: the row and its card.
-/
import Derived.Test.YtnifmbbpfdghmaaGreatDoorYp
import Derived.Test.YtnifmbbpfdghmaaGreatDoorPz
import Derived.Test.YtnifmbbpfdghmaaGreatDoorTo
import Derived.OpenShut
set_option linter.all false
namespace Go.Proofs.YtnifmbbpfdghmaaGreatDoor.searchUpdated
open Go.Shelf Go.ChangeShapes Go.WideShapes Go.ChangeAt Go.RowKit Go.Lib Go.En
open Go.ChangeMaps (open_string shut_string)
theorem laid_met (os:Os) (args:Array Value):laidMet Tryz.prog Rows.searchUpdatedRow.laid ((laidWorld os).forCall (fun _ _=>0) ⟨#[],args,[]⟩).memory:=
  (LaidIn.of_run (l:=Rows.searchUpdatedRow.laid) [1,0] 8 (by kernel_rfl) (by kernel_rfl) (by kernel_rfl) (by kernel_rfl)).met
theorem witness_row (os:Os) {H:Type} (enc:TypeId × Value→H) :
    (OpenSpec.ofChange Rows.searchUpdatedSpec).preRow enc Tryz.prog Tryz.f16 Rows.searchUpdatedRow.domain false Rows.searchUpdatedRow.laid ((laidWorld os).forCall (fun _ _=>0) ⟨#[],#[.agg #[.int .i64 0,.string ⟨#[]⟩,.int .i64 0,.int .i64 0,.slice none 0 0,.slice none 0 0,.slice none 0 0],.agg #[.int .i64 0,.string ⟨#[]⟩,.int .i64 0,.int .i64 0,.slice none 0 0,.slice none 0 0,.slice none 0 0],.agg #[.int .i64 0,.int .i64 0,.string ⟨#[]⟩,.slice none 0 0]],[]⟩).memory #[.agg #[.int .i64 0,.string ⟨#[]⟩,.int .i64 0,.int .i64 0,.slice none 0 0,.slice none 0 0,.slice none 0 0],.agg #[.int .i64 0,.string ⟨#[]⟩,.int .i64 0,.int .i64 0,.slice none 0 0,.slice none 0 0,.slice none 0 0],.agg #[.int .i64 0,.int .i64 0,.string ⟨#[]⟩,.slice none 0 0]]:=by
  have hw:(DataW.whole enc Tryz.prog ((laidWorld os).forCall (fun _ _=>0) ⟨#[],#[.agg #[.int .i64 0,.string ⟨#[]⟩,.int .i64 0,.int .i64 0,.slice none 0 0,.slice none 0 0,.slice none 0 0],.agg #[.int .i64 0,.string ⟨#[]⟩,.int .i64 0,.int .i64 0,.slice none 0 0,.slice none 0 0,.slice none 0 0],.agg #[.int .i64 0,.int .i64 0,.string ⟨#[]⟩,.slice none 0 0]],[]⟩).memory Tryz.f16.params.toList Rows.searchUpdatedSpec.vars false #[Value.agg #[.int .i64 0,.string ⟨#[]⟩,.int .i64 0,.int .i64 0,.slice none 0 0,.slice none 0 0,.slice none 0 0],Value.agg #[.int .i64 0,.string ⟨#[]⟩,.int .i64 0,.int .i64 0,.slice none 0 0,.slice none 0 0,.slice none 0 0],Value.agg #[.int .i64 0,.int .i64 0,.string ⟨#[]⟩,.slice none 0 0]].toList 8).map (fun x=>(x.1,x.2.1))=
      some ([.agg [.agg [.lit (.int .i64 0),.lit (.string []),.lit (.int .i64 0),.lit (.int .i64 0),.nil],.nil,.nil],.agg [.agg [.lit (.int .i64 0),.lit (.string []),.lit (.int .i64 0),.lit (.int .i64 0),.nil],.nil,.nil],.agg [.lit (.int .i64 0),.lit (.int .i64 0),.lit (.string []),.nil]],[]):=by kernel_rfl
  obtain⟨⟨x1,x2,x3⟩,hx,hx1⟩:=Option.map_eq_some_iff.1 hw
  simp only [Prod.mk.injEq] at hx1
  obtain⟨rfl,rfl⟩:=hx1
  exact OpenSpec.preRow_of_cond 8 hx (by kernel_rfl) (fun k hk=>by cases hk) (by kernel_rfl) (laid_met os _)
set_option maxRecDepth 100000 in
set_option maxHeartbeats 2000000 in
theorem lifted (os:Os) (started:os.Started) (H:Type) (enc:TypeId × Value→H) (F:Stop.Interp) :
    ReturnsInHanded {} Tryz.checked os 16 .any ((OpenSpec.ofChange Rows.searchUpdatedSpec).preRow enc Tryz.prog Tryz.f16 Rows.searchUpdatedRow.domain false Rows.searchUpdatedRow.laid) (((OpenSpec.ofChange Rows.searchUpdatedSpec).at F).post enc Tryz.prog Tryz.f16 false true false false):=by
  refine returnsInHanded_of_row (C:=Tryz.checked) (s:=(OpenSpec.ofChange Rows.searchUpdatedSpec)) own started (by kernel_rfl) Tryz.func16
    (witness_row_atRef (enc:=enc) (C:=Tryz.checked) false (laidWorld os) #[.agg #[.int .i64 0,.string ⟨#[]⟩,.int .i64 0,.int .i64 0,.slice none 0 0,.slice none 0 0,.slice none 0 0],.agg #[.int .i64 0,.string ⟨#[]⟩,.int .i64 0,.int .i64 0,.slice none 0 0,.slice none 0 0,.slice none 0 0],.agg #[.int .i64 0,.int .i64 0,.string ⟨#[]⟩,.slice none 0 0]] rfl (by kernel_rfl) (by kernel_rfl) (by kernel_rfl) (witness_row os enc)) ?_
  intro W base args ds gs before hval0 hW hcnd1 hcond hcnd3 hL _ _
  have hval:∀(j:Nat) t v,Tryz.f16.params[j]?=some t→args[j]?=some v→Value.okWide Tryz.prog W .any base t v:=hval0
  have hW':=hW
  obtain⟨p,q,hA0,hV0,rfl,_,_⟩:=hW
  have hA:DataW.TrodAll enc Tryz.prog W 0 (fun _=>true) true Tryz.f16.params.toList args.toList ds p:=hA0
  rw [Tryz.params16] at hA hval
  obtain⟨v0,vs0,d0,ds0,p0,q0,hargs0,rfl,rfl,h0,r0⟩:=trodAll_cons hA
  obtain⟨v1,vs1,d1,ds1,p1,q1,hargs1,rfl,rfl,h1,r1⟩:=trodAll_cons r0
  obtain⟨v2,vs2,d2,ds2,p2,q2,hargs2,rfl,rfl,h2,r2⟩:=trodAll_cons r1
  obtain⟨rfl,rfl,rfl⟩:=trodAll_nil r2
  obtain rfl:args=#[v0,v1,v2]:=by cases args;simp_all
  obtain⟨rfl,rfl⟩:=trodVars_none hV0
  obtain⟨x0,hx0,hnm0⟩:=open_dc (hval 0 28 v0 rfl rfl) h0 (bd_each hcnd3 (j:=0) rfl rfl)
  obtain⟨x1,hx1,hnm1⟩:=open_dc (hval 1 28 v1 rfl rfl) h1 (bd_each hcnd3 (j:=1) rfl rfl)
  obtain⟨x2,hx2⟩:=open_q (hval 2 36 v2 rfl rfl) h2 (bd_each hcnd3 (j:=2) rfl rfl)
  clear hA0 hV0 hval0
  have htab:Tabs W:=laid_tabs hL
  have walk:=slaw16_any x0 x1 x2 v0 v1 v2 W hx0 hnm0 hx1 hnm1 hx2 htab
  have hlt:=fun x hx=>hW'.lt x hx
  refine walk.mono ?_
  rintro e W' ⟨u,rfl,rfl,bel⟩
  refine⟨_,rfl,_,_,_,[],(p0++(p1++(p2++[]))),[],hW',?_,?_,?_,Below.frame bel _,fun h=>by cases h⟩
  · exact trodAll_mk1 (shut_bool Tryz.underlying4 _)
  · exact trodAll_cons_mk (Below.trod laidOut (by kernel_rfl) (of_decide_eq_true (by kernel_rfl)) h0 bel fun x hx=>hlt x (by simp [hx])) (trodAll_cons_mk (Below.trod laidOut (by kernel_rfl) (of_decide_eq_true (by kernel_rfl)) h1 bel fun x hx=>hlt x (by simp [hx])) (trodAll_cons_mk (Below.trod laidOut (by kernel_rfl) (of_decide_eq_true (by kernel_rfl)) h2 bel fun x hx=>hlt x (by simp [hx])) (trodAll_mk0)))
  · rfl
theorem jf1:(Rows.searchUpdatedRow.inPlace==Tryz.pinned.checked.prog.inPlace 16)=true:=by kernel_rfl
theorem jf2:(Rows.searchUpdatedRow.unfollowed==Tryz.pinned.checked.prog.unfollowed 16)=true:=by kernel_rfl
theorem jf3:(Rows.searchUpdatedRow.recurses==Tryz.pinned.checked.prog.recurses 16)=true:=by kernel_rfl
theorem jf4:(Rows.searchUpdatedRow.named==Tryz.pinned.checked.prog.varsNamed 16)=true:=by kernel_rfl
theorem said:Rows.SearchUpdatedSaid:=
  OpenClaim.holds_of_cond 16 Tryz.f16 rfl rfl rfl rfl rfl rfl rfl ⟨rfl,rfl,rfl,rfl,rfl⟩ rfl rfl rfl rfl rfl (by kernel_rfl) Tryz.func16
    (by unfold joinedFacts;exact band (band (band (band (band (band (band (band (band (band (band (band (band (band (band (band (band (band (band (band (band (band (band (band (band (band (band (band (band (band (band (by kernel_rfl) pj_laid) pj_rowed) (by kernel_rfl)) (by kernel_rfl)) (by kernel_rfl)) (by kernel_rfl)) (by kernel_rfl)) (by kernel_rfl)) jf1) jf2) jf3) jf4) (by kernel_rfl)) (by kernel_rfl)) (by kernel_rfl)) (by kernel_rfl)) (by kernel_rfl)) (by kernel_rfl)) (by kernel_rfl)) (by kernel_rfl)) (by kernel_rfl)) pj_plain) (by kernel_rfl)) pj_heard) pj_enter) pj_lifts) pj_make) (by kernel_rfl)) (by kernel_rfl)) (by kernel_rfl)) (by kernel_rfl))
    (of_decide_eq_true (by kernel_rfl)) (by unfold Func.isWrapper;first|(rw [if_pos (by decide +kernel)];kernel_rfl)|(rw [if_neg (by decide +kernel)];exact⟨rfl,rfl⟩))
    (fun os started H enc _ F=>by rw [OpenClaim.pre_eq_preRow];exact lifted os started H enc F)
theorem plain (f:FuncId) (fn:Func) (hf:Tryz.pinned.checked.prog.funcNamed Rows.searchUpdatedRow.func=some f) (hfn:Tryz.pinned.checked.prog.funcs[f]?=some fn) :
    false=Tryz.pinned.checked.prog.looks []∧∀(j:Nat) t,fn.params[j]?=some t→Tryz.pinned.checked.prog.wantsStandIn t=false:=by
  obtain rfl:f=16:=Option.some.inj ((show Tryz.prog.funcNamed Rows.searchUpdatedRow.func=some 16 by kernel_rfl).symm.trans hf) |>.symm
  obtain rfl:fn=Tryz.f16:=(Option.some.inj (Tryz.func16.symm.trans hfn)).symm
  refine⟨by kernel_rfl,fun j t ht=>?_⟩
  rw [Tryz.params16] at ht
  have hm:=Array.mem_of_getElem? ht
  rcases (show t=28∨t=36 by simpa using hm) with rfl|rfl
  · exact(show Tryz.prog.wantsStandIn 28=false by kernel_rfl)
  · exact(show Tryz.prog.wantsStandIn 36=false by kernel_rfl)
theorem goes:false=Rows.searchUpdatedRow.goesBy Tryz.pinned.checked.prog:=by kernel_rfl
theorem card:Rows.SearchUpdatedCardSaid:=
  Claim7.holds_tied_plain_at .later [] _ _ _ _ said (fun _ h=>by cases h) (by kernel_rfl) (fun _ h=>by cases h) searchUpdated_row_tie rfl ⟨rfl,rfl⟩ pj_main rfl plain goes
end Go.Proofs.YtnifmbbpfdghmaaGreatDoor.searchUpdated
