/- Own text. -/
import Derived.Test.YtojadfppncgphaaGreatDoorQYi
import Derived.Test.YtojadfppncgphaaGreatDoorQI
set_option linter.all false
set_option maxHeartbeats 16000000
set_option maxRecDepth 8000
namespace Go.Dl
open Go.RowKit Go.En
def HB (a b:Prop):Prop:=a→b
def HD (c a b:Prop):Prop:=(c→a)∧(¬ c→b)
def HG (c:Bool)(a b:Prop):Prop:=(c=true→a)∧(c=false→b)
structure HC (c:Bool)(a b:Prop):Prop where
 t:c=true→a
 f:c=false→b
theorem Wb {a b:Prop}(h:a→b):HB a b:=h
theorem Wd {c a b:Prop}(h:c→a)(k:¬ c→b):HD c a b:=⟨h,k⟩
theorem Wg {c:Bool}{a b:Prop}(h:c=true→a)(k:c=false→b):HG c a b:=⟨h,k⟩
theorem Wc {c:Bool}{a b:Prop}(h:c=true→a)(k:c=false→b):HC c a b:=⟨h,k⟩
section
variable {P : Program}{c : Cx}{n : Nat}{Q : Post}{F F0 : Fr}{H H0 : Hp}{ops rest : List Oper}{o : Oper}{sps : List Sp}{dr : Bool}
theorem D8i {x:Operand}{k l:Code}{b:Bool}(hc:ef F x=some (.d (.v (.bool b))))(h:HC b (X P c n k Q F H) (X P c n l Q F H)):X P c n (.cond x k l) Q F H:=G4q hc h.t h.f
theorem A0d {d:Nat}{p:Prop}{dp:Decidable p}(h:∀ w,Val P (pk F o) w o (.bool (@decide p dp)))(hg:gsf ops F o=some true)(hd:odst n o.dst=some d)
  (k:HD p (XG dr P c n ops Q F0 H0 (sps++[⟨some (.d (.v (.bool true))),[],[]⟩]) rest ((d,.d (.v (.bool true)))::F) H) (XG dr P c n ops Q F0 H0 (sps++[⟨some (.d (.v (.bool false))),[],[]⟩]) rest ((d,.d (.v (.bool false)))::F) H)):XG dr P c n ops Q F0 H0 sps (o::rest) F H:=D2 h hg hd k.1 k.2
theorem C5v {j d:Nat}{b e:Bool}(h1:o.guard=some (j,e))(h2:nthd ops j=some d)(h3:lf F d=some (.d (.v (.bool b))))(k:HG b (XG dr P c n ops Q F0 H0 sps (o::rest) F H) (XG dr P c n ops Q F0 H0 sps (o::rest) F H)):XG dr P c n ops Q F0 H0 sps (o::rest) F H:=G4y h1 h2 h3 k.1 k.2
theorem G4x {d:Nat}{t e:TypeId}{x:Operand}{sz m:Nat}{rows:List (List Dt)}[UT P t (.slice e)](ho:o.op=.call { callee:=.builtin .len,args:=#[x],argTypes:=#[t] })(hx:ef F x=some (.d (.s sz rows)))(hl:rows.length=m)(hg:gsf ops F o=some true)(hd:odst n o.dst=some d)
  (k:HB (m≤140737488355328) (XG false P c n ops Q F0 H0 sps rest ((d,.d (.v (int m)))::F) H)):XG false P c n ops Q F0 H0 sps (o::rest) F H:=H1d ho hx hl hg hd k
end
theorem Wz {g g':Prop}(k:g')(h:g'→g:=by
 intro k
 first
  | (refine at_G ?_;first
  | exact G2x k
  | exact C5u (by kernel_rfl) k
  | exact C5u rfl k
  | exact G_no rfl rfl k
  | (refine G2k ?_;first
  | exact G_x (C3s rfl rfl) rfl rfl k)
  | (refine G2o ?_;first
  | exact G_x (B2t rfl rfl) rfl rfl k)
  | (refine G2l ?_;first
  | exact G_x (B8f rfl rfl rfl rfl rfl rfl) rfl rfl k
  | exact G_x (B8g rfl rfl rfl rfl rfl rfl) rfl rfl k
  | exact G_x (C3t rfl rfl rfl rfl) rfl rfl k
  | exact G_x (B8h rfl rfl rfl rfl) rfl rfl k
  | exact G_x (A1t rfl rfl rfl rfl rfl rfl) rfl rfl k
  | exact G_x (A9a rfl rfl rfl rfl) rfl rfl k)
  | (refine G2n ?_;first
  | exact G_x (A2p rfl rfl rfl rfl) rfl rfl k
  | exact G_x (A4d rfl rfl) rfl rfl k)
  | (refine M0 ?_;first
  | exact A0d (fun _=>zL Z Z Z) Z Z k
  | exact A0d (fun _=>zM Z Z Z) Z Z k
  | exact A0d (fun _=>zN Z Z Z) Z Z k
  | exact A0d (fun _=>zO Z Z Z) Z Z k
  | exact A0d (fun _=>zP Z Z Z) Z Z k
  | exact A0d (fun _=>zQ Z Z Z) Z Z k
  | exact A0d (fun _=>zR Z Z Z) Z Z k
  | exact A0d (fun _=>zS Z Z Z) Z Z k
  | exact A0d (fun _=>zT Z Z Z) Z Z k
  | exact G_x (A7 fun _=>zU Z Z Z (by omega) (by omega)) Z Z k
  | exact G_x (A7 fun _=>zV Z Z Z (by omega) (by omega)) Z Z k
  | exact G_x (A7 fun _=>zW Z Z Z (by omega) (by omega)) Z Z k
  | exact G_x (A7 fun _=>zQ Z Z Z (by omega) (by omega) (by omega)) Z Z k
  | exact G_x (A7 fun _=>zRm rfl rfl rfl (by omega) (by omega)) rfl rfl k
  | exact G_x (D0f rfl rfl rfl) rfl rfl k)
  | (refine W4 ?_;first
  | exact G4x rfl rfl (by first
  | exact List.length_map ..
  | rfl) rfl rfl k
  | exact G_x (C1e rfl rfl (by first
  | exact List.length_map ..
  | rfl)) rfl rfl k
  | exact G_x (C3u rfl rfl rfl (by first
  | exact List.length_map ..
  | rfl)) rfl rfl k
  | exact G_x (A7 fun _=>zK Z Z) Z Z k
  | exact G_x (A7 fun _=>zJ Z Z) Z Z k
  | exact G_x (A7 fun _=>B4n Z Z Z) Z Z k
  | exact G_x (A7 fun _=>B4o Z Z Z) Z Z k
  | exact G_n rfl rfl (A9c rfl rfl rfl rfl rfl rfl (by simp only [List.length_map,List.length_append,List.length_cons,List.length_nil,List.length_take,List.length_drop];omega) (by simp only [List.length_map,List.length_append,List.length_cons,List.length_nil,List.length_take,List.length_drop];omega)) rfl k
  | exact G_nd rfl rfl (V9 _ rfl rfl rfl rfl rfl (by simp only [List.length_map,List.length_append,List.length_cons,List.length_nil,List.length_take,List.length_drop];omega) (by simp only [List.length_map,List.length_append,List.length_cons,List.length_nil,List.length_take,List.length_drop];omega)) rfl k)
  | (refine G2i ?_;first
  | exact G_s (B2n rfl rfl rfl rfl rfl rfl rfl rfl) rfl rfl rfl k
  | exact G_s (B2o rfl rfl rfl rfl rfl rfl rfl) rfl rfl rfl k
  | exact G_s (A4a rfl rfl rfl rfl rfl rfl rfl rfl) rfl rfl rfl k)
  | (refine G2m ?_;first
  | exact G_x (C3q rfl rfl rfl) rfl rfl k)
  | (refine G2g ?_;first
  | exact G_x (A9b rfl rfl rfl) rfl rfl k)
  | (refine G2h ?_;first
  | exact G_x (A7 fun _=>zE Z Z) Z Z k)
  | (refine G2j ?_;first
  | exact G_x (A4c rfl rfl rfl rfl) rfl rfl k
  | exact G_x (A6h rfl rfl) rfl rfl k)
  | exact G_nd rfl rfl (T9 _ rfl rfl) rfl k
  | exact G_nd rfl rfl (D0h _ rfl rfl rfl rfl) rfl k
  | exact G_x (B8j rfl rfl rfl) rfl rfl k
  | exact G_x (B8i rfl rfl rfl rfl) rfl rfl k
  | exact G_x (B2r rfl rfl rfl) rfl rfl k
  | exact G_x (D0e rfl rfl rfl rfl rfl) rfl rfl k
  | exact G_x (A6i rfl rfl rfl) rfl rfl k
  | exact G_x (A7 fun _=>zCu rfl rfl) rfl rfl k
  | exact G_x (A7 fun _=>zCb rfl rfl (by omega) (by omega)) rfl rfl k
  | exact C5v rfl rfl rfl k)
  | (refine G2f ?_;first
  | exact C5n k
  | exact G2v k
  | exact A6t k
  | exact A4x k
  | exact B4c k
  | exact B0m k
  | exact A6x rfl k
  | exact B4a k
  | exact B0j k
  | exact B0i k
  | exact A6u k
  | exact B0k k
  | exact A6v k)
  | (refine at_X ?_;first
  | exact H7 k
  | exact G2q k
  | exact B9v rfl k
  | exact B9w rfl k
  | exact C5m k
  | exact D3o k
  | exact G2p k
  | exact D3r k
  | exact G2s Q3 (by kernel_rfl) k
  | exact D8i rfl k)):g:=h k
theorem Wk {g g':Prop}(k:g')(h:g'→g:=by
 intro k
 first
  | (refine at_G ?_;first
  | exact G2x k
  | exact C5u (by kernel_rfl) k
  | exact C5u rfl k
  | exact G_no rfl rfl k
  | (refine G2k ?_;first
  | exact G_x (C3s rfl rfl) rfl rfl k)
  | (refine G2o ?_;first
  | exact G_x (B2t rfl rfl) rfl rfl k)
  | (refine G2l ?_;first
  | exact G_x (B8f rfl rfl rfl rfl rfl rfl) rfl rfl k
  | exact G_x (B8g rfl rfl rfl rfl rfl rfl) rfl rfl k
  | exact G_x (C3t rfl rfl rfl rfl) rfl rfl k
  | exact G_x (B8h rfl rfl rfl rfl) rfl rfl k
  | exact G_x (A1t rfl rfl rfl rfl rfl rfl) rfl rfl k
  | exact G_x (A9a rfl rfl rfl rfl) rfl rfl k)
  | (refine G2n ?_;first
  | exact G_x (A2p rfl rfl rfl rfl) rfl rfl k
  | exact G_x (A4d rfl rfl) rfl rfl k)
  | (refine M0 ?_;first
  | exact G_x (A7 fun _=>zL Z Z Z) Z Z k
  | exact G_x (A7 fun _=>zM Z Z Z) Z Z k
  | exact G_x (A7 fun _=>zN Z Z Z) Z Z k
  | exact G_x (A7 fun _=>zO Z Z Z) Z Z k
  | exact G_x (A7 fun _=>zP Z Z Z) Z Z k
  | exact G_x (A7 fun _=>zQ Z Z Z) Z Z k
  | exact G_x (A7 fun _=>zR Z Z Z) Z Z k
  | exact G_x (A7 fun _=>zS Z Z Z) Z Z k
  | exact G_x (A7 fun _=>zT Z Z Z) Z Z k
  | exact G_x (A7 fun _=>zU Z Z Z (by decide) (by decide)) Z Z k
  | exact G_x (A7 fun _=>zV Z Z Z (by decide) (by decide)) Z Z k
  | exact G_x (A7 fun _=>zW Z Z Z (by decide) (by decide)) Z Z k
  | exact G_x (D0f rfl rfl rfl) rfl rfl k)
  | (refine W4 ?_;first
  | exact G_x (C1e rfl rfl rfl) rfl rfl k
  | exact G_x (C3u rfl rfl rfl rfl) rfl rfl k
  | exact G_x (A7 fun _=>zK Z Z) Z Z k
  | exact G_x (A7 fun _=>zJ Z Z) Z Z k
  | exact G_x (A7 fun _=>B4n Z Z Z) Z Z k
  | exact G_x (A7 fun _=>B4o Z Z Z) Z Z k)
  | (refine G2i ?_;first
  | exact G_s (B2n rfl rfl rfl rfl rfl rfl rfl rfl) rfl rfl rfl k
  | exact G_s (B2o rfl rfl rfl rfl rfl rfl rfl) rfl rfl rfl k
  | exact G_s (A4a rfl rfl rfl rfl rfl rfl rfl rfl) rfl rfl rfl k)
  | (refine G2m ?_;first
  | exact G_x (C3q rfl rfl rfl) rfl rfl k)
  | (refine G2g ?_;first
  | exact G_x (A9b rfl rfl rfl) rfl rfl k)
  | (refine G2h ?_;first
  | exact G_x (A7 fun _=>zE Z Z) Z Z k)
  | (refine G2j ?_;first
  | exact G_x (A4c rfl rfl rfl rfl) rfl rfl k
  | exact G_x (A6h rfl rfl) rfl rfl k)
  | exact G_nd rfl rfl (T9 _ rfl rfl) rfl k
  | exact G_nd rfl rfl (D0h _ rfl rfl rfl rfl) rfl k
  | exact G_x (B8j rfl rfl rfl) rfl rfl k
  | exact G_x (B8i rfl rfl rfl rfl) rfl rfl k
  | exact G_x (B2r rfl rfl rfl) rfl rfl k
  | exact G_x (D0e rfl rfl rfl rfl rfl) rfl rfl k
  | exact G_x (A6i rfl rfl rfl) rfl rfl k
  | exact G_x (A7 fun _=>zCu rfl rfl) rfl rfl k
  | exact G_x (A7 fun _=>zCb rfl rfl (by omega) (by omega)) rfl rfl k
  | exact C5v rfl rfl rfl k)
  | (refine G2f ?_;first
  | exact H1b k
  | exact C5n k
  | exact G2v k
  | exact A6t k
  | exact A4x k
  | exact B4c k
  | exact B0m k
  | exact A6x rfl k
  | exact B4a k
  | exact B0j k
  | exact B0i k
  | exact A6u k
  | exact B0k k
  | exact A6v k)
  | (refine at_X ?_;first
  | exact X_un k
  | exact H7 k
  | exact G2q k
  | exact B9v rfl k
  | exact B9w rfl k
  | exact C5m k
  | exact D3o k
  | exact G2p k
  | exact D3r k
  | exact G2s Q3 (by kernel_rfl) k)):g:=h k
end Go.Dl
namespace Go.Dl
open Go.RowKit Go.En
theorem oMw {p : Prop}(h : False := by omega) : p := h.elim
theorem oEw {p : Prop}(h : p := by omega) : p := h
theorem oDw {p : Prop}(h : p := by dsimp only; omega) : p := h
theorem zLw {n : Nat} : 0 ≤ n := Nat.zero_le n
theorem tRw {p : Prop}(h : p := by (repeat (refine ⟨rfl, ?_⟩)); exact trivial) : p := h
theorem lOw {p : Prop}(h : p := by simp only [List.length_map, List.length_set, List.length_append, List.length_cons, List.length_nil, List.length_take, List.length_drop]; omega) : p := h
theorem hSw {p : Prop}(h : p := by (repeat (first | exact G6 _ | refine G8 rfl ?_ | refine G7 rfl ?_))) : p := h
theorem cDw {P : Program}{f : FuncId}{zs : List Dt}{x : Dt}{g g' : Prop}(he : ∀ args w, (callFunc f args).run P w = .ok (.enter f args) w)(hc : Fp P f zs x)(k : g')(h : (∀ args w, (callFunc f args).run P w = .ok (.enter f args) w) → Fp P f zs x → g' → g := by intro he hc k; exact G_x (A3 rfl rfl rfl he hc) rfl rfl k) : g := h he hc k
theorem iDw {rows : List (List Dt)}{m : Nat}{r : List Dt}{g g' : Prop}(hr : rows[m]? = some r)(k : g')(h : rows[m]? = some r → g' → g := by intro hr k; first | exact G_x (A2 rfl rfl rfl rfl hr) rfl rfl k | exact G_x (A2 rfl rfl rfl (by omega) hr) rfl rfl k) : g := h hr k
theorem rXw {q g : Prop}(hM : q)(h : q → g := by intro hM; exact D9f hM rfl rfl rfl) : g := h hM
theorem rEw {a b : Dt}{q g : Prop}(hM : q)(e : a = b)(h : q → a = b → g := by intro hM e; exact D9f hM rfl rfl rfl (.eq e)) : g := h hM e
theorem fXw {P : Program}{f : FuncId}{fn : Func}{n : Nat}{g : Prop}{Kc : Cx → Prop}(hf : P.funcs[f]? = some fn)(hn : fn.ntmps = n)(h : ∀ c : Cx, c.M = (fun _ => False) → Kc c)(t : P.funcs[f]? = some fn → fn.ntmps = n → (∀ c : Cx, c.M = (fun _ => False) → Kc c) → g := by intro hf hn h; exact fn_X hf rfl hn rfl h) : g := t hf hn h
end Go.Dl
namespace Go.Tp
open Go.RowKit Go.En Go.Dl
abbrev Tx:=List UInt8
def dI (x:Int):Dt:=.v (int x)
def dS (x:Tx):Dt:=.v (str x)
def dB (x:Bool):Dt:=.v (.bool x)
def iC (x:Int):List Dt:=[dI x]
def tC (x:Tx):List Dt:=[dS x]
abbrev ints (l:List Int):Dt:=.s 1 (l.map iC)
abbrev txts (l:List Tx):Dt:=.s 1 (l.map tC)
structure Tier where
 name:Tx
 kind:Int
 role:Int
 parent:Int
def A0g (t:Tier):List Dt:=[dS t.name,dI t.kind,dI t.role,dI t.parent]
structure Note where
 id:Int
 tier:Int
 parent:Int
 frm:Int
 til:Int
 rank:Int
 text:Tx
def C4 (n:Note):List Dt:=[dI n.id,dI n.tier,dI n.parent,dI n.frm,dI n.til,dI n.rank,dS n.text]
def L9:Note:=⟨0,0,0,0,0,0,[]⟩
structure Rc where
 id:Int
 name:Tx
 len:Int
 day:Int
 sp:List Int
def rcC (r:Rc):List Dt:=[dI r.id,dS r.name,dI r.len,dI r.day,ints r.sp]
structure Doc where
 rc:Rc
 tiers:List Tier
 notes:List Note
def docC (d:Doc):List Dt:=[dI d.rc.id,dS d.rc.name,dI d.rc.len,dI d.rc.day,ints d.rc.sp,.s 4 (d.tiers.map A0g),.s 7 (d.notes.map C4)]
def doc0:Doc:=⟨⟨0,[],0,0,[]⟩,[],[]⟩
structure Rf where
 rcd:Int
 note:Int
def rfC (r:Rf):List Dt:=[dI r.rcd,dI r.note]
structure Sns where
 gloss:Tx
 dfn:Tx
def snC (s:Sns):List Dt:=[dS s.gloss,dS s.dfn]
structure Lnk where
 kind:Int
 to:Int
def lkC (s:Lnk):List Dt:=[dI s.kind,dI s.to]
structure Entr where
 id:Int
 form:List Int
 cls:Int
 alts:List (List Int)
 main:Int
 senses:List Sns
 links:List Lnk
 refs:List Rf
def entC (e:Entr):List Dt:=[dI e.id,ints e.form,dI e.cls,.s 1 (e.alts.map fun a=>[ints a]),dI e.main,.s 2 (e.senses.map snC),.s 2 (e.links.map lkC),.s 2 (e.refs.map rfC)]
def ent0:Entr:=⟨0,[],0,[],0,[],[],[]⟩
def _root_.List.anyB {α:Type}(l:List α)(p:α→Bool):Bool:=match l with | []=>false|x::r=>p x||r.anyB p
def _root_.List.allB {α:Type}(l:List α)(p:α→Bool):Bool:=match l with | []=>true|x::r=>p x&&r.allB p
theorem R5 {α:Type}(p:α→Bool):∀ l:List α,l.anyB p=l.any p
 | []=>rfl
 | x::r=>by rw [List.anyB,R5 p r,List.any_cons]
theorem B6d {α:Type}(p:α→Bool):∀ l:List α,l.allB p=l.all p
 | []=>rfl
 | x::r=>by rw [List.allB,B6d p r,List.all_cons]
theorem gm {α β:Type}{f:α→β}{l:List α}{i:Nat}{x:α}(h:l[i]?=some x):(l.map f)[i]?=some (f x):=by rw [List.getElem?_map,h];rfl
theorem gex {α:Type}{l:List α}{i:Nat}(h:i<l.length):∃ x,l[i]?=some x:=⟨_,List.getElem?_eq_getElem h⟩
theorem drp {α:Type}{l:List α}{i:Nat}{x:α}(h:l[i]?=some x):l.drop i=x::l.drop (i+1):=by
 have hlt:=(List.getElem?_eq_some_iff.1 h).1
 rw [List.drop_eq_getElem_cons hlt]
 congr 1
 exact Option.some.inj ((List.getElem?_eq_getElem hlt).symm.trans h)
end Go.Tp
namespace Go.Proofs.YtojadfppncgphaaGreatDoor
section
open Go.RowKit Go.En Go.Dl Go.Tp
attribute [local irreducible] X XL XW XG XK Val LS Fp Fo Calls bodyPost Code.wp
def getN (l:List Note)(id:Int):Option Note:=l.find? fun n=>decide (n.id=id)
def fRes {α:Type}(C:α→List Dt)(z:α):Option α→Dt
 | some x=>.t [.g (C x),dB true]
 | none=>.t [.g (C z),dB false]
def ixF {α:Type}(p:α→Bool):List α→Int→Int
 | [],_ => -1
 | x::r,i=>if p x then i else ixF p r (i+1)
theorem c119 (d:Doc)(id:Int):Fp Tryz.prog 119 [.g (docC d),dI id] (fRes C4 L9 (d.notes.find? fun x=>decide (x.id=id))):=by
 refine fXw Tryz.func119 Tryz.ntmps119 fun c hM=>?_
 (repeat' (first|refine Wz ?_|refine Wb fun hb=>?_))
 refine X_lp (ι:=Nat) 2095264 [] (fun i=>[(11,.d (dI i))]) (fun _=>[]) (fun i=>i≤d.notes.length∧d.notes.find? (fun x=>decide (x.id=id))=(d.notes.drop i).find? fun x=>decide (x.id=id)) (fun i=>d.notes.length-i) (0) ?_ ?_
 ·exact⟨zLw,rfl⟩
 rintro i ⟨hi,hq⟩
 by_cases hlt:i<d.notes.length
 ·obtain⟨n,hn⟩:=gex hlt
  (repeat' (first|refine iDw (gm hn) ?_|refine Wz ?_|apply Wd <;>intro hh))
  all_goals (try exact oMw)
  all_goals first
   | (rw [hq,drp hn,List.find?_cons_of_pos (by simpa using hh)];exact rXw hM)
   | exact A0 (i+1) ⟨oEw,by rw [hq,drp hn];exact List.find?_cons_of_neg (by simpa using hh)⟩ oEw
 ·(repeat' (first|refine Wz ?_|apply Wd <;>intro hh))
  all_goals (try exact oMw)
  rw [hq,List.drop_eq_nil_of_le oEw]
  exact rXw hM
theorem c132 (d:Doc)(id:Int):Fp Tryz.prog 132 [.g (docC d),dI id] (fRes C4 L9 (d.notes.find? fun x=>decide (x.id=id))):=by
 refine fXw Tryz.func132 Tryz.ntmps132 fun c hM=>?_
 (repeat' (first|refine Wz ?_|fail))
 refine X_lp (ι:=Nat) 134217696 [] (fun i=>[(6,.d (dI i))]) (fun _=>[]) (fun i=>i≤d.notes.length∧d.notes.find? (fun x=>decide (x.id=id))=(d.notes.drop i).find? fun x=>decide (x.id=id)) (fun i=>d.notes.length-i) (0) ?_ ?_
 ·exact⟨zLw,rfl⟩
 rintro i ⟨hi,hq⟩
 by_cases hlt:i<d.notes.length
 ·obtain⟨n,hn⟩:=gex hlt
  (repeat' (first|refine iDw (gm hn) ?_|refine Wz ?_|refine Wb fun hb=>?_|apply Wd <;>intro hh))
  all_goals (try exact oMw)
  all_goals first
   | (rw [hq,drp hn,List.find?_cons_of_pos (by simpa using hh)];exact rXw hM)
   | exact A0 (i+1) ⟨oEw,by rw [hq,drp hn];exact List.find?_cons_of_neg (by simpa using hh)⟩ oEw
 ·(repeat' (first|refine Wz ?_|refine Wb fun hb=>?_|apply Wd <;>intro hh))
  all_goals (try exact oMw)
  rw [hq,List.drop_eq_nil_of_le oEw]
  exact rXw hM
theorem c53 (ds:List Doc)(id:Int):Fp Tryz.prog 53 [.s 7 (ds.map docC),dI id] (fRes docC doc0 (ds.find? fun x=>decide (x.rc.id=id))):=by
 refine fXw Tryz.func53 Tryz.ntmps53 fun c hM=>?_
 (repeat' (first|refine Wz ?_|refine Wb fun hb=>?_))
 refine X_lp (ι:=Nat) 2096288 [] (fun i=>[(10,.d (dI i))]) (fun _=>[]) (fun i=>i≤ds.length∧ds.find? (fun x=>decide (x.rc.id=id))=(ds.drop i).find? fun x=>decide (x.rc.id=id)) (fun i=>ds.length-i) (0) ?_ ?_
 ·exact⟨zLw,rfl⟩
 rintro i ⟨hi,hq⟩
 by_cases hlt:i<ds.length
 ·obtain⟨n,hn⟩:=gex hlt
  (repeat' (first|refine iDw (gm hn) ?_|refine Wz ?_|apply Wd <;>intro hh))
  all_goals (try exact oMw)
  all_goals first
   | (rw [hq,drp hn,List.find?_cons_of_pos (by simpa using hh)];exact rXw hM)
   | exact A0 (i+1) ⟨oEw,by rw [hq,drp hn];exact List.find?_cons_of_neg (by simpa using hh)⟩ oEw
 ·(repeat' (first|refine Wz ?_|apply Wd <;>intro hh))
  all_goals (try exact oMw)
  rw [hq,List.drop_eq_nil_of_le oEw]
  exact rXw hM
theorem c18 (ds:List Doc)(id:Int):Fp Tryz.prog 18 [.s 7 (ds.map docC),dI id] (fRes docC doc0 (ds.find? fun x=>decide (x.rc.id=id))):=by
 refine fXw Tryz.func18 Tryz.ntmps18 fun c hM=>?_
 (repeat' (first|refine Wz ?_|fail))
 refine X_lp (ι:=Nat) 33554400 [] (fun i=>[(6,.d (dI i))]) (fun _=>[]) (fun i=>i≤ds.length∧ds.find? (fun x=>decide (x.rc.id=id))=(ds.drop i).find? fun x=>decide (x.rc.id=id)) (fun i=>ds.length-i) (0) ?_ ?_
 ·exact⟨zLw,rfl⟩
 rintro i ⟨hi,hq⟩
 by_cases hlt:i<ds.length
 ·obtain⟨n,hn⟩:=gex hlt
  (repeat' (first|refine iDw (gm hn) ?_|refine Wz ?_|refine Wb fun hb=>?_|apply Wd <;>intro hh))
  all_goals (try exact oMw)
  all_goals first
   | (rw [hq,drp hn,List.find?_cons_of_pos (by simpa using hh)];exact rXw hM)
   | exact A0 (i+1) ⟨oEw,by rw [hq,drp hn];exact List.find?_cons_of_neg (by simpa using hh)⟩ oEw
 ·(repeat' (first|refine Wz ?_|refine Wb fun hb=>?_|apply Wd <;>intro hh))
  all_goals (try exact oMw)
  rw [hq,List.drop_eq_nil_of_le oEw]
  exact rXw hM
theorem c174 (l:List Entr)(id:Int):Fp Tryz.prog 174 [.s 8 (l.map entC),dI id] (fRes entC ent0 (l.find? fun x=>decide (x.id=id))):=by
 refine fXw Tryz.func174 Tryz.ntmps174 fun c hM=>?_
 (repeat' (first|refine Wz ?_|refine Wb fun hb=>?_))
 refine X_lp (ι:=Nat) 16776800 [] (fun i=>[(9,.d (dI i))]) (fun _=>[]) (fun i=>i≤l.length∧l.find? (fun x=>decide (x.id=id))=(l.drop i).find? fun x=>decide (x.id=id)) (fun i=>l.length-i) (0) ?_ ?_
 ·exact⟨zLw,rfl⟩
 rintro i ⟨hi,hq⟩
 by_cases hlt:i<l.length
 ·obtain⟨n,hn⟩:=gex hlt
  (repeat' (first|refine iDw (gm hn) ?_|refine Wz ?_|apply Wd <;>intro hh))
  all_goals (try exact oMw)
  all_goals first
   | (rw [hq,drp hn,List.find?_cons_of_pos (by simpa using hh)];exact rXw hM)
   | exact A0 (i+1) ⟨oEw,by rw [hq,drp hn];exact List.find?_cons_of_neg (by simpa using hh)⟩ oEw
 ·(repeat' (first|refine Wz ?_|apply Wd <;>intro hh))
  all_goals (try exact oMw)
  rw [hq,List.drop_eq_nil_of_le oEw]
  exact rXw hM
theorem c159 (l:List Entr)(id:Int):Fp Tryz.prog 159 [.s 8 (l.map entC),dI id] (dI (ixF (fun x=>decide (x.id=id)) l 0)):=by
 refine fXw Tryz.func159 Tryz.ntmps159 fun c hM=>?_
 (repeat' (first|refine Wz ?_|fail))
 refine X_lp (ι:=Nat) 1048560 [] (fun i=>[(5,.d (dI i))]) (fun _=>[]) (fun i=>i≤l.length∧ixF (fun x=>decide (x.id=id)) l 0=ixF (fun x=>decide (x.id=id)) (l.drop i) i) (fun i=>l.length-i) (0) ?_ ?_
 ·exact⟨zLw,rfl⟩
 rintro i ⟨hi,hq⟩
 by_cases hlt:i<l.length
 ·obtain⟨n,hn⟩:=gex hlt
  (repeat' (first|refine iDw (gm hn) ?_|refine Wz ?_|refine Wb fun hb=>?_|apply Wd <;>intro hh))
  all_goals (try exact oMw)
  all_goals first
   | (rw [hq,drp hn,ixF,if_pos (by simp [*])];exact rXw hM)
   | exact A0 (i+1) ⟨oEw,by rw [hq,drp hn,ixF,if_neg (by simp [*])];rfl⟩ oEw
 ·(repeat' (first|refine Wz ?_|refine Wb fun hb=>?_|apply Wd <;>intro hh))
  all_goals (try exact oMw)
  rw [hq,List.drop_eq_nil_of_le oEw]
  exact rXw hM
theorem c163 (l:List Entr)(id:Int):Fp Tryz.prog 163 [.s 8 (l.map entC),dI id] (dI (ixF (fun x=>decide (x.id=id)) l 0)):=by
 refine fXw Tryz.func163 Tryz.ntmps163 fun c hM=>?_
 (repeat' (first|refine Wz ?_|fail))
 refine X_lp (ι:=Nat) 1048560 [] (fun i=>[(5,.d (dI i))]) (fun _=>[]) (fun i=>i≤l.length∧ixF (fun x=>decide (x.id=id)) l 0=ixF (fun x=>decide (x.id=id)) (l.drop i) i) (fun i=>l.length-i) (0) ?_ ?_
 ·exact⟨zLw,rfl⟩
 rintro i ⟨hi,hq⟩
 by_cases hlt:i<l.length
 ·obtain⟨n,hn⟩:=gex hlt
  (repeat' (first|refine iDw (gm hn) ?_|refine Wz ?_|refine Wb fun hb=>?_|apply Wd <;>intro hh))
  all_goals (try exact oMw)
  all_goals first
   | (rw [hq,drp hn,ixF,if_pos (by simp [*])];exact rXw hM)
   | exact A0 (i+1) ⟨oEw,by rw [hq,drp hn,ixF,if_neg (by simp [*])];rfl⟩ oEw
 ·(repeat' (first|refine Wz ?_|refine Wb fun hb=>?_|apply Wd <;>intro hh))
  all_goals (try exact oMw)
  rw [hq,List.drop_eq_nil_of_le oEw]
  exact rXw hM
theorem c14 (l:List Tier)(r:Int):Fp Tryz.prog 14 [.s 4 (l.map A0g),dI r] (dI (ixF (fun x=>decide (r≠0)&&decide (x.role=r)) l 0)):=by
 refine fXw Tryz.func14 Tryz.ntmps14 fun c hM=>?_
 (repeat' (first|refine Wz ?_|fail))
 refine X_lp (ι:=Nat) 16777200 [] (fun i=>[(5,.d (dI i))]) (fun _=>[]) (fun i=>i≤l.length∧ixF (fun x=>decide (r≠0)&&decide (x.role=r)) l 0=ixF (fun x=>decide (r≠0)&&decide (x.role=r)) (l.drop i) i) (fun i=>l.length-i) (0) ?_ ?_
 ·exact⟨zLw,rfl⟩
 rintro i ⟨hi,hq⟩
 by_cases hlt:i<l.length
 ·obtain⟨n,hn⟩:=gex hlt
  (repeat' (first|refine iDw (gm hn) ?_|refine Wz ?_|refine Wb fun hb=>?_|apply Wd <;>intro hh))
  all_goals (try exact oMw)
  all_goals first
   | (rw [hq,drp hn,ixF,if_pos (by simp [*])];exact rXw hM)
   | exact A0 (i+1) ⟨oEw,by rw [hq,drp hn,ixF,if_neg (by simp [*])];rfl⟩ oEw
 ·(repeat' (first|refine Wz ?_|refine Wb fun hb=>?_|apply Wd <;>intro hh))
  all_goals (try exact oMw)
  rw [hq,List.drop_eq_nil_of_le oEw]
  exact rXw hM
theorem c113 (l:List Tier)(r:Int):Fp Tryz.prog 113 [.s 4 (l.map A0g),dI r] (dI (ixF (fun x=>decide (r≠0)&&decide (x.role=r)) l 0)):=by
 refine fXw Tryz.func113 Tryz.ntmps113 fun c hM=>?_
 (repeat' (first|refine Wz ?_|refine Wb fun hb=>?_))
 refine X_lp (ι:=Nat) 16776816 [] (fun i=>[(9,.d (dI i))]) (fun _=>[]) (fun i=>i≤l.length∧ixF (fun x=>decide (r≠0)&&decide (x.role=r)) l 0=ixF (fun x=>decide (r≠0)&&decide (x.role=r)) (l.drop i) i) (fun i=>l.length-i) (0) ?_ ?_
 ·exact⟨zLw,rfl⟩
 rintro i ⟨hi,hq⟩
 by_cases hlt:i<l.length
 ·obtain⟨n,hn⟩:=gex hlt
  (repeat' (first|refine iDw (gm hn) ?_|refine Wz ?_|apply Wd <;>intro hh))
  all_goals (try exact oMw)
  all_goals first
   | (rw [hq,drp hn,ixF,if_pos (by simp [*])];exact rXw hM)
   | exact A0 (i+1) ⟨oEw,by rw [hq,drp hn,ixF,if_neg (by simp [*])];rfl⟩ oEw
 ·(repeat' (first|refine Wz ?_|apply Wd <;>intro hh))
  all_goals (try exact oMw)
  rw [hq,List.drop_eq_nil_of_le oEw]
  exact rXw hM
theorem c127 (e:Entr)(id:Int):Fo Tryz.prog 127 [.g ((entC e).map .d),.p 1000 0 0] [(1000,.box 3 [.d (dI id)])] (.d (dB (decide (e.id=id)))) [(1000,.box 3 [.d (dI id)])]:=by
 refine fo_X (n:=8) Tryz.func127 rfl Tryz.ntmps127 rfl fun c hM=>?_
 (repeat' (first|refine Wz ?_|apply Wd <;>intro hh))
 ·rw [decide_eq_true hh];exact A9 hM Z Z Z ⟨rfl,trivial⟩ Z Z
 ·rw [decide_eq_false hh];exact A9 hM Z Z Z ⟨rfl,trivial⟩ Z Z
theorem c126 (l:List Entr)(id:Int):Fo Tryz.prog 126 [.d (.s 8 (l.map entC)),.f (.func 127) [.p 1000 0 0] ] [(1000,.box 3 [.d (dI id)])] (.d (dI (ixF (fun e=>decide (e.id=id)) l 0))) [(1000,.box 3 [.d (dI id)])]:=by
 refine fo_X (n:=19) Tryz.func126 rfl Tryz.ntmps126 rfl fun c hM=>?_
 (repeat' (first|refine Wz ?_|refine Wb fun hb=>?_))
 refine X_lp (ι:=Nat) 524080 [] (fun i=>[(8,.d (dI i))]) (fun _=>[]) (fun i=>i≤l.length∧ixF (fun x=>decide (x.id=id)) l 0=ixF (fun x=>decide (x.id=id)) (l.drop i) i) (fun i=>l.length-i) (0) ?_ ?_
 ·exact⟨zLw,rfl⟩
 rintro i ⟨hi,hq⟩
 by_cases hlt:i<l.length
 ·obtain⟨n,hn⟩:=gex hlt
  have cl:=c127 n id
  by_cases he:n.id=id
  ·rw [decide_eq_true he] at cl
   (repeat' (first|refine iDw (gm hn) ?_|refine G_c (J8 [(1000,1000)] (cl) Z Z Z Z Z tRw C4y) Z Z Z ?_|refine Wz ?_|apply Wd <;>intro hh))
   all_goals (try exact oMw)
   rw [hq,drp hn,ixF,if_pos (by simp [*])]
   exact A9 hM Z Z Z ⟨rfl,trivial⟩ Z Z
  ·rw [decide_eq_false he] at cl
   (repeat' (first|refine iDw (gm hn) ?_|refine G_c (J8 [(1000,1000)] (cl) Z Z Z Z Z tRw C4y) Z Z Z ?_|refine Wz ?_|apply Wd <;>intro hh))
   all_goals (try exact oMw)
   exact A0 (i+1) ⟨oEw,by rw [hq,drp hn,ixF,if_neg (by simp [*])];rfl⟩ oEw
 ·(repeat' (first|refine Wz ?_|apply Wd <;>intro hh))
  all_goals (try exact oMw)
  rw [hq,List.drop_eq_nil_of_le oEw]
  exact A9 hM Z Z Z ⟨rfl,trivial⟩ Z Z
def getE (l:List Entr)(id:Int):Option Entr:=l.find? fun x=>decide (x.id=id)
theorem Q5 {α:Type}(p:α→Bool):∀(l:List α) (k:Nat),(ixF p l k = -1∧l.find? p=none)∨∃ i x,ixF p l k=((k+i:Nat):Int)∧l[i]?=some x∧l.find? p=some x
 | [],_=>.inl ⟨rfl,rfl⟩
 | x :: r, k => by
  rw [ixF,List.find?_cons]
  cases hp:p x with
  | true=>exact .inr ⟨0,x,by simp,rfl,rfl⟩
  | false=>
   simp only [Bool.false_eq_true,if_false]
   rcases Q5 p r (k+1) with⟨h1,h2⟩|⟨i,y,h1,h2,h3⟩
   ·exact .inl ⟨by simpa using h1,h2⟩
   ·exact .inr ⟨i+1,y,by rw [show((k:Int)+1)=((k+1:Nat):Int) by simp,h1];congr 1;omega,by simpa using h2,h3⟩
theorem q1S {p:Prop}(h:p:=by first|(simp [one1, *,dB,dI,dS,List.anyB,List.allB];done)|(simp_all [one1,dB,dI,dS,List.anyB,List.allB];done)|(simp_all [one1,dB,dI,dS,List.anyB,List.allB];omega)):p:=h
theorem c179 (l:List Int)(a:Int):Fp Tryz.prog 179 [ints l,dI a] ((fun _ l=>dB (l.any fun x=>decide (x=a))) 0 l):=by
 refine fXw Tryz.func179 Tryz.ntmps179 fun c hM=>?_
 (repeat' (first|refine Wz ?_|refine Wb fun hb=>?_))
 refine X_lp (ι:=Nat) 261936 [] (fun i=>[(8,.d (dI i))]) (fun _=>[]) (fun i=>i≤l.length∧(fun _ l=>dB (l.any fun x=>decide (x=a))) 0 l=(fun _ l=>dB (l.any fun x=>decide (x=a))) i (l.drop i)) (fun i=>l.length-i) (0) ?_ ?_
 ·exact⟨zLw,rfl⟩
 rintro i ⟨hi,hq⟩
 by_cases hlt:i<l.length
 ·obtain⟨n,hn⟩:=gex hlt
  (repeat' (first|refine iDw (gm hn) ?_|refine Wz ?_|apply Wd <;>intro hh))
  all_goals (try exact oMw)
  all_goals first
   | (rw [hq,drp hn];refine rEw hM ?_;exact q1S)
   | exact A0 (i+1) ⟨oEw,by rw [hq,drp hn];exact q1S⟩ oEw
 ·(repeat' (first|refine Wz ?_|apply Wd <;>intro hh))
  all_goals (try exact oMw)
  all_goals rw [hq,List.drop_eq_nil_of_le oEw]
  all_goals (refine rEw hM ?_;exact q1S)
theorem c153 (l:List Tx)(a:Tx):Fp Tryz.prog 153 [txts l,dS a] ((fun _ l=>dB (l.any fun x=>decide (x=a))) 0 l):=by
 refine fXw Tryz.func153 Tryz.ntmps153 fun c hM=>?_
 (repeat' (first|refine Wz ?_|fail))
 refine X_lp (ι:=Nat) 262128 [] (fun i=>[(5,.d (dI i))]) (fun _=>[]) (fun i=>i≤l.length∧(fun _ l=>dB (l.any fun x=>decide (x=a))) 0 l=(fun _ l=>dB (l.any fun x=>decide (x=a))) i (l.drop i)) (fun i=>l.length-i) (0) ?_ ?_
 ·exact⟨zLw,rfl⟩
 rintro i ⟨hi,hq⟩
 by_cases hlt:i<l.length
 ·obtain⟨n,hn⟩:=gex hlt
  (repeat' (first|refine iDw (gm hn) ?_|refine Wz ?_|refine Wb fun hb=>?_|apply Wd <;>intro hh))
  all_goals (try exact oMw)
  all_goals first
   | (rw [hq,drp hn];refine rEw hM ?_;exact q1S)
   | exact A0 (i+1) ⟨oEw,by rw [hq,drp hn];exact q1S⟩ oEw
 ·(repeat' (first|refine Wz ?_|refine Wb fun hb=>?_|apply Wd <;>intro hh))
  all_goals (try exact oMw)
  all_goals rw [hq,List.drop_eq_nil_of_le oEw]
  all_goals (refine rEw hM ?_;exact q1S)
theorem q2S {p:Prop}(h:p:=by first|(simp [one1, *,dB,dI,dS,List.anyB,List.allB,ixF];done)|(simp_all [one1,dB,dI,dS,List.anyB,List.allB,ixF];done)|(simp_all [one1,dB,dI,dS,List.anyB,List.allB,ixF];omega)):p:=h
theorem c130 (l:List Int)(a:Int):Fp Tryz.prog 130 [ints l,dI a] ((fun i l=>dI (ixF (fun x=>decide (a=x)) l i)) 0 l):=by
 refine fXw Tryz.func130 Tryz.ntmps130 fun c hM=>?_
 (repeat' (first|refine Wz ?_|refine Wb fun hb=>?_))
 refine X_lp (ι:=Nat) 524080 [] (fun i=>[(8,.d (dI i))]) (fun _=>[]) (fun i=>i≤l.length∧(fun i l=>dI (ixF (fun x=>decide (a=x)) l i)) 0 l=(fun i l=>dI (ixF (fun x=>decide (a=x)) l i)) i (l.drop i)) (fun i=>l.length-i) (0) ?_ ?_
 ·exact⟨zLw,rfl⟩
 rintro i ⟨hi,hq⟩
 by_cases hlt:i<l.length
 ·obtain⟨n,hn⟩:=gex hlt
  (repeat' (first|refine iDw (gm hn) ?_|refine Wz ?_|apply Wd <;>intro hh))
  all_goals (try exact oMw)
  all_goals first
   | (rw [hq,drp hn];refine rEw hM ?_;exact q2S)
   | exact A0 (i+1) ⟨oEw,by rw [hq,drp hn];exact q2S⟩ oEw
 ·(repeat' (first|refine Wz ?_|apply Wd <;>intro hh))
  all_goals (try exact oMw)
  all_goals rw [hq,List.drop_eq_nil_of_le oEw]
  all_goals (refine rEw hM ?_;exact q2S)
end
end Go.Proofs.YtojadfppncgphaaGreatDoor
namespace Go.Tp
open Go.RowKit Go.En Go.Dl
structure Phn where
 name:Tx
 feat:Int
def phC (p:Phn):List Dt:=[dS p.name,dI p.feat]
structure Cls where
 mask:Int
 value:Int
def clsC (c:Cls):List Dt:=[dI c.mask,dI c.value]
structure Unt where
 graph:Tx
 segs:List Int
def untC (u:Unt):List Dt:=[dS u.graph,ints u.segs]
structure Rew where
 frm:List Int
 til:List Int
 left:List Cls
 right:List Cls
 beg:Bool
 fin:Bool
def rewC (r:Rew):List Dt:=[ints r.frm,ints r.til,.s 2 (r.left.map clsC),.s 2 (r.right.map clsC),dB r.beg,dB r.fin]
structure Stp where
 frm:Int
 cls:Int
 til:Int
def stC (s:Stp):List Dt:=[dI s.frm,dI s.cls,dI s.til]
structure Netw where
 states:Int
 steps:List Stp
 final:List Int
def netC (n:Netw):List Dt:=[dI n.states,.s 3 (n.steps.map stC),ints n.final]
structure Orth where
 name:Tx
 units:List Unt
 letters:List (List Tx)
def A0h (o:Orth):List Dt:=[dS o.name,.s 2 (o.units.map untC),.s 1 (o.letters.map fun l=>[txts l])]
structure Lng where
 segs:List Phn
 ortho:Orth
 rules:List Rew
 net:Netw
 lex:List Entr
def lngC (g:Lng):List Dt:=[.s 2 (g.segs.map phC),dS g.ortho.name,.s 2 (g.ortho.units.map untC),.s 1 (g.ortho.letters.map fun l=>[txts l]),.s 6 (g.rules.map rewC),dI g.net.states,.s 3 (g.net.steps.map stC),ints g.net.final,.s 8 (g.lex.map entC)]
structure Prt where
 entry:Int
 alt:Int
 sense:Int
def prtC (p:Prt):List Dt:=[dI p.entry,dI p.alt,dI p.sense]
structure Dcn where
 ref:Rf
 yes:Bool
 pick:List Prt
def dcnC (d:Dcn):List Dt:=[dI d.ref.rcd,dI d.ref.note,dB d.yes,.s 3 (d.pick.map prtC)]
structure Pnt where
 id:Int
 title:Tx
 text:Tx
 entries:List Int
 refs:List Rf
def pntC (p:Pnt):List Dt:=[dI p.id,dS p.title,dS p.text,ints p.entries,.s 2 (p.refs.map rfC)]
structure Pers where
 id:Int
 name:Tx
 member:Bool
def M5 (p:Pers):List Dt:=[dI p.id,dS p.name,dB p.member]
def C9c:Pers:=⟨0,[],false⟩
structure Grp where
 id:Int
 name:Tx
 people:List Int
 subs:List Int
def grpC (g:Grp):List Dt:=[dI g.id,dS g.name,ints g.people,ints g.subs]
structure Cons where
 person:Int
 rcd:Int
 day:Int
 kind:Int
def Y7 (c:Cons):List Dt:=[dI c.person,dI c.rcd,dI c.day,dI c.kind]
structure Spn where
 frm:Int
 til:Int
 deriving DecidableEq
def spnC (s:Spn):List Dt:=[dI s.frm,dI s.til]
structure Prot where
 level:Int
 groups:List Int
 til:Int
def B7p (p:Prot):List Dt:=[dI p.level,ints p.groups,dI p.til]
structure Rul where
 rcd:Int
 span:Spn
 prot:Prot
def rulC (r:Rul):List Dt:=[dI r.rcd,dI r.span.frm,dI r.span.til,dI r.prot.level,ints r.prot.groups,dI r.prot.til]
structure Rgts where
 people:List Pers
 groups:List Grp
 consents:List Cons
 rules:List Rul
def V7 (r:Rgts):List Dt:=[.s 3 (r.people.map M5),.s 4 (r.groups.map grpC),.s 4 (r.consents.map Y7),.s 6 (r.rules.map rulC)]
structure Vwr where
 person:Int
 day:Int
def vwrC (v:Vwr):List Dt:=[dI v.person,dI v.day]
def rcd (r:Rc):List Dt:=rcC r
abbrev docs (l:List Doc):Dt:=.s 7 (l.map docC)
abbrev lexD (l:List Entr):Dt:=.s 8 (l.map entC)
abbrev refs (l:List Rf):Dt:=.s 2 (l.map rfC)
abbrev pnts (l:List Pnt):Dt:=.s 5 (l.map pntC)
abbrev dcns (l:List Dcn):Dt:=.s 4 (l.map dcnC)
structure Prj where
 lang:Lng
 docs:List Doc
 dcns:List Dcn
 pnts:List Pnt
 rgts:Rgts
def prjC (p:Prj):List Dt:=[.s 2 (p.lang.segs.map phC),dS p.lang.ortho.name,.s 2 (p.lang.ortho.units.map untC),.s 1 (p.lang.ortho.letters.map fun l=>[txts l]),.s 6 (p.lang.rules.map rewC),dI p.lang.net.states,.s 3 (p.lang.net.steps.map stC),ints p.lang.net.final,.s 8 (p.lang.lex.map entC),docs p.docs,dcns p.dcns,pnts p.pnts,.s 3 (p.rgts.people.map M5),.s 4 (p.rgts.groups.map grpC),.s 4 (p.rgts.consents.map Y7),.s 6 (p.rgts.rules.map rulC)]
end Go.Tp
namespace Go.Proofs.YtojadfppncgphaaGreatDoor
section
open Go.RowKit Go.En Go.Dl Go.Tp
attribute [local irreducible] X XL XW XG XK Val LS Fp Fo Calls bodyPost Code.wp
theorem C4a {α:Type}(p:α→Bool):∀(l:List α) (k:Int),0≤k→(decide (0≤ixF p l k))=l.any p
 | [],k,_=>by simp [ixF]
 | x::r,k,h=>by
  rw [ixF,List.any_cons]
  cases hp:p x with
  | true=>simpa using h
  | false=>simpa using C4a p r (k+1) oEw
def hasI (l:List Int)(a:Int):Bool:=l.any fun x=>decide (a=x)
theorem c242 (l:List Int)(a:Int):Fp Tryz.prog 242 [ints l,dI a] (dB (hasI l a)):=by
 refine fXw Tryz.func242 Tryz.ntmps242 fun c hM=>?_
 have hx:=C4a (fun x=>decide (a=x)) l 0 (Int.le_refl _)
 unfold hasI
 rw [← hx]
 (repeat' (first|refine G_x (A3 Z Z Z C4x (c130 l a) (.eq rfl)) Z Z ?_|refine Wz ?_|apply Wd <;>intro hh))
 ·rw [decide_eq_true (by simpa using hh)];exact rXw hM
 ·rw [decide_eq_false (by simpa using hh)];exact rXw hM
theorem c190 (l:List Int)(a:Int):Fp Tryz.prog 190 [ints l,dI a] (dB (hasI l a)):=by
 refine fXw Tryz.func190 Tryz.ntmps190 fun c hM=>?_
 (repeat' (first|refine G_x (A3 Z Z Z G8p (c242 l a) (.eq rfl)) Z Z ?_|refine Wz ?_|fail))
 exact rXw hM
end
end Go.Proofs.YtojadfppncgphaaGreatDoor