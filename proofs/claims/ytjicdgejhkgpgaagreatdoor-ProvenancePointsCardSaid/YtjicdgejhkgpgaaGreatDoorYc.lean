/-
  Bits: and, or, shifts; a mask as a set of states. Walks of the layers runes and pattern. Walks of the layers runes and pattern. Runes and patterns, plainly.
-/
import Derived.Test.YtjicdgejhkgpgaaGreatDoorYb
import Derived.Lib.ValidLaws
import Derived.Lib.TrimUEq
import Derived.Test.YtjicdgejhkgpgaaGreatDoorI
set_option linter.all false
namespace Go.En
open Go.RowKit
def bandI (a b:Int):Int:=IntKind.i64.wrap ((BitVec.ofInt 64 a &&& BitVec.ofInt 64 b).toNat)
@[reducible] def u32 (m:Nat):Value:=.int .u32 (m:Int)
theorem wrap_u32 {m:Nat} (h:m<4294967296):IntKind.u32.wrap (m:Int)=(m:Int):=by
  simp [IntKind.wrap,IntKind.signed,IntKind.bits];omega
theorem ofInt_u32 {m:Nat} (h:m<4294967296):(BitVec.ofInt 32 (m:Int)).toNat=m:=by
  rw [BitVec.toNat_ofInt]
  have:((m:Int) % ((2 ^ 32:Nat):Int))=(m:Int):=Int.emod_eq_of_lt (by omega) (by simp;omega)
  rw [this];omega
section
variable {P : Program} {n : Nat} {Q : Post} {L : List (Nat × Value)} {w : World} {ops : List Oper} {o : Oper} {rest : List Oper}
theorem val_and {t u:TypeId} {x y:Operand} {a b:Int} (ho:o.op=.binOp .and t x y u) (hx:ev L x=some (int a)) (hy:ev L y=some (int b)):Val P L w o (int (bandI a b)):=
  val_arith ho hx hy rfl
theorem val_and32 {t u:TypeId} {x y:Operand} {a b:Nat} (ho:o.op=.binOp .and t x y u) (hx:ev L x=some (u32 a)) (hy:ev L y=some (u32 b)) (ha:a<4294967296) (hb:b<4294967296):Val P L w o (u32 (a &&& b)):=
  val_arith ho hx hy (by
    have h1:a &&& b<4294967296:=Nat.lt_of_le_of_lt Nat.and_le_left ha
    have h2:((BitVec.ofInt 32 (a:Int)) &&& (BitVec.ofInt 32 (b:Int))).toNat=a &&& b:=by rw [BitVec.toNat_and,ofInt_u32 ha,ofInt_u32 hb]
    have key:binOp .and t (u32 a) (u32 b)=pure (.int .u32 (IntKind.u32.wrap (((BitVec.ofInt 32 (a:Int)) &&& (BitVec.ofInt 32 (b:Int))).toNat:Int))):=rfl
    rw [key,h2,wrap_u32 h1])
theorem val_or32 {t u:TypeId} {x y:Operand} {a b:Nat} (ho:o.op=.binOp .or t x y u) (hx:ev L x=some (u32 a)) (hy:ev L y=some (u32 b)) (ha:a<4294967296) (hb:b<4294967296):Val P L w o (u32 (a ||| b)):=
  val_arith ho hx hy (by
    have h1:a ||| b<2 ^ 32:=Nat.or_lt_two_pow ha hb
    have h2:((BitVec.ofInt 32 (a:Int)) |||(BitVec.ofInt 32 (b:Int))).toNat=a ||| b:=by rw [BitVec.toNat_or,ofInt_u32 ha,ofInt_u32 hb]
    have key:binOp .or t (u32 a) (u32 b)=pure (.int .u32 (IntKind.u32.wrap (((BitVec.ofInt 32 (a:Int)) |||(BitVec.ofInt 32 (b:Int))).toNat:Int))):=rfl
    rw [key,h2,wrap_u32 h1])
theorem val_shift {op:BinOp} {t u:TypeId} {x y:Operand} {k k':IntKind} {a b z:Int} (ho:o.op=.binOp op t x y u) (hop:op=.shl∨op=.shr) (hx:ev L x=some (.int k a)) (hy:ev L y=some (.int k' b))
    (hz:Op.shift op k a k' b=pure (.int k z)):Val P L w o (.int k z):=fun ρ ha=>by
  have h1:=ha.ev (by rw [ho];simp [Op.operands]) hx
  have h2:=ha.ev (by rw [ho];simp [Op.operands]) hy
  rcases hop with rfl|rfl
  · simp only [execOp,ho,h1,h2,eqGuard,binOp,hz];rfl
  · simp only [execOp,ho,h1,h2,eqGuard,binOp,hz];rfl
theorem val_shl32 {t u:TypeId} {x y:Operand} {q:Nat} (ho:o.op=.binOp .shl t x y u) (hx:ev L x=some (u32 1)) (hy:ev L y=some (int q)) (hq:q<32):Val P L w o (u32 (2 ^ q)):=
  val_shift ho (.inl rfl) hx hy (by
    have h0:¬ ((q:Int)<0):=by omega
    have h2:(2:Nat) ^ q<4294967296:=Nat.pow_lt_pow_right (by omega) (m:=q) (n:=32) hq
    have h1:((1:Nat):Int)*2 ^ q=((2 ^ q:Nat):Int):=by simp
    unfold Op.shift
    rw [if_neg h0]
    simp only [IntKind.bits,Int.toNat_natCast]
    rw [Nat.min_eq_left (Nat.le_of_lt hq),h1,wrap_u32 h2])
theorem val_shr32 {t u:TypeId} {x y:Operand} {m q:Nat} (ho:o.op=.binOp .shr t x y u) (hx:ev L x=some (u32 m)) (hy:ev L y=some (int q)) (hq:q<32):Val P L w o (u32 (m >>> q)):=
  val_shift ho (.inr rfl) hx hy (by
    have h0:¬ ((q:Int)<0):=by omega
    unfold Op.shift
    rw [if_neg h0]
    simp only [IntKind.bits,Int.toNat_natCast]
    rw [Nat.min_eq_left (Nat.le_of_lt hq)]
    have:((m:Int)).fdiv (2 ^ q)=((m >>> q:Nat):Int):=by
      rw [Nat.shiftRight_eq_div_pow]
      rw [Int.fdiv_eq_ediv_of_nonneg _ (Int.pow_nonneg (by omega))]
      simp
    rw [this])
end
def MaskIs (m:Nat) (S:Int→Bool):Prop:=m<2 ^ 24∧∀ q:Nat,m.testBit q=S (q:Int)
theorem MaskIs.lt {m:Nat} {S:Int→Bool} (h:MaskIs m S):m<4294967296:=by have:=h.1;omega
theorem mask_zero:MaskIs 0 (fun _=>false):=⟨by decide,fun q=>by simp⟩
theorem mask_or {m t:Nat} {S:Int→Bool} (h:MaskIs m S) (ht:t<24):MaskIs (m ||| 2 ^ t) (fun q=>S q||q==(t:Int)):=by
  refine⟨Nat.or_lt_two_pow h.1 (Nat.pow_lt_pow_right (by omega) ht),fun q=>?_⟩
  rw [Nat.testBit_or,h.2 q,Nat.testBit_two_pow]
  congr 1
  by_cases e:t=q
  · subst e;simp
  · rw [decide_eq_false e];symm;simp;omega
theorem mask_bit {m q:Nat} {S:Int→Bool} (h:MaskIs m S):(m >>> q) &&& 1=if S (q:Int) then 1 else 0:=by
  rw [← h.2 q,Nat.testBit]
  rcases Nat.mod_two_eq_zero_or_one (m >>> q) with e|e
  · rw [Nat.and_one_is_mod,e];simp [Nat.one_and_eq_mod_two,e]
  · rw [Nat.and_one_is_mod,e];simp [Nat.one_and_eq_mod_two,e]
theorem mask_eq {m:Nat} {S T:Int→Bool} (h:MaskIs m S) (e:∀ q:Nat,S (q:Int)=T (q:Int)):MaskIs m T:=⟨h.1,fun q=>(h.2 q).trans (e q)⟩
theorem mask_ne {m:Nat} {S:Int→Bool} (h:MaskIs m S):m≠0↔∃ q:Nat,S (q:Int)=true:=by
  constructor
  · intro hm
    obtain⟨i,hi⟩:=Nat.exists_testBit_of_ne_zero hm
    exact⟨i,(h.2 i).symm.trans hi⟩
  · rintro⟨q,hq⟩ rfl
    rw [← h.2 q] at hq;simp at hq
theorem mask_and {m k:Nat} {S T:Int→Bool} (h:MaskIs m S) (h':MaskIs k T):MaskIs (m &&& k) (fun q=>S q&&T q):=
  ⟨Nat.lt_of_le_of_lt Nat.and_le_left h.1,fun q=>by rw [Nat.testBit_and,h.2 q,h'.2 q]⟩
end Go.En
namespace Go.Proofs.YtjicdgejhkgpgaaGreatDoor
open Go.Lib
def encN (p:Nat):List Nat:=
  if p<128 then [p]
  else if p<2048 then [192+p / 64,128+p % 64]
  else if p<65536 then [224+p / 4096,128+p / 64 % 64,128+p % 64]
  else [240+p / 262144,128+p / 4096 % 64,128+p / 64 % 64,128+p % 64]
def encB (p:Nat):List UInt8:=(encN p).map UInt8.ofNat
def scal (p:Nat):Bool:=decide (p≤1114111)&&(decide (p<55296)||decide (57343<p))
def leadP (b:Nat):Nat:=if 240≤b then b-240 else if 224≤b then b-224 else if 192≤b then b-192 else b
def leadN (b:Nat):Nat:=if 240≤b then 4 else if 224≤b then 3 else if 192≤b then 2 else 1
def accP (d:List UInt8):Nat→Nat
  | 0=>0
  | 1=>leadP (d.getD 0 0).toNat
  | k+1=>accP d k*64+(d.getD k 0).toNat % 64
def firstR (d:List UInt8):Option (Nat × Nat):=
  let n:=leadN (d.getD 0 0).toNat
  if d.length<n then none
  else if scal (accP d n)=true∧encB (accP d n)=d.take n then some (accP d n,n) else none
theorem encN_lt {p:Nat} (h:scal p=true):∀ x∈encN p,x<256:=by
  simp only [scal,Bool.and_eq_true,decide_eq_true_eq] at h
  intro x hx
  unfold encN at hx
  split at hx
  · simp at hx;omega
  · split at hx
    · simp at hx;omega
    · split at hx
      · simp at hx;omega
      · simp at hx;omega
theorem take1 {d:List UInt8} (h:1≤d.length):d.take 1=[d.getD 0 0]:=by
  match d,h with|a::r,_=>simp
theorem take2 {d:List UInt8} (h:2≤d.length):d.take 2=[d.getD 0 0,d.getD 1 0]:=by
  match d,h with|a::b::r,_=>simp
theorem take3 {d:List UInt8} (h:3≤d.length):d.take 3=[d.getD 0 0,d.getD 1 0,d.getD 2 0]:=by
  match d,h with|a::b::c::r,_=>simp
theorem take4 {d:List UInt8} (h:4≤d.length):d.take 4=[d.getD 0 0,d.getD 1 0,d.getD 2 0,d.getD 3 0]:=by
  match d,h with|a::b::c::e::r,_=>simp
theorem of_eq {x:Nat} {b:UInt8} (h:x<256):UInt8.ofNat x=b↔x=b.toNat:=by
  rw [← UInt8.toNat_inj,UInt8.toNat_ofNat',Nat.mod_eq_of_lt h]
def firstN (n b0 b1 b2 b3:Nat):Option (Nat × Nat):=
  if b0<192 then (if b0<128 then some (b0,1) else none)
  else if b0<224 then (if n<2 then none else if b1 / 64=2∧128≤(b0-192)*64+b1 % 64 then some ((b0-192)*64+b1 % 64,2) else none)
  else if b0<240 then (if n<3 then none else if b1 / 64=2∧b2 / 64=2∧2048≤((b0-224)*64+b1 % 64)*64+b2 % 64∧(((b0-224)*64+b1 % 64)*64+b2 % 64<55296∨57343<((b0-224)*64+b1 % 64)*64+b2 % 64) then some (((b0-224)*64+b1 % 64)*64+b2 % 64,3) else none)
  else (if n<4 then none else if b1 / 64=2∧b2 / 64=2∧b3 / 64=2∧65536≤(((b0-240)*64+b1 % 64)*64+b2 % 64)*64+b3 % 64∧(((b0-240)*64+b1 % 64)*64+b2 % 64)*64+b3 % 64≤1114111 then some ((((b0-240)*64+b1 % 64)*64+b2 % 64)*64+b3 % 64,4) else none)
theorem encB_1 {p:Nat} {a:UInt8} (hs:scal p=true):encB p=[a]↔p<128∧p=a.toNat:=by
  have hlt:=encN_lt hs
  unfold encB
  unfold encN at hlt ⊢
  split
  · rename_i h;simp [h] at hlt ⊢;rw [of_eq hlt]
  · split
    · simp;omega
    · split <;>(simp;omega)
theorem encB_2 {p:Nat} {a b:UInt8} (hs:scal p=true):encB p=[a,b]↔128≤p∧p<2048∧192+p / 64=a.toNat∧128+p % 64=b.toNat:=by
  have hlt:=encN_lt hs
  unfold encB
  unfold encN at hlt ⊢
  split
  · simp;omega
  · split
    · rename_i h1 h2;rw [if_neg h1,if_pos h2] at hlt
      simp at hlt
      simp only [List.map_cons,List.map_nil,List.cons.injEq,and_true]
      rw [of_eq hlt.1,of_eq hlt.2]
      omega
    · split <;>(simp;omega)
theorem encB_3 {p : Nat} {a b c : UInt8} (hs : scal p = true) : encB p = [a, b, c] ↔ 2048 ≤ p ∧ p < 65536 ∧ 224 + p / 4096 = a.toNat ∧ 128 + p / 64 % 64 = b.toNat ∧ 128 + p % 64 = c.toNat := by
  have hlt:=encN_lt hs
  unfold encB
  unfold encN at hlt ⊢
  split
  · simp;omega
  · split
    · simp;omega
    · split
      · rename_i h1 h2 h3;rw [if_neg h1,if_neg h2,if_pos h3] at hlt
        simp at hlt
        simp only [List.map_cons,List.map_nil,List.cons.injEq,and_true]
        rw [of_eq hlt.1,of_eq hlt.2.1,of_eq hlt.2.2]
        omega
      · simp;omega
theorem encB_4 {p : Nat} {a b c d : UInt8} (hs : scal p = true) : encB p = [a, b, c, d] ↔ 65536 ≤ p ∧ 240 + p / 262144 = a.toNat ∧ 128 + p / 4096 % 64 = b.toNat ∧ 128 + p / 64 % 64 = c.toNat ∧ 128 + p % 64 = d.toNat := by
  have hlt:=encN_lt hs
  unfold encB
  unfold encN at hlt ⊢
  split
  · simp;omega
  · split
    · simp;omega
    · split
      · simp;omega
      · rename_i h1 h2 h3;rw [if_neg h1,if_neg h2,if_neg h3] at hlt
        simp at hlt
        simp only [List.map_cons,List.map_nil,List.cons.injEq,and_true]
        rw [of_eq hlt.1,of_eq hlt.2.1,of_eq hlt.2.2.1,of_eq hlt.2.2.2]
        omega
theorem scal_iff {p:Nat}:scal p=true↔p≤1114111∧(p<55296∨57343<p):=by simp [scal]
theorem ite_iff {α:Type} {p q:Prop} [Decidable p] [Decidable q] (x y:α) (h:p↔q):(if p then x else y)=if q then x else y:=by
  by_cases hp:p
  · rw [if_pos hp,if_pos (h.1 hp)]
  · rw [if_neg hp,if_neg (fun hq=>hp (h.2 hq))]
theorem firstR_N (d : List UInt8) (hd : d ≠ []) : firstR d = firstN d.length (d.getD 0 0).toNat (d.getD 1 0).toNat (d.getD 2 0).toNat (d.getD 3 0).toNat := by
  have hlen:1≤d.length:=List.length_pos_iff.2 hd
  have h0:=UInt8.toNat_lt (d.getD 0 0)
  have h1:=UInt8.toNat_lt (d.getD 1 0)
  have h2:=UInt8.toNat_lt (d.getD 2 0)
  have h3:=UInt8.toNat_lt (d.getD 3 0)
  unfold firstR firstN
  by_cases c1:(d.getD 0 0).toNat<192
  · have hn:leadN (d.getD 0 0).toNat=1:=by unfold leadN;rw [if_neg (by omega),if_neg (by omega),if_neg (by omega)]
    have hp:accP d 1=(d.getD 0 0).toNat:=by simp only [accP];unfold leadP;rw [if_neg (by omega),if_neg (by omega),if_neg (by omega)]
    simp only [hn,hp]
    rw [if_neg (by omega),if_pos c1,take1 hlen]
    have hs:scal (d.getD 0 0).toNat=true:=scal_iff.2 (by omega)
    refine ite_iff _ _ ?_
    rw [encB_1 hs]
    exact⟨fun h=>h.2.1,fun h=>⟨hs,h,rfl⟩⟩
  · rw [if_neg c1]
    by_cases c2:(d.getD 0 0).toNat<224
    · have hn:leadN (d.getD 0 0).toNat=2:=by unfold leadN;rw [if_neg (by omega),if_neg (by omega),if_pos (by omega)]
      have hp:accP d 2=((d.getD 0 0).toNat-192)*64+(d.getD 1 0).toNat % 64:=by simp only [accP];unfold leadP;rw [if_neg (by omega),if_neg (by omega),if_pos (by omega)]
      simp only [hn,hp]
      rw [if_pos c2]
      by_cases cl:d.length<2
      · rw [if_pos cl,if_pos cl]
      · rw [if_neg cl,if_neg cl,take2 (by omega)]
        generalize hq:((d.getD 0 0).toNat-192)*64+(d.getD 1 0).toNat % 64=p at*
        have hs:scal p=true:=scal_iff.2 (by omega)
        refine ite_iff _ _ ?_
        rw [encB_2 hs]
        constructor
        · rintro⟨_,a,b,c,e⟩;omega
        · rintro⟨a,b⟩;exact⟨hs,by omega,by omega,by omega,by omega⟩
    · rw [if_neg c2]
      by_cases c3:(d.getD 0 0).toNat<240
      · have hn:leadN (d.getD 0 0).toNat=3:=by unfold leadN;rw [if_neg (by omega),if_pos (by omega)]
        have hp:accP d 3=(((d.getD 0 0).toNat-224)*64+(d.getD 1 0).toNat % 64)*64+(d.getD 2 0).toNat % 64:=by simp only [accP];unfold leadP;rw [if_neg (by omega),if_pos (by omega)]
        simp only [hn,hp]
        rw [if_pos c3]
        by_cases cl:d.length<3
        · rw [if_pos cl,if_pos cl]
        · rw [if_neg cl,if_neg cl,take3 (by omega)]
          generalize hq:(((d.getD 0 0).toNat-224)*64+(d.getD 1 0).toNat % 64)*64+(d.getD 2 0).toNat % 64=p at*
          refine ite_iff _ _ ?_
          constructor
          · rintro⟨hs,hh⟩
            rw [encB_3 hs] at hh
            rw [scal_iff] at hs
            omega
          · rintro⟨a,b,c,e⟩
            have hs:scal p=true:=scal_iff.2 (by omega)
            exact⟨hs,(encB_3 hs).2 (by omega)⟩
      · have hn:leadN (d.getD 0 0).toNat=4:=by unfold leadN;rw [if_pos (by omega)]
        have hp:accP d 4=((((d.getD 0 0).toNat-240)*64+(d.getD 1 0).toNat % 64)*64+(d.getD 2 0).toNat % 64)*64+(d.getD 3 0).toNat % 64:=by simp only [accP];unfold leadP;rw [if_pos (by omega)]
        simp only [hn,hp]
        rw [if_neg c3]
        by_cases cl:d.length<4
        · rw [if_pos cl,if_pos cl]
        · rw [if_neg cl,if_neg cl,take4 (by omega)]
          generalize hq:((((d.getD 0 0).toNat-240)*64+(d.getD 1 0).toNat % 64)*64+(d.getD 2 0).toNat % 64)*64+(d.getD 3 0).toNat % 64=p at*
          refine ite_iff _ _ ?_
          constructor
          · rintro⟨hs,hh⟩
            rw [encB_4 hs] at hh
            rw [scal_iff] at hs
            omega
          · rintro⟨a,b,c,e,f⟩
            have hs:scal p=true:=scal_iff.2 (by omega)
            exact⟨hs,(encB_4 hs).2 (by omega)⟩
theorem firstN_eq (n b0 b1 b2 b3 : Nat) (h0 : b0 < 256) (hn : 1 ≤ n) : firstN n b0 b1 b2 b3 = if (decodeN n b0 b1 b2 b3).1 = 65533 ∧ (decodeN n b0 b1 b2 b3).2 = 1 then none else some (decodeN n b0 b1 b2 b3) := by
  unfold firstN decodeN
  by_cases c0:b0<128
  · rw [if_pos (show b0<192 by omega),if_pos c0,if_pos c0,if_neg (show ¬ (b0=65533∧1=1) by omega)]
  · rw [if_neg c0,if_neg c0]
    by_cases c1:b0<192
    · rw [if_pos c1,if_neg (show ¬ (b0 / 32=6∧1<n∧b1 / 64=2) by omega),if_neg (show ¬ (b0 / 16=14∧(1<n∧b1 / 64=2)∧2<n∧b2 / 64=2) by omega),if_neg (show ¬ (b0 / 8=30∧(1<n∧b1 / 64=2)∧(2<n∧b2 / 64=2)∧3<n∧b3 / 64=2) by omega)];simp
    · rw [if_neg c1]
      by_cases c2:b0<224
      · rw [if_pos c2]
        have e:b0 % 32=b0-192:=by omega
        rw [e]
        by_cases cl:n<2
        · rw [if_pos cl,if_neg (show ¬ (b0 / 32=6∧1<n∧b1 / 64=2) by omega),if_neg (show ¬ (b0 / 16=14∧(1<n∧b1 / 64=2)∧2<n∧b2 / 64=2) by omega),if_neg (show ¬ (b0 / 8=30∧(1<n∧b1 / 64=2)∧(2<n∧b2 / 64=2)∧3<n∧b3 / 64=2) by omega)];simp
        · rw [if_neg cl]
          by_cases cb:b1 / 64=2
          · rw [if_pos (show b0 / 32=6∧1<n∧b1 / 64=2 by omega)]
            by_cases cp:128≤(b0-192)*64+b1 % 64
            · rw [if_pos ⟨cb,cp⟩,if_pos cp,if_neg (by simp)]
            · rw [if_neg (fun h=>cp h.2),if_neg cp];simp
          · rw [if_neg (fun h=>cb h.1),if_neg (show ¬ (b0 / 32=6∧1<n∧b1 / 64=2) by omega),if_neg (show ¬ (b0 / 16=14∧(1<n∧b1 / 64=2)∧2<n∧b2 / 64=2) by omega),if_neg (show ¬ (b0 / 8=30∧(1<n∧b1 / 64=2)∧(2<n∧b2 / 64=2)∧3<n∧b3 / 64=2) by omega)];simp
      · rw [if_neg c2,if_neg (show ¬ (b0 / 32=6∧1<n∧b1 / 64=2) by omega)]
        by_cases c3:b0<240
        · rw [if_pos c3]
          have e:b0 % 16*4096+b1 % 64*64+b2 % 64=((b0-224)*64+b1 % 64)*64+b2 % 64:=by omega
          rw [e]
          have hb:((b0-224)*64+b1 % 64)*64+b2 % 64≤1114111:=by omega
          generalize ((b0-224)*64+b1 % 64)*64+b2 % 64=p at*
          by_cases cl:n<3
          · rw [if_pos cl,if_neg (show ¬ (b0 / 16=14∧(1<n∧b1 / 64=2)∧2<n∧b2 / 64=2) by omega),if_neg (show ¬ (b0 / 8=30∧(1<n∧b1 / 64=2)∧(2<n∧b2 / 64=2)∧3<n∧b3 / 64=2) by omega)];simp
          · rw [if_neg cl]
            by_cases cb:b1 / 64=2∧b2 / 64=2
            · rw [if_pos (show b0 / 16=14∧(1<n∧b1 / 64=2)∧2<n∧b2 / 64=2 by omega)]
              by_cases cp:2048≤p∧(p<55296∨57343<p)
              · rw [if_pos ⟨cb.1,cb.2,cp⟩,if_pos (show p≥2048∧(p<55296∨57344≤p∧p≤1114111) by omega),if_neg (by simp)]
              · rw [if_neg (fun h=>cp h.2.2),if_neg (show ¬ (p≥2048∧(p<55296∨57344≤p∧p≤1114111)) by omega)];simp
            · rw [if_neg (fun h=>cb ⟨h.1,h.2.1⟩),if_neg (show ¬ (b0 / 16=14∧(1<n∧b1 / 64=2)∧2<n∧b2 / 64=2) by omega),if_neg (show ¬ (b0 / 8=30∧(1<n∧b1 / 64=2)∧(2<n∧b2 / 64=2)∧3<n∧b3 / 64=2) by omega)];simp
        · rw [if_neg c3,if_neg (show ¬ (b0 / 16=14∧(1<n∧b1 / 64=2)∧2<n∧b2 / 64=2) by omega)]
          by_cases c4:b0<248
          · have e:b0 % 8*262144+b1 % 64*4096+b2 % 64*64+b3 % 64=(((b0-240)*64+b1 % 64)*64+b2 % 64)*64+b3 % 64:=by omega
            rw [e]
            generalize (((b0-240)*64+b1 % 64)*64+b2 % 64)*64+b3 % 64=p at*
            by_cases cl:n<4
            · rw [if_pos cl,if_neg (show ¬ (b0 / 8=30∧(1<n∧b1 / 64=2)∧(2<n∧b2 / 64=2)∧3<n∧b3 / 64=2) by omega)];simp
            · rw [if_neg cl]
              by_cases cb:b1 / 64=2∧b2 / 64=2∧b3 / 64=2
              · rw [if_pos (show b0 / 8=30∧(1<n∧b1 / 64=2)∧(2<n∧b2 / 64=2)∧3<n∧b3 / 64=2 by omega)]
                by_cases cp:65536≤p∧p≤1114111
                · rw [if_pos ⟨cb.1,cb.2.1,cb.2.2,cp⟩,if_pos (show p≥65536∧(p<55296∨57344≤p∧p≤1114111) by omega),if_neg (by simp)]
                · rw [if_neg (fun h=>cp h.2.2.2),if_neg (show ¬ (p≥65536∧(p<55296∨57344≤p∧p≤1114111)) by omega)];simp
              · rw [if_neg (fun h=>cb ⟨h.1,h.2.1,h.2.2.1⟩),if_neg (show ¬ (b0 / 8=30∧(1<n∧b1 / 64=2)∧(2<n∧b2 / 64=2)∧3<n∧b3 / 64=2) by omega)];simp
          · rw [if_neg (show ¬ (b0 / 8=30∧(1<n∧b1 / 64=2)∧(2<n∧b2 / 64=2)∧3<n∧b3 / 64=2) by omega)]
            by_cases cl:n<4
            · rw [if_pos cl];simp
            · rw [if_neg cl,if_neg (fun h=>by have:=h.2.2.2.2;omega)];simp
theorem firstR_eq (d:List UInt8) (hd:d≠[]):firstR d=if (decodeL d).1=65533∧(decodeL d).2=1 then none else some (decodeL d):=by
  rw [firstR_N d hd,decodeL_N]
  exact firstN_eq _ _ _ _ _ (UInt8.toNat_lt _) (List.length_pos_iff.2 hd)
end Go.Proofs.YtjicdgejhkgpgaaGreatDoor
namespace Go.Proofs.YtjicdgejhkgpgaaGreatDoor
open Go.Lib
theorem firstR_some {d:List UInt8} {p n:Nat} (h:firstR d=some (p,n)):1≤n∧n≤d.length∧scal p=true∧encB p=d.take n:=by
  unfold firstR at h
  dsimp only at h
  split at h
  · cases h
  · split at h
    · rename_i h1 h2
      simp only [Option.some.injEq,Prod.mk.injEq] at h
      obtain⟨rfl,rfl⟩:=h
      refine⟨?_,by omega,h2.1,h2.2⟩
      unfold leadN;(repeat' split) <;> omega
    · cases h
def ptsGo:Nat→List UInt8→Option (List Nat)
  | 0,_=>some []
  | k+1,d=>if d=[] then some [] else match firstR d with|none=>none|some (p,n)=>(ptsGo k (d.drop n)).map (p::·)
def points (d:List UInt8):Option (List Nat):=ptsGo d.length d
theorem ptsGo_nil (k:Nat):ptsGo k []=some []:=by cases k <;> simp [ptsGo]
theorem ptsGo_fuel : ∀ (k m : Nat) (d : List UInt8), d.length ≤ k → d.length ≤ m → ptsGo k d = ptsGo m d
  | 0,m,d,hk,_=>by
    have:d=[]:=List.eq_nil_of_length_eq_zero (by omega)
    subst this;rw [ptsGo_nil,ptsGo_nil]
  | k+1,0,d,_,hm=>by
    have:d=[]:=List.eq_nil_of_length_eq_zero (by omega)
    subst this;rw [ptsGo_nil,ptsGo_nil]
  | k + 1, m + 1, d, hk, hm => by
    simp only [ptsGo]
    by_cases hd:d=[]
    · rw [if_pos hd,if_pos hd]
    · rw [if_neg hd,if_neg hd]
      cases hf:firstR d with
      | none=>rfl
      | some q=>
        obtain⟨p,n⟩:=q
        have:=firstR_some hf
        dsimp only
        rw [ptsGo_fuel k m (d.drop n) (by rw [List.length_drop];omega) (by rw [List.length_drop];omega)]
theorem points_nil:points []=some []:=rfl
theorem points_step {d:List UInt8} (hd:d≠[]):points d=match firstR d with|none=>none|some (p,n)=>(points (d.drop n)).map (p::·):=by
  have hl:0<d.length:=List.length_pos_iff.2 hd
  obtain⟨k,hk⟩:∃ k,d.length=k+1:=⟨d.length-1,by omega⟩
  unfold points
  rw [hk]
  simp only [ptsGo]
  rw [if_neg hd]
  cases hf:firstR d with
  | none=>rfl
  | some q=>
    obtain⟨p,n⟩:=q
    have:=firstR_some hf
    dsimp only
    rw [ptsGo_fuel k (d.drop n).length _ (by rw [List.length_drop];omega) (Nat.le_refl _)]
theorem points_valid : ∀ (k : Nat) (d : List UInt8), d.length ≤ k → (points d).isSome = validD d
  | 0,d,h=>by
    have:d=[]:=List.eq_nil_of_length_eq_zero (by omega)
    subst this;rfl
  | k + 1, d, h => by
    by_cases hd:d=[]
    · subst hd;rfl
    · rw [points_step hd,validD_step d hd,firstR_eq d hd]
      by_cases hb:(decodeL d).1=65533∧(decodeL d).2=1
      · rw [if_pos hb,if_pos hb];rfl
      · rw [if_neg hb,if_neg hb]
        have hw:=decodeL_width d
        have:=points_valid k (d.drop (decodeL d).2) (by rw [List.length_drop];omega)
        rw [← this]
        show((points (d.drop (decodeL d).2)).map _).isSome=_
        cases points (d.drop (decodeL d).2) <;> rfl
theorem points_len : ∀ (k : Nat) (d : List UInt8) (zs : List Nat), d.length ≤ k → points d = some zs → zs.length ≤ d.length ∧ (∀ z ∈ zs, scal z = true) ∧ (zs.map encB).flatten = d
  | 0,d,zs,h,hp=>by
    have:d=[]:=List.eq_nil_of_length_eq_zero (by omega)
    subst this;rw [points_nil] at hp;cases hp;simp
  | k + 1, d, zs, h, hp => by
    by_cases hd:d=[]
    · subst hd;rw [points_nil] at hp;cases hp;simp
    · rw [points_step hd] at hp
      cases hf:firstR d with
      | none=>rw [hf] at hp;cases hp
      | some q=>
        obtain⟨p,n⟩:=q
        have h1:=firstR_some hf
        rw [hf] at hp
        dsimp only at hp
        cases hr:points (d.drop n) with
        | none=>rw [hr] at hp;cases hp
        | some ys=>
          rw [hr] at hp
          simp only [Option.map_some,Option.some.injEq] at hp
          subst hp
          obtain⟨h2,h3,h4⟩:=points_len k (d.drop n) ys (by rw [List.length_drop];omega) hr
          rw [List.length_drop] at h2
          refine⟨by simp;omega,fun z hz=>?_,?_⟩
          · rcases List.mem_cons.1 hz with rfl|hz
            · exact h1.2.2.1
            · exact h3 z hz
          · simp only [List.map_cons,List.flatten_cons,h4,h1.2.2.2,List.take_append_drop]
end Go.Proofs.YtjicdgejhkgpgaaGreatDoor
namespace Go.Proofs.YtjicdgejhkgpgaaGreatDoor
open Go.RowKit Go.En
def specialI (a:Int):Bool:=decide (a=42)||decide (a=63)||decide (a=92)
def scalI (a:Int):Bool:=decide (0≤a)&&decide (a≤1114111)&&(decide (a<55296)||decide (57343<a))
theorem byte_of {x:Nat} (h:x<256):Value.int .u8 ((UInt8.ofNat x).toNat:Int)=.int .u8 (x:Int):=by
  rw [UInt8.toNat_ofNat',Nat.mod_eq_of_lt h]
theorem enc_cells {p:Nat} (hs:∀ x∈encN p,x<256):(encB p).map (fun b=>Value.int .u8 b.toNat)=(encN p).map fun(x:Nat)=>Value.int .u8 (x:Int):=by
  unfold encB
  rw [List.map_map]
  exact List.map_congr_left fun x hx=>byte_of (hs x hx)
theorem encN_256 {p:Nat} (hp:p≤1114111):∀ x∈encN p,x<256:=by
  intro x hx
  unfold encN at hx
  split at hx
  · simp at hx;omega
  · split at hx
    · simp at hx;omega
    · split at hx
      · simp at hx;omega
      · simp at hx;omega
theorem scalI_eq (p:Nat):scalI (p:Int)=scal p:=by
  unfold scalI scal
  rw [Bool.eq_iff_iff];simp
  omega
def fR (d:List UInt8):Int × Int:=match firstR d with|none=>(-1,0)|some (p,n)=>((p:Int),(n:Int))
theorem accP_le (d:List UInt8):∀ k,k≤4→accP d k≤67108863∧(k≤3→accP d k≤1048575):=by
  have h0:leadP (d.getD 0 0).toNat≤255:=by
    have:=UInt8.toNat_lt (d.getD 0 0)
    unfold leadP;split <;>(try split) <;>(try split) <;> omega
  intro k hk
  have h1:accP d 1=leadP (d.getD 0 0).toNat:=rfl
  have h2:accP d 2=accP d 1*64+(d.getD 1 0).toNat % 64:=rfl
  have h3:accP d 3=accP d 2*64+(d.getD 2 0).toNat % 64:=rfl
  have h4:accP d 4=accP d 3*64+(d.getD 3 0).toNat % 64:=rfl
  have hz:accP d 0=0:=rfl
  match k,hk with
  | 0,_=>omega
  | 1,_=>omega
  | 2,_=>omega
  | 3,_=>omega
  | 4,_=>omega
theorem drop_get {l:List UInt8} {i j:Nat} (h:i+j<l.length):l[i+j]?=some ((l.drop i).getD j 0):=by
  rw [List.getElem?_eq_getElem h]
  simp [List.getD_eq_getElem?_getD,List.getElem?_drop,h]
theorem leadN_1 (b:Nat):1≤leadN b∧leadN b≤4:=by unfold leadN;split <;>(try split) <;>(try split) <;> omega
def IntsOwn (w0 w:World) (v:Value) (zs:List Nat):Prop:=w.ownsRow w0.heap.size 3 1 v zs.length (zs.map fun(z:Nat)=>int (z:Int))
def PointsR (w:World) (r:Option (List Nat)) (u:Value) (w':World):Prop:=Ext w w'∧match r with|none=>u=.tuple #[.slice none 0 0,.bool false]|some zs=>∃ v,u=.tuple #[v,.bool true]∧IntsOwn w w' v zs
def q1 (c:UInt8):List UInt8:=if specialI (c.toNat:Int) then [92,c] else [c]
theorem getD_some {α:Type} {l:List α} {i:Nat} {d:α} (h:i<l.length):l[i]?=some (l.getD i d):=by
  rw [List.getElem?_eq_getElem h];simp [List.getD_eq_getElem?_getD,h]
end Go.Proofs.YtjicdgejhkgpgaaGreatDoor
