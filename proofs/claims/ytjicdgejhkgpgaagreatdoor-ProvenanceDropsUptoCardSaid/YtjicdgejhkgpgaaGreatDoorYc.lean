/-
  Own text of the proof.
-/
import Derived.Test.YtjicdgejhkgpgaaGreatDoorYb
import Derived.Lib.ValidLaws
import Derived.Lib.TrimUEq
import Derived.Test.YtjicdgejhkgpgaaGreatDoorI
import Derived.Test.YtjicdgejhkgpgaaGreatDoorG
set_option linter.all false
namespace Go.En
open Go.RowKit
def D1 (a b:Int):Int:=IntKind.i64.wrap ((BitVec.ofInt 64 a &&& BitVec.ofInt 64 b).toNat)
@[reducible] def u32 (m:Nat):Value:=.int .u32 (m:Int)
theorem A5u {m:Nat} (h:m<4294967296):IntKind.u32.wrap (m:Int)=(m:Int):=by
  simp [IntKind.wrap,IntKind.signed,IntKind.bits];omega
theorem A0z {m:Nat} (h:m<4294967296):(BitVec.ofInt 32 (m:Int)).toNat=m:=by
  rw [BitVec.toNat_ofInt]
  have:((m:Int) % ((2 ^ 32:Nat):Int))=(m:Int):=Int.emod_eq_of_lt (by omega) (by simp;omega)
  rw [this];omega
section
variable {P : Program} {n : Nat} {Q : Post} {L : List (Nat × Value)} {w : World} {ops : List Oper} {o : Oper} {rest : List Oper}
theorem val_and {t u:TypeId} {x y:Operand} {a b:Int} (ho:o.op=.binOp .and t x y u) (hx:ev L x=some (int a)) (hy:ev L y=some (int b)):Val P L w o (int (D1 a b)):=
  K8 ho hx hy rfl
theorem A3q {t u:TypeId} {x y:Operand} {a b:Nat} (ho:o.op=.binOp .and t x y u) (hx:ev L x=some (u32 a)) (hy:ev L y=some (u32 b)) (ha:a<4294967296) (hb:b<4294967296):Val P L w o (u32 (a &&& b)):=
  K8 ho hx hy (by
    have h1:a &&& b<4294967296:=Nat.lt_of_le_of_lt Nat.and_le_left ha
    have h2:((BitVec.ofInt 32 (a:Int)) &&& (BitVec.ofInt 32 (b:Int))).toNat=a &&& b:=by rw [BitVec.toNat_and,A0z ha,A0z hb]
    have key:binOp .and t (u32 a) (u32 b)=pure (.int .u32 (IntKind.u32.wrap (((BitVec.ofInt 32 (a:Int)) &&& (BitVec.ofInt 32 (b:Int))).toNat:Int))):=rfl
    rw [key,h2,A5u h1])
theorem B3d {t u:TypeId} {x y:Operand} {a b:Nat} (ho:o.op=.binOp .or t x y u) (hx:ev L x=some (u32 a)) (hy:ev L y=some (u32 b)) (ha:a<4294967296) (hb:b<4294967296):Val P L w o (u32 (a ||| b)):=
  K8 ho hx hy (by
    have h1:a ||| b<2 ^ 32:=Nat.or_lt_two_pow ha hb
    have h2:((BitVec.ofInt 32 (a:Int)) |||(BitVec.ofInt 32 (b:Int))).toNat=a ||| b:=by rw [BitVec.toNat_or,A0z ha,A0z hb]
    have key:binOp .or t (u32 a) (u32 b)=pure (.int .u32 (IntKind.u32.wrap (((BitVec.ofInt 32 (a:Int)) |||(BitVec.ofInt 32 (b:Int))).toNat:Int))):=rfl
    rw [key,h2,A5u h1])
theorem A9c {op:BinOp} {t u:TypeId} {x y:Operand} {k k':IntKind} {a b z:Int} (ho:o.op=.binOp op t x y u) (hop:op=.shl∨op=.shr) (hx:ev L x=some (.int k a)) (hy:ev L y=some (.int k' b))
    (hz:Op.shift op k a k' b=pure (.int k z)):Val P L w o (.int k z):=fun ρ ha=>by
  have h1:=ha.ev (by rw [ho];simp [Op.operands]) hx
  have h2:=ha.ev (by rw [ho];simp [Op.operands]) hy
  rcases hop with rfl|rfl
  · simp only [execOp,ho,h1,h2,eqGuard,binOp,hz];rfl
  · simp only [execOp,ho,h1,h2,eqGuard,binOp,hz];rfl
theorem A9b {t u:TypeId} {x y:Operand} {q:Nat} (ho:o.op=.binOp .shl t x y u) (hx:ev L x=some (u32 1)) (hy:ev L y=some (int q)) (hq:q<32):Val P L w o (u32 (2 ^ q)):=
  A9c ho (.inl rfl) hx hy (by
    have h0:¬ ((q:Int)<0):=by omega
    have h2:(2:Nat) ^ q<4294967296:=Nat.pow_lt_pow_right (by omega) (m:=q) (n:=32) hq
    have h1:((1:Nat):Int)*2 ^ q=((2 ^ q:Nat):Int):=by simp
    unfold Op.shift
    rw [if_neg h0]
    simp only [IntKind.bits,Int.toNat_natCast]
    rw [Nat.min_eq_left (Nat.le_of_lt hq),h1,A5u h2])
theorem A9a {t u:TypeId} {x y:Operand} {m q:Nat} (ho:o.op=.binOp .shr t x y u) (hx:ev L x=some (u32 m)) (hy:ev L y=some (int q)) (hq:q<32):Val P L w o (u32 (m >>> q)):=
  A9c ho (.inr rfl) hx hy (by
    have h0:¬ ((q:Int)<0):=by omega
    unfold Op.shift
    rw [if_neg h0]
    simp only [IntKind.bits,Int.toNat_natCast]
    rw [Nat.min_eq_left (Nat.le_of_lt hq)]
    have:((m:Int)).fdiv (2 ^ q)=((m >>> q:Nat):Int):=by
      rw [Nat.shiftRight_eq_div_pow]
      rw [Int.fdiv_eq_ediv_of_nonneg _ (Int.pow_nonneg (by omega))]
      simp
    rw [this])
end
def MaskIs (m:Nat) (S:Int→Bool):Prop:=m<2 ^ 24∧∀ q:Nat,m.testBit q=S (q:Int)
theorem MaskIs.lt {m:Nat} {S:Int→Bool} (h:MaskIs m S):m<4294967296:=by have:=h.1;omega
theorem A3u:MaskIs 0 (fun _=>false):=⟨by decide,fun q=>by simp⟩
theorem B1o {m t:Nat} {S:Int→Bool} (h:MaskIs m S) (ht:t<24):MaskIs (m ||| 2 ^ t) (fun q=>S q||q==(t:Int)):=by
  refine⟨Nat.or_lt_two_pow h.1 (Nat.pow_lt_pow_right (by omega) ht),fun q=>?_⟩
  rw [Nat.testBit_or,h.2 q,Nat.testBit_two_pow]
  congr 1
  by_cases e:t=q
  · subst e;simp
  · rw [decide_eq_false e];symm;simp;omega
theorem C4z {m q:Nat} {S:Int→Bool} (h:MaskIs m S):(m >>> q) &&& 1=if S (q:Int) then 1 else 0:=by
  rw [← h.2 q,Nat.testBit]
  rcases Nat.mod_two_eq_zero_or_one (m >>> q) with e|e
  · rw [Nat.and_one_is_mod,e];simp [Nat.one_and_eq_mod_two,e]
  · rw [Nat.and_one_is_mod,e];simp [Nat.one_and_eq_mod_two,e]
theorem Y2 {m:Nat} {S T:Int→Bool} (h:MaskIs m S) (e:∀ q:Nat,S (q:Int)=T (q:Int)):MaskIs m T:=⟨h.1,fun q=>(h.2 q).trans (e q)⟩
theorem C0e {m:Nat} {S:Int→Bool} (h:MaskIs m S):m≠0↔∃ q:Nat,S (q:Int)=true:=by
  constructor
  · intro hm
    obtain⟨i,hi⟩:=Nat.exists_testBit_of_ne_zero hm
    exact⟨i,(h.2 i).symm.trans hi⟩
  · rintro⟨q,hq⟩ rfl
    rw [← h.2 q] at hq;simp at hq
theorem C5a {m k:Nat} {S T:Int→Bool} (h:MaskIs m S) (h':MaskIs k T):MaskIs (m &&& k) (fun q=>S q&&T q):=
  ⟨Nat.lt_of_le_of_lt Nat.and_le_left h.1,fun q=>by rw [Nat.testBit_and,h.2 q,h'.2 q]⟩
end Go.En
namespace Go.Proofs.YtjicdgejhkgpgaaGreatDoor
section
open Go.Lib
def encN (p:Nat):List Nat:=
  if p<128 then [p]
  else if p<2048 then [192+p / 64,128+p % 64]
  else if p<65536 then [224+p / 4096,128+p / 64 % 64,128+p % 64]
  else [240+p / 262144,128+p / 4096 % 64,128+p / 64 % 64,128+p % 64]
def encB (p:Nat):List UInt8:=(encN p).map UInt8.ofNat
def scal (p:Nat):Bool:=decide (p≤1114111)&&(decide (p<55296)||decide (57343<p))
def A1k (b:Nat):Nat:=if 240≤b then b-240 else if 224≤b then b-224 else if 192≤b then b-192 else b
def S1 (b:Nat):Nat:=if 240≤b then 4 else if 224≤b then 3 else if 192≤b then 2 else 1
def accP (d:List UInt8):Nat→Nat
  | 0=>0
  | 1=>A1k (d.getD 0 0).toNat
  | k+1=>accP d k*64+(d.getD k 0).toNat % 64
def J2 (d:List UInt8):Option (Nat × Nat):=
  let n:=S1 (d.getD 0 0).toNat
  if d.length<n then none
  else if scal (accP d n)=true∧encB (accP d n)=d.take n then some (accP d n,n) else none
theorem A5n {p:Nat} (h:scal p=true):∀ x∈encN p,x<256:=by
  simp only [scal,Bool.and_eq_true,decide_eq_true_eq] at h
  intro x hx
  unfold encN at hx
  split at hx
  · simp at hx;omega
  · split at hx
    · simp at hx;omega
    · split at hx
      · simp at hx;omega
      · simp at hx;omega
theorem take1 {d:List UInt8} (h:1≤d.length):d.take 1=[d.getD 0 0]:=by
  match d,h with|a::r,_=>simp
theorem take2 {d:List UInt8} (h:2≤d.length):d.take 2=[d.getD 0 0,d.getD 1 0]:=by
  match d,h with|a::b::r,_=>simp
theorem take3 {d:List UInt8} (h:3≤d.length):d.take 3=[d.getD 0 0,d.getD 1 0,d.getD 2 0]:=by
  match d,h with|a::b::c::r,_=>simp
theorem take4 {d:List UInt8} (h:4≤d.length):d.take 4=[d.getD 0 0,d.getD 1 0,d.getD 2 0,d.getD 3 0]:=by
  match d,h with|a::b::c::e::r,_=>simp
theorem A1j {x:Nat} {b:UInt8} (h:x<256):UInt8.ofNat x=b↔x=b.toNat:=by
  rw [← UInt8.toNat_inj,UInt8.toNat_ofNat',Nat.mod_eq_of_lt h]
def B2d (n b0 b1 b2 b3:Nat):Option (Nat × Nat):=
  if b0<192 then (if b0<128 then some (b0,1) else none)
  else if b0<224 then (if n<2 then none else if b1 / 64=2∧128≤(b0-192)*64+b1 % 64 then some ((b0-192)*64+b1 % 64,2) else none)
  else if b0<240 then (if n<3 then none else if b1 / 64=2∧b2 / 64=2∧2048≤((b0-224)*64+b1 % 64)*64+b2 % 64∧(((b0-224)*64+b1 % 64)*64+b2 % 64<55296∨57343<((b0-224)*64+b1 % 64)*64+b2 % 64) then some (((b0-224)*64+b1 % 64)*64+b2 % 64,3) else none)
  else (if n<4 then none else if b1 / 64=2∧b2 / 64=2∧b3 / 64=2∧65536≤(((b0-240)*64+b1 % 64)*64+b2 % 64)*64+b3 % 64∧(((b0-240)*64+b1 % 64)*64+b2 % 64)*64+b3 % 64≤1114111 then some ((((b0-240)*64+b1 % 64)*64+b2 % 64)*64+b3 % 64,4) else none)
theorem encB_1 {p:Nat} {a:UInt8} (hs:scal p=true):encB p=[a]↔p<128∧p=a.toNat:=by
  have hlt:=A5n hs
  unfold encB
  unfold encN at hlt ⊢
  split
  · rename_i h;simp [h] at hlt ⊢;rw [A1j hlt]
  · split
    · simp;omega
    · split <;>(simp;omega)
theorem encB_2 {p:Nat} {a b:UInt8} (hs:scal p=true):encB p=[a,b]↔128≤p∧p<2048∧192+p / 64=a.toNat∧128+p % 64=b.toNat:=by
  have hlt:=A5n hs
  unfold encB
  unfold encN at hlt ⊢
  split
  · simp;omega
  · split
    · rename_i h1 h2;rw [if_neg h1,if_pos h2] at hlt
      simp at hlt
      simp only [List.map_cons,List.map_nil,List.cons.injEq,and_true]
      rw [A1j hlt.1,A1j hlt.2]
      omega
    · split <;>(simp;omega)
theorem C5q {p : Nat} {a b c : UInt8} (hs : scal p = true) : encB p = [a, b, c] ↔ 2048 ≤ p ∧ p < 65536 ∧ 224 + p / 4096 = a.toNat ∧ 128 + p / 64 % 64 = b.toNat ∧ 128 + p % 64 = c.toNat := by
  have hlt:=A5n hs
  unfold encB
  unfold encN at hlt ⊢
  split
  · simp;omega
  · split
    · simp;omega
    · split
      · rename_i h1 h2 h3;rw [if_neg h1,if_neg h2,if_pos h3] at hlt
        simp at hlt
        simp only [List.map_cons,List.map_nil,List.cons.injEq,and_true]
        rw [A1j hlt.1,A1j hlt.2.1,A1j hlt.2.2]
        omega
      · simp;omega
theorem C5p {p : Nat} {a b c d : UInt8} (hs : scal p = true) : encB p = [a, b, c, d] ↔ 65536 ≤ p ∧ 240 + p / 262144 = a.toNat ∧ 128 + p / 4096 % 64 = b.toNat ∧ 128 + p / 64 % 64 = c.toNat ∧ 128 + p % 64 = d.toNat := by
  have hlt:=A5n hs
  unfold encB
  unfold encN at hlt ⊢
  split
  · simp;omega
  · split
    · simp;omega
    · split
      · simp;omega
      · rename_i h1 h2 h3;rw [if_neg h1,if_neg h2,if_neg h3] at hlt
        simp at hlt
        simp only [List.map_cons,List.map_nil,List.cons.injEq,and_true]
        rw [A1j hlt.1,A1j hlt.2.1,A1j hlt.2.2.1,A1j hlt.2.2.2]
        omega
theorem N2 {p:Nat}:scal p=true↔p≤1114111∧(p<55296∨57343<p):=by simp [scal]
theorem A5m {α:Type} {p q:Prop} [Decidable p] [Decidable q] (x y:α) (h:p↔q):(if p then x else y)=if q then x else y:=by
  by_cases hp:p
  · rw [if_pos hp,if_pos (h.1 hp)]
  · rw [if_neg hp,if_neg (fun hq=>hp (h.2 hq))]
theorem C5l (d : List UInt8) (hd : d ≠ []) : J2 d = B2d d.length (d.getD 0 0).toNat (d.getD 1 0).toNat (d.getD 2 0).toNat (d.getD 3 0).toNat := by
  have hlen:1≤d.length:=List.length_pos_iff.2 hd
  have h0:=UInt8.toNat_lt (d.getD 0 0)
  have h1:=UInt8.toNat_lt (d.getD 1 0)
  have h2:=UInt8.toNat_lt (d.getD 2 0)
  have h3:=UInt8.toNat_lt (d.getD 3 0)
  unfold J2 B2d
  by_cases c1:(d.getD 0 0).toNat<192
  · have hn:S1 (d.getD 0 0).toNat=1:=by unfold S1;rw [if_neg (by omega),if_neg (by omega),if_neg (by omega)]
    have hp:accP d 1=(d.getD 0 0).toNat:=by simp only [accP];unfold A1k;rw [if_neg (by omega),if_neg (by omega),if_neg (by omega)]
    simp only [hn,hp]
    rw [if_neg (by omega),if_pos c1,take1 hlen]
    have hs:scal (d.getD 0 0).toNat=true:=N2.2 (by omega)
    refine A5m _ _ ?_
    rw [encB_1 hs]
    exact⟨fun h=>h.2.1,fun h=>⟨hs,h,rfl⟩⟩
  · rw [if_neg c1]
    by_cases c2:(d.getD 0 0).toNat<224
    · have hn:S1 (d.getD 0 0).toNat=2:=by unfold S1;rw [if_neg (by omega),if_neg (by omega),if_pos (by omega)]
      have hp:accP d 2=((d.getD 0 0).toNat-192)*64+(d.getD 1 0).toNat % 64:=by simp only [accP];unfold A1k;rw [if_neg (by omega),if_neg (by omega),if_pos (by omega)]
      simp only [hn,hp]
      rw [if_pos c2]
      by_cases cl:d.length<2
      · rw [if_pos cl,if_pos cl]
      · rw [if_neg cl,if_neg cl,take2 (by omega)]
        generalize hq:((d.getD 0 0).toNat-192)*64+(d.getD 1 0).toNat % 64=p at*
        have hs:scal p=true:=N2.2 (by omega)
        refine A5m _ _ ?_
        rw [encB_2 hs]
        constructor
        · rintro⟨_,a,b,c,e⟩;omega
        · rintro⟨a,b⟩;exact⟨hs,by omega,by omega,by omega,by omega⟩
    · rw [if_neg c2]
      by_cases c3:(d.getD 0 0).toNat<240
      · have hn:S1 (d.getD 0 0).toNat=3:=by unfold S1;rw [if_neg (by omega),if_pos (by omega)]
        have hp:accP d 3=(((d.getD 0 0).toNat-224)*64+(d.getD 1 0).toNat % 64)*64+(d.getD 2 0).toNat % 64:=by simp only [accP];unfold A1k;rw [if_neg (by omega),if_pos (by omega)]
        simp only [hn,hp]
        rw [if_pos c3]
        by_cases cl:d.length<3
        · rw [if_pos cl,if_pos cl]
        · rw [if_neg cl,if_neg cl,take3 (by omega)]
          generalize hq:(((d.getD 0 0).toNat-224)*64+(d.getD 1 0).toNat % 64)*64+(d.getD 2 0).toNat % 64=p at*
          refine A5m _ _ ?_
          constructor
          · rintro⟨hs,hh⟩
            rw [C5q hs] at hh
            rw [N2] at hs
            omega
          · rintro⟨a,b,c,e⟩
            have hs:scal p=true:=N2.2 (by omega)
            exact⟨hs,(C5q hs).2 (by omega)⟩
      · have hn:S1 (d.getD 0 0).toNat=4:=by unfold S1;rw [if_pos (by omega)]
        have hp:accP d 4=((((d.getD 0 0).toNat-240)*64+(d.getD 1 0).toNat % 64)*64+(d.getD 2 0).toNat % 64)*64+(d.getD 3 0).toNat % 64:=by simp only [accP];unfold A1k;rw [if_pos (by omega)]
        simp only [hn,hp]
        rw [if_neg c3]
        by_cases cl:d.length<4
        · rw [if_pos cl,if_pos cl]
        · rw [if_neg cl,if_neg cl,take4 (by omega)]
          generalize hq:((((d.getD 0 0).toNat-240)*64+(d.getD 1 0).toNat % 64)*64+(d.getD 2 0).toNat % 64)*64+(d.getD 3 0).toNat % 64=p at*
          refine A5m _ _ ?_
          constructor
          · rintro⟨hs,hh⟩
            rw [C5p hs] at hh
            rw [N2] at hs
            omega
          · rintro⟨a,b,c,e,f⟩
            have hs:scal p=true:=N2.2 (by omega)
            exact⟨hs,(C5p hs).2 (by omega)⟩
theorem C2m (n b0 b1 b2 b3 : Nat) (h0 : b0 < 256) (hn : 1 ≤ n) : B2d n b0 b1 b2 b3 = if (decodeN n b0 b1 b2 b3).1 = 65533 ∧ (decodeN n b0 b1 b2 b3).2 = 1 then none else some (decodeN n b0 b1 b2 b3) := by
  unfold B2d decodeN
  by_cases c0:b0<128
  · rw [if_pos (show b0<192 by omega),if_pos c0,if_pos c0,if_neg (show ¬ (b0=65533∧1=1) by omega)]
  · rw [if_neg c0,if_neg c0]
    by_cases c1:b0<192
    · rw [if_pos c1,if_neg (show ¬ (b0 / 32=6∧1<n∧b1 / 64=2) by omega),if_neg (show ¬ (b0 / 16=14∧(1<n∧b1 / 64=2)∧2<n∧b2 / 64=2) by omega),if_neg (show ¬ (b0 / 8=30∧(1<n∧b1 / 64=2)∧(2<n∧b2 / 64=2)∧3<n∧b3 / 64=2) by omega)];simp
    · rw [if_neg c1]
      by_cases c2:b0<224
      · rw [if_pos c2]
        have e:b0 % 32=b0-192:=by omega
        rw [e]
        by_cases cl:n<2
        · rw [if_pos cl,if_neg (show ¬ (b0 / 32=6∧1<n∧b1 / 64=2) by omega),if_neg (show ¬ (b0 / 16=14∧(1<n∧b1 / 64=2)∧2<n∧b2 / 64=2) by omega),if_neg (show ¬ (b0 / 8=30∧(1<n∧b1 / 64=2)∧(2<n∧b2 / 64=2)∧3<n∧b3 / 64=2) by omega)];simp
        · rw [if_neg cl]
          by_cases cb:b1 / 64=2
          · rw [if_pos (show b0 / 32=6∧1<n∧b1 / 64=2 by omega)]
            by_cases cp:128≤(b0-192)*64+b1 % 64
            · rw [if_pos ⟨cb,cp⟩,if_pos cp,if_neg (by simp)]
            · rw [if_neg (fun h=>cp h.2),if_neg cp];simp
          · rw [if_neg (fun h=>cb h.1),if_neg (show ¬ (b0 / 32=6∧1<n∧b1 / 64=2) by omega),if_neg (show ¬ (b0 / 16=14∧(1<n∧b1 / 64=2)∧2<n∧b2 / 64=2) by omega),if_neg (show ¬ (b0 / 8=30∧(1<n∧b1 / 64=2)∧(2<n∧b2 / 64=2)∧3<n∧b3 / 64=2) by omega)];simp
      · rw [if_neg c2,if_neg (show ¬ (b0 / 32=6∧1<n∧b1 / 64=2) by omega)]
        by_cases c3:b0<240
        · rw [if_pos c3]
          have e:b0 % 16*4096+b1 % 64*64+b2 % 64=((b0-224)*64+b1 % 64)*64+b2 % 64:=by omega
          rw [e]
          have hb:((b0-224)*64+b1 % 64)*64+b2 % 64≤1114111:=by omega
          generalize ((b0-224)*64+b1 % 64)*64+b2 % 64=p at*
          by_cases cl:n<3
          · rw [if_pos cl,if_neg (show ¬ (b0 / 16=14∧(1<n∧b1 / 64=2)∧2<n∧b2 / 64=2) by omega),if_neg (show ¬ (b0 / 8=30∧(1<n∧b1 / 64=2)∧(2<n∧b2 / 64=2)∧3<n∧b3 / 64=2) by omega)];simp
          · rw [if_neg cl]
            by_cases cb:b1 / 64=2∧b2 / 64=2
            · rw [if_pos (show b0 / 16=14∧(1<n∧b1 / 64=2)∧2<n∧b2 / 64=2 by omega)]
              by_cases cp:2048≤p∧(p<55296∨57343<p)
              · rw [if_pos ⟨cb.1,cb.2,cp⟩,if_pos (show p≥2048∧(p<55296∨57344≤p∧p≤1114111) by omega),if_neg (by simp)]
              · rw [if_neg (fun h=>cp h.2.2),if_neg (show ¬ (p≥2048∧(p<55296∨57344≤p∧p≤1114111)) by omega)];simp
            · rw [if_neg (fun h=>cb ⟨h.1,h.2.1⟩),if_neg (show ¬ (b0 / 16=14∧(1<n∧b1 / 64=2)∧2<n∧b2 / 64=2) by omega),if_neg (show ¬ (b0 / 8=30∧(1<n∧b1 / 64=2)∧(2<n∧b2 / 64=2)∧3<n∧b3 / 64=2) by omega)];simp
        · rw [if_neg c3,if_neg (show ¬ (b0 / 16=14∧(1<n∧b1 / 64=2)∧2<n∧b2 / 64=2) by omega)]
          by_cases c4:b0<248
          · have e:b0 % 8*262144+b1 % 64*4096+b2 % 64*64+b3 % 64=(((b0-240)*64+b1 % 64)*64+b2 % 64)*64+b3 % 64:=by omega
            rw [e]
            generalize (((b0-240)*64+b1 % 64)*64+b2 % 64)*64+b3 % 64=p at*
            by_cases cl:n<4
            · rw [if_pos cl,if_neg (show ¬ (b0 / 8=30∧(1<n∧b1 / 64=2)∧(2<n∧b2 / 64=2)∧3<n∧b3 / 64=2) by omega)];simp
            · rw [if_neg cl]
              by_cases cb:b1 / 64=2∧b2 / 64=2∧b3 / 64=2
              · rw [if_pos (show b0 / 8=30∧(1<n∧b1 / 64=2)∧(2<n∧b2 / 64=2)∧3<n∧b3 / 64=2 by omega)]
                by_cases cp:65536≤p∧p≤1114111
                · rw [if_pos ⟨cb.1,cb.2.1,cb.2.2,cp⟩,if_pos (show p≥65536∧(p<55296∨57344≤p∧p≤1114111) by omega),if_neg (by simp)]
                · rw [if_neg (fun h=>cp h.2.2.2),if_neg (show ¬ (p≥65536∧(p<55296∨57344≤p∧p≤1114111)) by omega)];simp
              · rw [if_neg (fun h=>cb ⟨h.1,h.2.1,h.2.2.1⟩),if_neg (show ¬ (b0 / 8=30∧(1<n∧b1 / 64=2)∧(2<n∧b2 / 64=2)∧3<n∧b3 / 64=2) by omega)];simp
          · rw [if_neg (show ¬ (b0 / 8=30∧(1<n∧b1 / 64=2)∧(2<n∧b2 / 64=2)∧3<n∧b3 / 64=2) by omega)]
            by_cases cl:n<4
            · rw [if_pos cl];simp
            · rw [if_neg cl,if_neg (fun h=>by have:=h.2.2.2.2;omega)];simp
theorem B0b (d:List UInt8) (hd:d≠[]):J2 d=if (decodeL d).1=65533∧(decodeL d).2=1 then none else some (decodeL d):=by
  rw [C5l d hd,decodeL_N]
  exact C2m _ _ _ _ _ (UInt8.toNat_lt _) (List.length_pos_iff.2 hd)
end
section
open Go.Lib
theorem P7 {d:List UInt8} {p n:Nat} (h:J2 d=some (p,n)):1≤n∧n≤d.length∧scal p=true∧encB p=d.take n:=by
  unfold J2 at h
  dsimp only at h
  split at h
  · cases h
  · split at h
    · rename_i h1 h2
      simp only [Option.some.injEq,Prod.mk.injEq] at h
      obtain⟨rfl,rfl⟩:=h
      refine⟨?_,by omega,h2.1,h2.2⟩
      unfold S1;(repeat' split) <;> omega
    · cases h
def A4p:Nat→List UInt8→Option (List Nat)
  | 0,_=>some []
  | k+1,d=>if d=[] then some [] else match J2 d with|none=>none|some (p,n)=>(A4p k (d.drop n)).map (p::·)
def points (d:List UInt8):Option (List Nat):=A4p d.length d
theorem A0y (k:Nat):A4p k []=some []:=by cases k <;> simp [A4p]
theorem A6q : ∀ (k m : Nat) (d : List UInt8), d.length ≤ k → d.length ≤ m → A4p k d = A4p m d
  | 0,m,d,hk,_=>by
    have:d=[]:=List.eq_nil_of_length_eq_zero (by omega)
    subst this;rw [A0y,A0y]
  | k+1,0,d,_,hm=>by
    have:d=[]:=List.eq_nil_of_length_eq_zero (by omega)
    subst this;rw [A0y,A0y]
  | k + 1, m + 1, d, hk, hm => by
    simp only [A4p]
    by_cases hd:d=[]
    · rw [if_pos hd,if_pos hd]
    · rw [if_neg hd,if_neg hd]
      cases hf:J2 d with
      | none=>rfl
      | some q=>
        obtain⟨p,n⟩:=q
        have:=P7 hf
        dsimp only
        rw [A6q k m (d.drop n) (by rw [List.length_drop];omega) (by rw [List.length_drop];omega)]
theorem Y0:points []=some []:=rfl
theorem T6 {d:List UInt8} (hd:d≠[]):points d=match J2 d with|none=>none|some (p,n)=>(points (d.drop n)).map (p::·):=by
  have hl:0<d.length:=List.length_pos_iff.2 hd
  obtain⟨k,hk⟩:∃ k,d.length=k+1:=⟨d.length-1,by omega⟩
  unfold points
  rw [hk]
  simp only [A4p]
  rw [if_neg hd]
  cases hf:J2 d with
  | none=>rfl
  | some q=>
    obtain⟨p,n⟩:=q
    have:=P7 hf
    dsimp only
    rw [A6q k (d.drop n).length _ (by rw [List.length_drop];omega) (Nat.le_refl _)]
theorem X9 : ∀ (k : Nat) (d : List UInt8), d.length ≤ k → (points d).isSome = validD d
  | 0,d,h=>by
    have:d=[]:=List.eq_nil_of_length_eq_zero (by omega)
    subst this;rfl
  | k + 1, d, h => by
    by_cases hd:d=[]
    · subst hd;rfl
    · rw [T6 hd,validD_step d hd,B0b d hd]
      by_cases hb:(decodeL d).1=65533∧(decodeL d).2=1
      · rw [if_pos hb,if_pos hb];rfl
      · rw [if_neg hb,if_neg hb]
        have hw:=decodeL_width d
        have:=X9 k (d.drop (decodeL d).2) (by rw [List.length_drop];omega)
        rw [← this]
        show((points (d.drop (decodeL d).2)).map _).isSome=_
        cases points (d.drop (decodeL d).2) <;> rfl
theorem R8 : ∀ (k : Nat) (d : List UInt8) (zs : List Nat), d.length ≤ k → points d = some zs → zs.length ≤ d.length ∧ (∀ z ∈ zs, scal z = true) ∧ (zs.map encB).flatten = d
  | 0,d,zs,h,hp=>by
    have:d=[]:=List.eq_nil_of_length_eq_zero (by omega)
    subst this;rw [Y0] at hp;cases hp;simp
  | k + 1, d, zs, h, hp => by
    by_cases hd:d=[]
    · subst hd;rw [Y0] at hp;cases hp;simp
    · rw [T6 hd] at hp
      cases hf:J2 d with
      | none=>rw [hf] at hp;cases hp
      | some q=>
        obtain⟨p,n⟩:=q
        have h1:=P7 hf
        rw [hf] at hp
        dsimp only at hp
        cases hr:points (d.drop n) with
        | none=>rw [hr] at hp;cases hp
        | some ys=>
          rw [hr] at hp
          simp only [Option.map_some,Option.some.injEq] at hp
          subst hp
          obtain⟨h2,h3,h4⟩:=R8 k (d.drop n) ys (by rw [List.length_drop];omega) hr
          rw [List.length_drop] at h2
          refine⟨by simp;omega,fun z hz=>?_,?_⟩
          · rcases List.mem_cons.1 hz with rfl|hz
            · exact h1.2.2.1
            · exact h3 z hz
          · simp only [List.map_cons,List.flatten_cons,h4,h1.2.2.2,List.take_append_drop]
end
section
open Go.RowKit Go.En
def C3z (a:Int):Bool:=decide (a=42)||decide (a=63)||decide (a=92)
def B9t (a:Int):Bool:=decide (0≤a)&&decide (a≤1114111)&&(decide (a<55296)||decide (57343<a))
theorem byte_of {x:Nat} (h:x<256):Value.int .u8 ((UInt8.ofNat x).toNat:Int)=.int .u8 (x:Int):=by
  rw [UInt8.toNat_ofNat',Nat.mod_eq_of_lt h]
theorem C2n {p:Nat} (hs:∀ x∈encN p,x<256):(encB p).map (fun b=>Value.int .u8 b.toNat)=(encN p).map fun(x:Nat)=>Value.int .u8 (x:Int):=by
  unfold encB
  rw [List.map_map]
  exact List.map_congr_left fun x hx=>byte_of (hs x hx)
theorem C5o {p:Nat} (hp:p≤1114111):∀ x∈encN p,x<256:=by
  intro x hx
  unfold encN at hx
  split at hx
  · simp at hx;omega
  · split at hx
    · simp at hx;omega
    · split at hx
      · simp at hx;omega
      · simp at hx;omega
theorem C4e (p:Nat):B9t (p:Int)=scal p:=by
  unfold B9t scal
  rw [Bool.eq_iff_iff];simp
  omega
def fR (d:List UInt8):Int × Int:=match J2 d with|none=>(-1,0)|some (p,n)=>((p:Int),(n:Int))
theorem accP_le (d:List UInt8):∀ k,k≤4→accP d k≤67108863∧(k≤3→accP d k≤1048575):=by
  have h0:A1k (d.getD 0 0).toNat≤255:=by
    have:=UInt8.toNat_lt (d.getD 0 0)
    unfold A1k;split <;>(try split) <;>(try split) <;> omega
  intro k hk
  have h1:accP d 1=A1k (d.getD 0 0).toNat:=rfl
  have h2:accP d 2=accP d 1*64+(d.getD 1 0).toNat % 64:=rfl
  have h3:accP d 3=accP d 2*64+(d.getD 2 0).toNat % 64:=rfl
  have h4:accP d 4=accP d 3*64+(d.getD 3 0).toNat % 64:=rfl
  have hz:accP d 0=0:=rfl
  match k,hk with
  | 0,_=>omega
  | 1,_=>omega
  | 2,_=>omega
  | 3,_=>omega
  | 4,_=>omega
theorem B5m {l:List UInt8} {i j:Nat} (h:i+j<l.length):l[i+j]?=some ((l.drop i).getD j 0):=by
  rw [List.getElem?_eq_getElem h]
  simp [List.getD_eq_getElem?_getD,List.getElem?_drop,h]
theorem leadN_1 (b:Nat):1≤S1 b∧S1 b≤4:=by unfold S1;split <;>(try split) <;>(try split) <;> omega
def B2p (w0 w:World) (v:Value) (zs:List Nat):Prop:=w.ownsRow w0.heap.size 3 1 v zs.length (zs.map fun(z:Nat)=>int (z:Int))
def C1d (w:World) (r:Option (List Nat)) (u:Value) (w':World):Prop:=Ext w w'∧match r with|none=>u=.tuple #[.slice none 0 0,.bool false]|some zs=>∃ v,u=.tuple #[v,.bool true]∧B2p w w' v zs
def q1 (c:UInt8):List UInt8:=if C3z (c.toNat:Int) then [92,c] else [c]
theorem getD_some {α:Type} {l:List α} {i:Nat} {d:α} (h:i<l.length):l[i]?=some (l.getD i d):=by
  rw [List.getElem?_eq_getElem h];simp [List.getD_eq_getElem?_getD,h]
end
section
open Go.RowKit Go.En
theorem A1c {α:Type} {f:α→Bool}:∀ {l:List α} {i:Nat} {a:α},(∀ j,j<i→∀ b,l[j]?=some b→f b=false)→l[i]?=some a→f a=true→l.find? f=some a
  | [],_,_,_,h,_=>by simp at h
  | b::l,0,a,_,h,hf=>by simp at h;subst h;rw [List.find?_cons_of_pos hf]
  | b::l,i+1,a,hall,h,hf=>by
    rw [List.find?_cons_of_neg (by simp [hall 0 (by omega) b rfl])]
    exact A1c (i:=i) (fun j hj c hc=>hall (j+1) (by omega) c (by simpa using hc)) (by simpa using h) hf
theorem C0 {P:Program} {f:FuncId} {args:Array Value} {w:World} {S S':Value→World→Prop} (h:Calls P f args w (Rt S)) (hi:∀ v w',S v w'→S' v w'):Calls P f args w (Rt S'):=
  h.mono fun _ _ ⟨v,he,hs⟩=>⟨v,he,hi _ _ hs⟩
structure Tier where
  name:List UInt8
  kind:Int
  role:Int
  parent:Int
structure Note where
  id:Int
  tier:Int
  parent:Int
  frm:Int
  til:Int
  rank:Int
  text:List UInt8
instance:Rep Tier where
  sz:=4
  pos:=by decide
  at_ _ _ t cs:=cs=[str t.name,int t.kind,int t.role,int t.parent]
  len h:=by rw [h];rfl
  one h:=by rw [h];rfl
  move h _:=h
instance:Rep Note where
  sz:=7
  pos:=by decide
  at_ _ _ t cs:=cs=[int t.id,int t.tier,int t.parent,int t.frm,int t.til,int t.rank,str t.text]
  len h:=by rw [h];rfl
  one h:=by rw [h];rfl
  move h _:=h
theorem K0 {G:Nat→Prop} {w:World} {b off n cap:Nat} {xs:List Tier} (h:SlG G w (.slice (some ⟨b,off,none⟩) n cap) xs) {i:Nat} {t:Tier} (hx:xs[i]?=some t):At w b (off+i*4) [str t.name,int t.kind,int t.role,int t.parent]:=by
  obtain⟨cs,h1,h2⟩:=h.elem hx
  rw [show cs=_ from h1] at h2
  exact h2
theorem D7 {G:Nat→Prop} {w:World} {b off n cap:Nat} {xs:List Note} (h:SlG G w (.slice (some ⟨b,off,none⟩) n cap) xs) {i:Nat} {t:Note} (hx:xs[i]?=some t):At w b (off+i*7) [int t.id,int t.tier,int t.parent,int t.frm,int t.til,int t.rank,str t.text]:=by
  obtain⟨cs,h1,h2⟩:=h.elem hx
  rw [show cs=_ from h1] at h2
  exact h2
structure Dc where
  rid:Int
  rname:List UInt8
  len:Int
  day:Int
  sp:List Int
  tiers:List Tier
  notes:List Note
def DcAt (w:World) (v:Value) (d:Dc):Prop:=∃ sv tv nv,v=.agg #[int d.rid,str d.rname,int d.len,int d.day,sv,tv,nv]∧Sl w sv d.sp∧Sl w tv d.tiers∧Sl w nv d.notes
theorem DcAt.ext {w w':World} {v:Value} {d:Dc} (h:DcAt w v d) (x:Ext w w'):DcAt w' v d:=by
  obtain⟨sv,tv,nv,e,h1,h2,h3⟩:=h
  exact⟨sv,tv,nv,e,h1.ext x,h2.ext x,h3.ext x⟩
def A9g (t:Tier):List Value:=[str t.name,int t.kind,int t.role,int t.parent]
def B9 (n:Note):List Value:=[int n.id,int n.tier,int n.parent,int n.frm,int n.til,int n.rank,str n.text]
def G4 (k:Int):Bool:=decide (k=0)||(decide (k=1)||decide (k=2))
theorem A3s {k:Int}:G4 k=true↔k=0∨k=1∨k=2:=by simp [G4]
def getF (ns:List Note) (id:Int):Option Note:=ns.find? fun n=>decide (n.id=id)
def A6m (a b:Int):Bool:=decide (0≤a)&&(decide (a<b)&&decide (b≤86400000))
structure Spn where
  frm:Int
  til:Int
instance:Rep Spn where
  sz:=2
  pos:=by decide
  at_ _ _ t cs:=cs=[int t.frm,int t.til]
  len h:=by rw [h];rfl
  one h:=by rw [h];rfl
  move h _:=h
theorem A2m {G:Nat→Prop} {w:World} {b off n cap:Nat} {xs:List Spn} (h:SlG G w (.slice (some ⟨b,off,none⟩) n cap) xs) {i:Nat} {t:Spn} (hx:xs[i]?=some t):At w b (off+i*2) [int t.frm,int t.til]:=by
  obtain⟨cs,h1,h2⟩:=h.elem hx
  rw [show cs=_ from h1] at h2
  exact h2
theorem V8 {G:Nat→Prop} (w:World):∀ l:List Spn,AtsG G w l (l.map fun t=>[int t.frm,int t.til])
  | []=>trivial
  | _::r=>⟨rfl,V8 w r⟩
theorem O5 {G:Nat→Prop} (w:World):∀ l:List Note,AtsG G w l (l.map B9)
  | []=>trivial
  | _::r=>⟨rfl,O5 w r⟩
theorem A9f {G:Nat→Prop} (w:World):∀ l:List Tier,AtsG G w l (l.map A9g)
  | []=>trivial
  | _::r=>⟨rfl,A9f w r⟩
def A1d:Note:=⟨0,0,0,0,0,0,[]⟩
def getR (ns:List Note) (id:Int):Value:=match getF ns id with|some n=>.tuple #[.agg (B9 n).toArray,.bool true]|none=>.tuple #[.agg (B9 A1d).toArray,.bool false]
structure TierOK (ts:List Tier) (i:Nat) (t:Tier):Prop where
  kind:0≤t.kind∧t.kind≤4
  role:0≤t.role∧t.role≤5
  uniq:t.role≠0→∀ k p,k<i→ts[k]?=some p→p.role≠t.role
  root:t.kind=0→t.parent = -1
  par:t.kind≠0→0≤t.parent∧t.parent<i
  tim:t.kind=1∨t.kind=2→∃ p,ts[t.parent.toNat]?=some p∧G4 p.kind=true
  kr:(t.role=1→t.kind=0)∧(t.role=3→t.kind=3)∧(t.role=4∨t.role=5→t.kind=4)
  over:(t.role=2∨t.role=5→t.kind≠0∧∃ p,ts[t.parent.toNat]?=some p∧p.role=1)∧(t.role=3→∃ p,ts[t.parent.toNat]?=some p∧p.role=2)∧(t.role=4→∃ p,ts[t.parent.toNat]?=some p∧p.role=3)
structure PlacedOK (d:Dc) (n:Note) (t:Tier):Prop where
  root:t.kind=0→n.parent=0
  par:t.kind≠0→∃ p,getF d.notes n.parent=some p∧p.tier=t.parent
  off:G4 t.kind=false→n.frm=0∧n.til=0
  on:G4 t.kind=true→A6m n.frm n.til=true
  len:t.kind=0→n.til≤d.len
  inn:t.kind=1∨t.kind=2→∀ p,getF d.notes n.parent=some p→p.frm≤n.frm∧n.til≤p.til
  rank:0≤n.rank∧(t.kind≠3→n.rank=0)
def C6t (s:List UInt8):Prop:=s.length≤200∧∃ zs,points s=some zs∧∀ z∈zs,32≤z∧z≠127
structure NoteOK (d:Dc) (i:Nat) (n:Note):Prop where
  id:1≤n.id∧n.id≤1099511627776
  inc:∀ m,0<i→d.notes[i-1]?=some m→m.id<n.id
  text:C6t n.text
  placed:∃ t:Tier,∃ k:Nat,n.tier=(k:Int)∧d.tiers[k]?=some t∧PlacedOK d n t
def sibs (ns:List Note) (t p:Int):List Note:=ns.filter fun n=>decide (n.tier=t)&&decide (n.parent=p)
def B9f (l:List Note):Prop:=∀(i k:Nat) (a b:Note),k<i→l[i]?=some a→l[k]?=some b→¬ (a.frm<b.til∧b.frm<a.til)
def Ranked (l:List Note):Prop:=∀ n:Nat,n<l.length→∃ x∈l,x.rank=(n:Int)
theorem A9j {ns:List Note} {t p:Int} {i:Nat} {x:Note} (h:ns[i]?=some x):sibs (ns.take (i+1)) t p=sibs (ns.take i) t p++(if x.tier=t∧x.parent=p then [x] else []):=by
  obtain⟨hi,rfl⟩:=List.getElem?_eq_some_iff.1 h
  unfold sibs
  rw [List.take_succ_eq_append_getElem hi,List.filter_append]
  congr 1
  by_cases h1:ns[i].tier=t <;> by_cases h2:ns[i].parent=p <;> simp [h1,h2]
theorem A2o (ns:List Note) (t p:Int):(sibs ns t p).length≤ns.length:=List.length_filter_le _ _
structure SibsOK (kind:Int) (l:List Note):Prop where
  apart:G4 kind=true→B9f l
  series:kind=3→Ranked l
  label:kind=4→l.length≤1
def R3 (d:Dc) (k:Nat) (t:Tier):Prop:=∀ n∈d.notes,n.tier=(k:Int)→SibsOK t.kind (sibs d.notes (k:Int) n.parent)
structure LightD (d:Dc):Prop where
  nnotes:d.notes.length≤14
  ntiers:d.tiers.length≤6
  nsp:d.sp.length≤6
  tiers:∀ i t,d.tiers[i]?=some t→TierOK d.tiers i t
  len:0≤d.len∧d.len≤86400000
  notes:∀ i n,d.notes[i]?=some n→NoteOK d i n
  sib:∀ k t,d.tiers[k]?=some t→R3 d k t
end
end Go.Proofs.YtjicdgejhkgpgaaGreatDoor