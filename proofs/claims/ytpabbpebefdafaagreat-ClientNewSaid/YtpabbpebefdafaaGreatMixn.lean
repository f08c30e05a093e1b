import Derived.Laws.Bits64
namespace Go.Proofs.YtpabbpebefdafaaGreat.Mixn
def sh(x:Nat):Nat:=x ^^^ (x / 4294967296)
theorem sh_lt{x:Nat}(h:x<18446744073709551616):sh x<18446744073709551616:=by
 have h1:x<2 ^ 64:=by omega
 have h2:x / 4294967296<2 ^ 64:=by omega
 have h3:=Nat.xor_lt_two_pow h1 h2
 unfold sh
 omega
theorem qGY(h l:Nat)(hh:h<4294967296)(hl:l<4294967296):sh (4294967296 * h+l)=4294967296 * h+(l ^^^ h):=by
 have hd:(4294967296 * h+l) / 4294967296=h:=by omega
 have hx:l ^^^ h<2 ^ 32:=Nat.xor_lt_two_pow (by omega) (by omega)
 unfold sh
 rw [hd]
 apply Nat.eq_of_testBit_eq
 intro j
 have e1:(4294967296 * h+l).testBit j=if j<32 then l.testBit j else h.testBit (j - 32):=Nat.testBit_two_pow_mul_add h (i:=32) (by omega) j
 have e2:(4294967296 * h+(l ^^^ h)).testBit j=if j<32 then (l ^^^ h).testBit j else h.testBit (j - 32):=Nat.testBit_two_pow_mul_add h (i:=32) hx j
 rw [Nat.testBit_xor,e1,e2]
 by_cases hj:j<32
 ·simp [hj,Nat.testBit_xor]
 ·have:h.testBit j=false:=Nat.testBit_lt_two_pow (Nat.lt_of_lt_of_le (show h<2 ^ 32 by omega) (Nat.pow_le_pow_right (by decide) (by omega)))
  simp [hj,this]
theorem split(x:Nat):4294967296 * (x / 4294967296)+x % 4294967296=x:=by omega
theorem sh_split{x:Nat}(h:x<18446744073709551616):sh x=4294967296 * (x / 4294967296)+((x % 4294967296) ^^^ (x / 4294967296)):=by
 have:=qGY (x / 4294967296) (x % 4294967296) (by omega) (by omega)
 rwa [split]at this
def mf(x:Nat):Nat:=x * 15485907386658061715 % 18446744073709551616
theorem mf_lt(x:Nat):mf x<18446744073709551616:=Nat.mod_lt _ (by decide)
def mix(x:Nat):Nat:=sh (mf (sh (mf (sh x))))
theorem mix_lt(x:Nat):mix x<18446744073709551616:=sh_lt (mf_lt _)
def step(s n:Nat):Nat:=mix (((s ^^^ n)+11400714819323198485) % 18446744073709551616)
def fold(seed:Nat)(l:List Nat):Nat:=l.foldl step (mix seed)
theorem step_lt(s n:Nat):step s n<18446744073709551616:=mix_lt _
theorem xor_lt{a b:Nat}(ha:a<18446744073709551616)(hb:b<18446744073709551616):a ^^^ b<18446744073709551616:=by
 have:=Nat.xor_lt_two_pow (n:=64) (show a<2 ^ 64 by omega) (show b<2 ^ 64 by omega)
 omega
end Go.Proofs.YtpabbpebefdafaaGreat.Mixn
