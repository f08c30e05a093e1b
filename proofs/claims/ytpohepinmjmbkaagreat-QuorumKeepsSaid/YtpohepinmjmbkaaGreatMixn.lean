import Derived.Laws.Bits64
namespace Go.Proofs.YtpohepinmjmbkaaGreat.Mixn
def sh(x:Nat):Nat:=x ^^^ (x / 4294967296)
theorem sh_lt{x:Nat}(h:x<18446744073709551616):sh x<18446744073709551616:=by
 have h1:x<2 ^ 64:=by omega
 have h2:x / 4294967296<2 ^ 64:=by omega
 have h3:=Nat.xor_lt_two_pow h1 h2
 unfold sh
 omega
def mf(x:Nat):Nat:=x * 15485907386658061715 % 18446744073709551616
theorem mf_lt(x:Nat):mf x<18446744073709551616:=Nat.mod_lt _ (by decide)
def mix(x:Nat):Nat:=sh (mf (sh (mf (sh x))))
theorem mix_lt(x:Nat):mix x<18446744073709551616:=sh_lt (mf_lt _)
def step(s n:Nat):Nat:=mix (((s ^^^ n)+11400714819323198485) % 18446744073709551616)
def fold(seed:Nat)(l:List Nat):Nat:=l.foldl step (mix seed)
theorem step_lt(s n:Nat):step s n<18446744073709551616:=mix_lt _
theorem xor_lt{a b:Nat}(ha:a<18446744073709551616)(hb:b<18446744073709551616):a ^^^ b<18446744073709551616:=by
 have:=Nat.xor_lt_two_pow (n:=64) (show a<2 ^ 64 by omega) (show b<2 ^ 64 by omega)
 omega
end Go.Proofs.YtpohepinmjmbkaaGreat.Mixn
