import Derived.Laws.Bits64
namespace Go.Proofs.Ytpabbpebefdafaa.Mixn
def sh(x:Nat):Nat:=x ^^^ (x / 4294967296)
theorem sh_lt{x:Nat}(h:x<18446744073709551616):sh x<18446744073709551616:=by
 have h1:x<2 ^ 64:=by omega
 have h2:x / 4294967296<2 ^ 64:=by omega
 have h3:=Nat.xor_lt_two_pow h1 h2
 unfold sh
 omega
theorem qAN(h l:Nat)(hh:h<4294967296)(hl:l<4294967296):sh (4294967296 * h+l)=4294967296 * h+(l ^^^ h):=by
 have hd:(4294967296 * h+l) / 4294967296=h:=by omega
 have hx:l ^^^ h<2 ^ 32:=Nat.xor_lt_two_pow (by omega) (by omega)
 unfold sh
 rw [hd]
 apply Nat.eq_of_testBit_eq
 intro j
 have e1:(4294967296 * h+l).testBit j=if j<32 then l.testBit j else h.testBit (j - 32):=Nat.testBit_two_pow_mul_add h (i:=32) (by omega) j
 have e2:(4294967296 * h+(l ^^^ h)).testBit j=if j<32 then (l ^^^ h).testBit j else h.testBit (j - 32):=Nat.testBit_two_pow_mul_add h (i:=32) hx j
 rw [Nat.testBit_xor,e1,e2]
 by_cases hj:j<32
 ·simp [hj,Nat.testBit_xor]
 ·have:h.testBit j=false:=Nat.testBit_lt_two_pow (Nat.lt_of_lt_of_le (show h<2 ^ 32 by omega) (Nat.pow_le_pow_right (by decide) (by omega)))
  simp [hj,this]
theorem split(x:Nat):4294967296 * (x / 4294967296)+x % 4294967296=x:=by omega
theorem qAz{x:Nat}(h:x<18446744073709551616):sh x=4294967296 * (x / 4294967296)+((x % 4294967296) ^^^ (x / 4294967296)):=by
 have:=qAN (x / 4294967296) (x % 4294967296) (by omega) (by omega)
 rwa [split]at this
theorem sh_sh{x:Nat}(h:x<18446744073709551616):sh (sh x)=x:=by
 have h1:(x % 4294967296) ^^^ (x / 4294967296)<2 ^ 32:=Nat.xor_lt_two_pow (by omega) (by omega)
 rw [qAz h,qAN _ _ (by omega) (by omega),Nat.xor_assoc,Nat.xor_self,Nat.xor_zero,split]
def mf(x:Nat):Nat:=x * 15485907386658061715 % 18446744073709551616
def mu(x:Nat):Nat:=x * 14982988110149298331 % 18446744073709551616
theorem mf_lt(x:Nat):mf x<18446744073709551616:=Nat.mod_lt _ (by decide)
theorem mu_mf{x:Nat}(h:x<18446744073709551616):mu (mf x)=x:=by
 unfold mu mf
 rw [Nat.mod_mul_mod,Nat.mul_assoc,Nat.mul_mod,show 15485907386658061715 * 14982988110149298331 % 18446744073709551616=1 from by decide]
 omega
def mix(x:Nat):Nat:=sh (mf (sh (mf (sh x))))
def unmix(x:Nat):Nat:=sh (mu (sh (mu (sh x))))
theorem mix_lt(x:Nat):mix x<18446744073709551616:=sh_lt (mf_lt _)
theorem qAF{x:Nat}(h:x<18446744073709551616):unmix (mix x)=x:=by
 unfold unmix mix
 rw [sh_sh (mf_lt _),mu_mf (sh_lt (mf_lt _)),sh_sh (mf_lt _),mu_mf (sh_lt h),sh_sh h]
theorem qH{x y:Nat}(hx:x<18446744073709551616)(hy:y<18446744073709551616)(h:mix x=mix y):x=y:=by
 rw [← qAF hx,← qAF hy,h]
def step(s n:Nat):Nat:=mix (((s ^^^ n)+11400714819323198485) % 18446744073709551616)
def fold(seed:Nat)(l:List Nat):Nat:=l.foldl step (mix seed)
theorem step_lt(s n:Nat):step s n<18446744073709551616:=mix_lt _
theorem xor_lt{a b:Nat}(ha:a<18446744073709551616)(hb:b<18446744073709551616):a ^^^ b<18446744073709551616:=by
 have:=Nat.xor_lt_two_pow (n:=64) (show a<2 ^ 64 by omega) (show b<2 ^ 64 by omega)
 omega
theorem qAq{a b:Nat}(ha:a<18446744073709551616)(hb:b<18446744073709551616)(h:(a+11400714819323198485) % 18446744073709551616=(b+11400714819323198485) % 18446744073709551616):a=b:=by omega
theorem qS{s a b:Nat}(h:s ^^^ a=s ^^^ b):a=b:=by
 have:=congrArg (s ^^^ ·) h
 simpa [← Nat.xor_assoc] using this
theorem qa{s t a:Nat}(h:s ^^^ a=t ^^^ a):s=t:=by
 rw [Nat.xor_comm s,Nat.xor_comm t]at h
 exact qS h
theorem qm{s a b:Nat}(hs:s<18446744073709551616)(ha:a<18446744073709551616)(hb:b<18446744073709551616)(h:step s a=step s b):a=b:=by
 have h1:=qH (Nat.mod_lt _ (by decide)) (Nat.mod_lt _ (by decide)) h
 exact qS (qAq (xor_lt hs ha) (xor_lt hs hb) h1)
theorem qx{s t a:Nat}(hs:s<18446744073709551616)(ht:t<18446744073709551616)(ha:a<18446744073709551616)(h:step s a=step t a):s=t:=by
 have h1:=qH (Nat.mod_lt _ (by decide)) (Nat.mod_lt _ (by decide)) h
 exact qa (qAq (xor_lt hs ha) (xor_lt ht ha) h1)
theorem qBA(l:List Nat):∀ s,s<18446744073709551616→l.foldl step s<18446744073709551616:=by
 induction l with
 | nil=>intro s h; exact h
 | cons a l ih=>intro s h; exact ih _ (step_lt _ _)
theorem qAr(l:List Nat)(hl:∀ x ∈ l,x<18446744073709551616):∀ s t,s<18446744073709551616→t<18446744073709551616→l.foldl step s=l.foldl step t→s=t:=by
 induction l with
 | nil=>intro s t _ _ h; exact h
 | cons a l ih =>
  intro s t hs ht h
  exact qx hs ht (hl a (by simp)) (ih (fun x hx=>hl x (by simp [hx])) _ _ (step_lt _ _) (step_lt _ _) h)
theorem fold_set_inj(seed:Nat)(a b:List Nat)(x y:Nat)(hx:x<18446744073709551616)(hy:y<18446744073709551616)(hb:∀ z ∈ b,z<18446744073709551616)(h:fold seed (a++x :: b)=fold seed (a++y :: b)):x=y:=by
 unfold fold at h
 rw [List.foldl_append,List.foldl_append,List.foldl_cons,List.foldl_cons]at h
 exact qm (qBA a _ (mix_lt _)) hx hy (qAr b hb _ _ (step_lt _ _) (step_lt _ _) h)
end Go.Proofs.Ytpabbpebefdafaa.Mixn
