import Derived.Laws.Bits64
namespace Go.Proofs.YtpabbpebefdafaaGreat.Negn
def bitsOf:Nat→Nat→Nat→Nat
 | 0,_,f=>f
 | n+1,z,f=>if z * z / 2147483648≤1073741824 then bitsOf n (2 * (z * z / 2147483648)) (2 * f+1) else bitsOf n (z * z / 2147483648) (2 * f)
theorem qER(n:Nat):∀ z f,f * 2 ^ n≤bitsOf n z f∧bitsOf n z f<(f+1) * 2 ^ n:=by
 induction n with
 | zero=>intro z f; simp [bitsOf]
 | succ n ih =>
  intro z f
  have hp:2 ^ (n+1)=2 * 2 ^ n:=by rw [Nat.pow_succ,Nat.mul_comm]
  have e1:(2 * f+1) * 2 ^ n=f * (2 * 2 ^ n)+2 ^ n:=by rw [Nat.add_mul,Nat.one_mul,Nat.mul_comm 2 f,Nat.mul_assoc]
  have e2:(2 * f+1+1) * 2 ^ n=(f+1) * (2 * 2 ^ n):=by rw [show 2 * f+1+1=(f+1) * 2 by omega,Nat.mul_assoc]
  have e3:2 * f * 2 ^ n=f * (2 * 2 ^ n):=by rw [Nat.mul_comm 2 f,Nat.mul_assoc]
  have e4:(f+1) * (2 * 2 ^ n)=f * (2 * 2 ^ n)+2 * 2 ^ n:=by rw [Nat.add_mul,Nat.one_mul]
  unfold bitsOf
  rw [hp]
  split
  ·have:=ih (2 * (z * z / 2147483648)) (2 * f+1)
   rw [e1,e2]at this
   omega
  ·have:=ih (z * z / 2147483648) (2 * f)
   rw [e3,e1]at this
   omega
def cst:Nat→Nat→Nat
 | 0,_=>0
 | n+1,u=>if u≤32768 then 65536+cst n (2 * u) else bitsOf 16 (u * 32768) 0
theorem cst_succ(n u:Nat):cst (n+1) u=if u≤32768 then 65536+cst n (2 * u) else bitsOf 16 (u * 32768) 0:=rfl
def cost(u:Nat):Nat:=cst 17 u
theorem qFp(z:Nat):bitsOf 16 z 0<65536:=by
 have:=(qER 16 z 0).2
 omega
theorem cst_le(n:Nat):∀ u,cst n u≤n * 65536+65536:=by
 induction n with
 | zero=>intro u; simp [cst]
 | succ n ih =>
  intro u
  rw [cst]
  split
  ·have:=ih (2 * u)
   omega
  ·have:=qFp (u * 32768)
   omega
theorem cost_le(u:Nat):cost u≤1179648:=cst_le 17 u
end Go.Proofs.YtpabbpebefdafaaGreat.Negn
