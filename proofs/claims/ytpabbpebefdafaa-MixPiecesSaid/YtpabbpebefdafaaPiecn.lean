import Derived.Laws.Bits64
namespace Go.Proofs.Ytpabbpebefdafaa.Mixn
def pc(b:Nat→Nat)(j:Nat):Nat→Nat
 | 0=>0
 | t+1=>pc b j t+b (8 * j+t) * 256 ^ t
theorem pc_lt{b:Nat→Nat}(hb:∀ i,b i<256)(j t:Nat):pc b j t<256 ^ t:=by
 induction t with
 | zero=>simp [pc]
 | succ t ih =>
  have h1:b (8 * j+t) * 256 ^ t≤255 * 256 ^ t:=Nat.mul_le_mul_right _ (by have:=hb (8 * j+t); omega)
  have h2:256 ^ (t+1)=256 * 256 ^ t:=by rw [Nat.pow_succ,Nat.mul_comm]
  unfold pc
  rw [h2]
  generalize 256 ^ t=q at *
  generalize b (8 * j+t) * q=z at *
  omega
theorem qBQ{b:Nat→Nat}(j t:Nat):∀ u,(∀ v,t≤v→v<u→b (8 * j+v)=0)→t≤u→pc b j u=pc b j t:=by
 intro u
 induction u with
 | zero=>intro _ h; rw [show t=0 by omega]
 | succ u ih =>
  intro hz h
  by_cases he:t=u+1
  ·rw [he]
  ·rw [← ih (fun v h1 h2=>hz v h1 (by omega)) (by omega)]
   show pc b j u+b (8 * j+u) * 256 ^ u=_
   rw [hz u (by omega) (by omega)]; simp
def lst(b:Nat→Nat)(n i:Nat):List Nat:=(n :: (List.range (i / 8)).map fun j=>pc b j 8)++(if i % 8=0 then [] else [pc b (i / 8) (i % 8)])
theorem lst_zero(b:Nat→Nat)(n:Nat):lst b n 0=[n]:=by simp [lst]
theorem lst_first(b:Nat→Nat)(n i:Nat)(h:i % 8=0):lst b n (i+1)=lst b n i++[b i]:=by
 have h1:(i+1) / 8=i / 8:=by omega
 have h2:(i+1) % 8=1:=by omega
 have h3:8 * (i / 8)=i:=by omega
 simp [lst,h,h1,h2,pc,h3]
theorem lst_more(b:Nat→Nat)(n i:Nat)(h:i % 8≠0):∃ A,lst b n i=A++[pc b (i / 8) (i % 8)]∧lst b n (i+1)=A++[pc b (i / 8) (i % 8)+b i * 256 ^ (i % 8)]:=by
 refine ⟨n :: (List.range (i / 8)).map fun j=>pc b j 8,by simp [lst,h],?_⟩
 have e:pc b (i / 8) (i % 8)+b i * 256 ^ (i % 8)=pc b (i / 8) (i % 8+1):=by
  show _=pc b (i / 8) (i % 8)+b (8 * (i / 8)+i % 8) * 256 ^ (i % 8)
  rw [show 8 * (i / 8)+i % 8=i by omega]
 rw [e]
 by_cases h7:i % 8=7
 ·have h1:(i+1) / 8=i / 8+1:=by omega
  have h2:(i+1) % 8=0:=by omega
  simp [lst,h7,h1,h2,List.range_succ]
 ·have h1:(i+1) / 8=i / 8:=by omega
  have h2:(i+1) % 8=i % 8+1:=by omega
  simp [lst,h1,h2]
theorem lst_all(b:Nat→Nat)(n:Nat)(hz:∀ i,n≤i→b i=0):lst b n n=n :: (List.range ((n+7) / 8)).map fun j=>pc b j 8:=by
 by_cases h:n % 8=0
 ·have h1:(n+7) / 8=n / 8:=by omega
  simp [lst,h,h1]
 ·have h1:(n+7) / 8=n / 8+1:=by omega
  have h2:pc b (n / 8) 8=pc b (n / 8) (n % 8):=qBQ (n / 8) (n % 8) 8 (fun v h3 _=>hz _ (by omega)) (by omega)
  simp [lst,h,h1,h2,List.range_succ]
theorem lst_length(b:Nat→Nat)(n i:Nat):(lst b n i).length≤i / 8+2:=by
 unfold lst
 split <;> simp
theorem lst_lt(b:Nat→Nat)(hb:∀ i,b i<256)(n i:Nat)(hn:n<18446744073709551616):∀ x ∈ lst b n i,x<18446744073709551616:=by
 intro x hx
 unfold lst at hx
 simp only [List.mem_append,List.mem_cons,List.mem_map,List.mem_range]at hx
 rcases hx with (rfl | ⟨j,_,rfl⟩) | hx
 ·exact hn
 ·exact pc_lt hb j 8
 ·by_cases h:i % 8=0
  ·simp [h]at hx
  ·simp [h]at hx
   subst hx
   exact Nat.lt_of_lt_of_le (pc_lt hb _ _) (Nat.le_trans (Nat.pow_le_pow_right (by decide) (show i % 8≤8 by omega)) (by decide))
theorem or_byte(v c r:Nat)(hv:v<256 ^ r):v ||| (c * 2 ^ (8 * r))=v+c * 256 ^ r:=by
 have e:256 ^ r=2 ^ (8 * r):=by rw [show 256=2 ^ 8 from rfl,← Nat.pow_mul]
 rw [e]at hv ⊢
 rw [Nat.or_comm,Nat.mul_comm,← Nat.two_pow_add_eq_or_of_lt hv c,Nat.add_comm]
theorem horner(b:Nat→Nat)(j:Nat):(((((((b (8 * j+7) * 256+b (8 * j+6)) * 256+b (8 * j+5)) * 256+b (8 * j+4)) * 256+b (8 * j+3)) * 256+b (8 * j+2)) * 256+b (8 * j+1)) * 256+b (8 * j+0))=pc b j 8:=by
 simp only [pc]
 omega
end Go.Proofs.Ytpabbpebefdafaa.Mixn
