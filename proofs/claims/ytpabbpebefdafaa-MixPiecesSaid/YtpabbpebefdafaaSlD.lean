import Derived.Test.YtpabbpebefdafaaSlC
namespace Go.Proofs.Ytpabbpebefdafaa.Sl
open Go Go.RowKit
set_option linter.unusedVariables false
set_option linter.unusedSimpArgs false
def nth{α : Type}(z : α)(l:List α)(i:Int): α:=l.getD i.toNat z
theorem qAH(a:Addr)(i j:Nat):(a.add i).add j=a.add (i+j):=by
 unfold Addr.add
 by_cases h1:i=0
 ·subst h1
  by_cases h2:j=0
  ·simp [h2]
  ·simp [h2]
 ·by_cases h2:j=0
  ·simp [h1,h2]
  ·simp [h1,h2,Nat.add_assoc]
section
variable {P:Program} {E:Nat→Value} {o:Oper} {w w':World} {α : Type} {d:Kn α} {F F':World} {A:Option Addr} {c:Nat} {xs:List α}
theorem Rd.addr(h:Rd d F A c xs){i:Int}(h0:0≤i)(h1:i<xs.length):∃ ad,A=some ad:=by
 obtain ⟨ad,e,_⟩:=h.2.2 (by omega)
 exact ⟨ad,e⟩
theorem Rd.el{ad:Addr}(h:Rd d F (some ad) c xs)(z : α)(i:Int)(h0:0≤i)(h1:i<xs.length):∃ cs,d.K F (nth z xs i) cs∧∀(j:Nat)(u:Value),cs[j]? = some u→F.cell? ((ad.add (i.toNat * d.sz)).add j)=some u:=by
 obtain ⟨ad',cs,e,hK,hc⟩:=h.get z i h0 h1
 injection e with e
 subst e
 refine ⟨cs,hK,fun j u hj=>?_⟩
 rw [qAH]
 exact hc j u hj
theorem qAh{t e:TypeId}{sz n c:Nat}{ad:Addr}{k:IntKind}{i:Int}(ht:P.underlying t=some (.slice e))(hs:sizeB P e=some sz)(h0:0≤i)(h1:i<n)(w:World):(Instr.indexAt t (.slice (some ad) n c) (.int k i)).run P w = .ok (.pointer (some (ad.add (i.toNat * sz)))) w:=by
 simp [Instr.indexAt,asIntOf,run_underlying ht,qV hs,h0,h1]
theorem ix{t e:TypeId}{x y:Operand}(sz:Nat){n c:Nat}{ad:Addr}{k:IntKind}{i:Int}(ho:o.op = .indexAddr t x y)(hx:ev E x = .slice (some ad) n c)(hy:ev E y = .int k i)(ht:P.underlying t=some (.slice e))(hs:sizeB P e=some sz)(h0:0≤i)(h1:i<n):
  YA P E o (.pointer (some (ad.add (i.toNat * sz)))):=fun w=>by
 unfold execOp
 simp [ho,hx,hy,qAh ht hs h0 h1]
theorem YA.s{S:World→Prop}{v:Value}(h:YA P E o v):YS P S E o v:=fun w _=>h w
theorem qBW{t e:TypeId}{x:Operand}{n:Nat}(ho:o.op = .call { callee:=.builtin .len,args:=#[x],argTypes:=#[t] })(hx:ev E x = .slice A n c)(ht:P.underlying t=some (.slice e)):YA P E o (.int .i64 n):=fun w=>by
 unfold execOp
 simp [ho,resolve,invoke,builtin,Builtin.len_,run_underlying ht,hx,goInt]
theorem qBN{t:TypeId}{x:Operand}{s:ByteArray}(ho:o.op = .call { callee:=.builtin .len,args:=#[x],argTypes:=#[t] })(hx:ev E x = .string s)(ht:P.underlying t=some .string):YA P E o (.int .i64 s.size):=fun w=>by
 unfold execOp
 simp [ho,resolve,invoke,builtin,Builtin.len_,run_underlying ht,hx,goInt]
end
end Go.Proofs.Ytpabbpebefdafaa.Sl
