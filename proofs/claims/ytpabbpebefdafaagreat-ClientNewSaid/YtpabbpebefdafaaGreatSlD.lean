import Derived.Test.YtpabbpebefdafaaGreatSlC
namespace Go.Proofs.YtpabbpebefdafaaGreat.Sl
open Go Go.RowKit
set_option linter.unusedVariables false
set_option linter.unusedSimpArgs false
def nth{α : Type}(z : α)(l:List α)(i:Int): α:=l.getD i.toNat z
theorem qDP(a:Addr)(i j:Nat):(a.add i).add j=a.add (i+j):=by
 unfold Addr.add
 by_cases h1:i=0
 ·subst h1
  by_cases h2:j=0
  ·simp [h2]
  ·simp [h2]
 ·by_cases h2:j=0
  ·simp [h1,h2]
  ·simp [h1,h2,Nat.add_assoc]
section
variable {P:Program} {E:Nat→Value} {o:Oper} {w w':World} {α : Type} {d:Kn α} {F F':World} {A:Option Addr} {c:Nat} {xs:List α}
theorem Rd.addr(h:Rd d F A c xs){i:Int}(h0:0≤i)(h1:i<xs.length):∃ ad,A=some ad:=by
 obtain ⟨ad,e,_⟩:=h.2.2 (by omega)
 exact ⟨ad,e⟩
theorem Rd.el{ad:Addr}(h:Rd d F (some ad) c xs)(z : α)(i:Int)(h0:0≤i)(h1:i<xs.length):∃ cs,d.K F (nth z xs i) cs∧∀(j:Nat)(u:Value),cs[j]? = some u→F.cell? ((ad.add (i.toNat * d.sz)).add j)=some u:=by
 obtain ⟨ad',cs,e,hK,hc⟩:=h.get z i h0 h1
 injection e with e
 subst e
 refine ⟨cs,hK,fun j u hj=>?_⟩
 rw [qDP]
 exact hc j u hj
theorem qFf{t e:TypeId}{sz n c:Nat}{ad:Addr}{k:IntKind}{i:Int}(ht:P.underlying t=some (.slice e))(hs:sizeB P e=some sz)(h0:0≤i)(h1:i<n)(w:World):(Instr.indexAt t (.slice (some ad) n c) (.int k i)).run P w = .ok (.pointer (some (ad.add (i.toNat * sz)))) w:=by
 simp [Instr.indexAt,asIntOf,run_underlying ht,qCb hs,h0,h1]
theorem ix{t e:TypeId}{x y:Operand}(sz:Nat){n c:Nat}{ad:Addr}{k:IntKind}{i:Int}(ho:o.op = .indexAddr t x y)(hx:ev E x = .slice (some ad) n c)(hy:ev E y = .int k i)(ht:P.underlying t=some (.slice e))(hs:sizeB P e=some sz)(h0:0≤i)(h1:i<n):
  YA P E o (.pointer (some (ad.add (i.toNat * sz)))):=fun w=>by
 unfold execOp
 simp [ho,hx,hy,qFf ht hs h0 h1]
theorem YA.s{S:World→Prop}{v:Value}(h:YA P E o v):YS P S E o v:=fun w _=>h w
theorem qFL{isSlice:Bool}{len cap:Nat}{kl kh:IntKind}{lo hi:Int}(h0:0≤lo)(h1:lo≤hi)(h2:hi≤cap)(w:World):(Instr.sliceBounds isSlice len cap (some (.int kl lo)) (some (.int kh hi)) none).run P w = .ok (lo.toNat,hi.toNat,cap) w:=by
 have:(0:Int)≤hi:=by omega
 simp [Instr.sliceBounds,Instr.sliceBound,asIntOf,h0,this,h2,h1]
 omega
theorem qDQ{isSlice:Bool}{len cap:Nat}{kl:IntKind}{lo:Int}(h0:0≤lo)(h1:lo≤len)(w:World):(Instr.sliceBounds isSlice len cap (some (.int kl lo)) none none).run P w = .ok (lo.toNat,len,cap) w:=by
 simp [Instr.sliceBounds,Instr.sliceBound,asIntOf,h0,h1]
theorem qDR{isSlice:Bool}{len cap:Nat}{kh:IntKind}{hi:Int}(h1:0≤hi)(h2:hi≤cap)(w:World):(Instr.sliceBounds isSlice len cap none (some (.int kh hi)) none).run P w = .ok (0,hi.toNat,cap) w:=by
 simp [Instr.sliceBounds,Instr.sliceBound,asIntOf,h1,h2]
theorem Rd.cut(h:Rd d F A c xs){lo hi:Nat}(h1:lo≤hi)(h2:hi≤xs.length):((xs.take hi).drop lo).length=hi - lo∧Rd d F (if c=lo then A else A.map (·.add (lo * d.sz))) (c - lo) ((xs.take hi).drop lo):=by
 have hl:((xs.take hi).drop lo).length=hi - lo:=by
  rw [List.length_drop,List.length_take,Nat.min_eq_left h2]
 refine ⟨hl,by rw [hl]; have:=h.1; omega,Nat.le_trans (Nat.sub_le _ _) h.2.1,fun hn=>?_⟩
 rw [hl]at hn
 have hcl:c≠lo:=by have:=h.1; omega
 obtain ⟨ad,e,hc⟩:=h.2.2 (by omega)
 refine ⟨ad.add (lo * d.sz),by rw [if_neg hcl,e]; rfl,fun j p hj=>?_⟩
 rw [List.getElem?_drop,List.getElem?_take]at hj
 split at hj
 ·obtain ⟨cs,hK,hcs⟩:=hc (lo+j) p hj
  refine ⟨cs,hK,fun i u hi=>?_⟩
  rw [qDP,show lo * d.sz+(j * d.sz+i)=(lo+j) * d.sz+i by rw [Nat.add_mul,Nat.add_assoc]]
  exact hcs i u hi
 ·cases hj
theorem qEJ{t e:TypeId}{sz len cap lo hi:Nat}{low high:Option Value}(ht:P.underlying t=some (.slice e))(hs:sizeB P e=some sz)(hb:∀ w:World,(Instr.sliceBounds true len cap low high none).run P w = .ok (lo,hi,cap) w)(w:World):
  (Instr.sliceAt t (.slice A len cap) low high none).run P w = .ok (.slice (if cap=lo then A else A.map (·.add (lo * sz))) (hi - lo) (cap - lo)) w:=by
 simp [Instr.sliceAt,Instr.slice,run_underlying ht,qCb hs,hb]
def cutl{α : Type}(xs:List α)(lo hi:Int):List α:=(xs.take hi.toNat).drop lo.toNat
theorem qHU{t e:TypeId}{x:Operand}{n:Nat}(ho:o.op = .call { callee:=.builtin .len,args:=#[x],argTypes:=#[t] })(hx:ev E x = .slice A n c)(ht:P.underlying t=some (.slice e)):YA P E o (.int .i64 n):=fun w=>by
 unfold execOp
 simp [ho,resolve,invoke,builtin,Builtin.len_,run_underlying ht,hx,goInt]
theorem qHD{t:TypeId}{x:Operand}{s:ByteArray}(ho:o.op = .call { callee:=.builtin .len,args:=#[x],argTypes:=#[t] })(hx:ev E x = .string s)(ht:P.underlying t=some .string):YA P E o (.int .i64 s.size):=fun w=>by
 unfold execOp
 simp [ho,resolve,invoke,builtin,Builtin.len_,run_underlying ht,hx,goInt]
end
end Go.Proofs.YtpabbpebefdafaaGreat.Sl
