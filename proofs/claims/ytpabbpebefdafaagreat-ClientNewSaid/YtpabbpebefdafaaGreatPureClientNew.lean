import Derived.Test.YtpabbpebefdafaaGreatCNoClientNew
import Derived.Test.YtpabbpebefdafaaGreatMixn
import Derived.Test.YtpabbpebefdafaaGreatNegn
namespace Go.Proofs.YtpabbpebefdafaaGreat.CN
open Go Go.RowKit Go.Proofs.YtpabbpebefdafaaGreat Go.Proofs.YtpabbpebefdafaaGreat.Sl
set_option linter.unusedVariables false
set_option linter.unusedSimpArgs false
theorem dT{p:Prop}[Decidable p](h:p):decide p=true:=_root_.decide_eq_true h
theorem dF{p:Prop}[Decidable p](h:¬ p):decide p=false:=_root_.decide_eq_false h
theorem oT{p:Prop}[Decidable p](h:decide p=true):p:=_root_.of_decide_eq_true h
theorem gM{α : Type}{l:List α}{n:Nat}(h:n<l.length):l[n] ∈ l:=List.getElem_mem h
theorem tN(n:Nat):(n:Int).toNat=n:=Int.toNat_natCast n
theorem lA{α : Type}{a b:List α}: (a++b).length=a.length+b.length:=List.length_append
theorem w64n(i:Nat)(h:i<9223372036854775807):w64 ((i:Int)+1)=((i+1:Nat):Int):=by rw [qCQ (by omega) (by omega)]; omega
theorem w64p(i:Nat)(h:i<9223372036854775807)(h0:0<i):w64 ((i:Int) - 1)=((i - 1:Nat):Int):=by rw [qCQ (by omega) (by omega)]; omega
theorem nth_get{α : Type}(z : α)(l:List α)(i:Nat)(h:i<l.length):nth z l (i:Int)=l[i]:=by simp [nth,h]
def Ev{β : Type}(f:Nat→Option β)(v : β):Prop:=∃ K,∀ k,K≤k→f k=some v
theorem Ev.c{β : Type}(v : β):Ev (fun _=>some v) v:=⟨0,fun _ _=>rfl⟩
theorem Ev.cv{β : Type}{v w : β}(h:v=w):Ev (fun _=>some v) w:=⟨0,fun _ _=>congrArg some h⟩
theorem Ev.v{β : Type}{f:Nat→Option β}{v w : β}(h:Ev f v)(e:v=w):Ev f w:=e ▸ h
theorem Ev.s{β : Type}{f g:Nat→Option β}{v : β}(h:∀ k,f (k+1)=g k)(hg:Ev g v):Ev f v:=by
 obtain ⟨K,hK⟩:=hg
 refine ⟨K+1,fun k hk=>?_⟩
 obtain ⟨k,rfl⟩:∃ m,k=m+1:=⟨k - 1,by omega⟩
 rw [h]
 exact hK k (by omega)
theorem Ev.b{α β : Type}{f:Nat→Option α}{g:Nat→α→Option β}{a : α}{v : β}(hf:Ev f a)(hg:Ev (fun k=>g k a) v):Ev (fun k=>(f k).bind (g k)) v:=by
 obtain ⟨K,hK⟩:=hf
 obtain ⟨L,hL⟩:=hg
 refine ⟨K+L,fun k hk=>?_⟩
 show (f k).bind (g k)=some v
 rw [hK k (by omega),Option.bind_some]
 exact hL k (by omega)
theorem Ev.b0{α β : Type}{o:Option α}{g:Nat→α→Option β}{a : α}{v : β}(ho:o=some a)(hg:Ev (fun k=>g k a) v):Ev (fun k=>o.bind (g k)) v:=Ev.b ⟨0,fun _ _=>ho⟩ hg
theorem Ev.i{β : Type}{c:Prop}[Decidable c]{f g:Nat→Option β}{v : β}(hf:c→Ev f v)(hg:¬ c→Ev g v):Ev (fun k=>if c then f k else g k) v:=by
 by_cases h:c
 ·simpa only [if_pos h] using hf h
 ·simpa only [if_neg h] using hg h
theorem Ev.t{β : Type}{c:Prop}[Decidable c]{f g:Nat→Option β}{v : β}(h:c)(hf:Ev f v):Ev (fun k=>if c then f k else g k) v:=Ev.i (fun _=>hf) (fun n=>absurd h n)
theorem Ev.n{β : Type}{c:Prop}[Decidable c]{f g:Nat→Option β}{v : β}(h:¬ c)(hg:Ev g v):Ev (fun k=>if c then f k else g k) v:=Ev.i (fun n=>absurd n h) (fun _=>hg)
theorem Ev.one{α : Type}{f:Nat→Option α}{v : α}(hf:Ev f v):∃ k,f k=some v:=by
 obtain ⟨K,hK⟩:=hf
 exact ⟨K,hK _ (by omega)⟩
def eno:Bool→Int
 | true=>0
 | false=>1
def Ht{β : Type}(f:Nat→Option β)(P : β→Prop):Prop:=∃ v,Ev f v∧P v
theorem Ht.c{β : Type}{v : β}{P : β→Prop}(h:P v):Ht (fun _=>some v) P:=⟨v,.c v,h⟩
theorem Ht.s{β : Type}{f g:Nat→Option β}{P : β→Prop}(h:∀ k,f (k+1)=g k):Ht g P→Ht f P:=fun ⟨v,e,p⟩=>⟨v,.s h e,p⟩
theorem Ht.e{α β : Type}{f:Nat→Option α}{g:Nat→α→Option β}{a : α}{P : β→Prop}(e:Ev f a):Ht (fun k=>g k a) P→Ht (fun k=>(f k).bind (g k)) P:=fun ⟨v,e2,p⟩=>⟨v,.b e e2,p⟩
theorem Ht.o{α β : Type}{o:Option α}{g:Nat→α→Option β}{a : α}{P : β→Prop}(e:o=some a):Ht (fun k=>g k a) P→Ht (fun k=>o.bind (g k)) P:=fun ⟨v,e2,p⟩=>⟨v,.b0 e e2,p⟩
theorem Ht.i{β : Type}{c:Prop}[Decidable c]{f g:Nat→Option β}{P : β→Prop}(hf:c→Ht f P)(hg:¬ c→Ht g P):Ht (fun k=>if c then f k else g k) P:=by
 by_cases h:c
 ·simpa only [if_pos h] using hf h
 ·simpa only [if_neg h] using hg h
theorem Ht.t{β : Type}{c:Prop}[Decidable c]{f g:Nat→Option β}{P : β→Prop}(h:c)(hf:Ht f P):Ht (fun k=>if c then f k else g k) P:=.i (fun _=>hf) (fun n=>absurd h n)
theorem Ht.n{β : Type}{c:Prop}[Decidable c]{f g:Nat→Option β}{P : β→Prop}(h:¬ c)(hg:Ht g P):Ht (fun k=>if c then f k else g k) P:=.i (fun n=>absurd n h) (fun _=>hg)
namespace Topo
theorem tin(x a b:Int):qBv.f x a b=some (decide (a≤x∧x≤b)):=by
 unfold qBv.f
 by_cases h:x≥a
 ·rw [if_pos h]
  congr 1
  simp only [decide_eq_decide]
  omega
 ·rw [if_neg h,dF (by omega)]
def okN(n:qA):Prop:=(1≤n.f0∧n.f0≤999)∧(1≤n.f1∧n.f1≤9)∧(1≤n.f2∧n.f2≤9)∧0≤n.f3∧n.f3≤65536
instance (n:qA):Decidable (okN n):=inferInstanceAs (Decidable (_∧_))
def rise:Int→List qA→Bool
 | _,[]=>true
 | p,n :: l=>decide (okN n∧p<n.f0)&&rise n.f0 l
def pre(l:List qA)(i:Nat):Int:=if i=0 then 0 else (nth qA.z l (w64 ((i:Int) - 1))).f0
theorem qFB(l:List qA)(i:Nat)(h:i<l.length)(hl:l.length<4611686018427387904):pre l (i+1)=l[i].f0:=by
 unfold pre
 rw [if_neg (by omega),w64p (i+1) (by omega) (by omega),show i+1 - 1=i by omega,nth_get _ _ _ h]
def Nodes(l:List qA):Prop:=l.length≤12∧rise 0 l=true
instance (l:List qA):Decidable (Nodes l):=inferInstanceAs (Decidable (_∧_))
theorem qGZ(l:List qA)(hl:l.length<4611686018427387904):∀(d i:Nat),i+d=l.length→Ev (fun k=>qAI.l9 k l (i:Int)) (eno (rise (pre l i) (l.drop i))):=by
 intro d
 induction d with
 | zero =>
  intro i hi
  refine .s (qAI.l9_s · _ _) (.n (by omega) (.cv ?_))
  rw [List.drop_eq_nil_of_le (by omega)]
  rfl
 | succ d ih =>
  intro i hi
  have h1:i<l.length:=by omega
  refine .s (qAI.l9_s · _ _) (.t (by omega) (.t (by omega) ?_))
  have ih:=ih (i+1) (by omega)
  rw [qFB l i h1 hl]at ih
  rw [List.drop_eq_getElem_cons h1,nth_get _ _ _ h1]
  have hj:∀ b:Bool,(b=true↔¬ (okN l[i]∧pre l i<l[i].f0))→Ev (fun k=>qAI.j49 k l (i:Int) b) (eno (rise (pre l i) (l[i] :: l.drop (i+1)))):=by
   intro b hb
   refine .s (qAI.j49_s · _ _ _) ?_
   simp only [rise]
   by_cases h:okN l[i]∧pre l i<l[i].f0
   ·refine .n (fun e=>(hb.1 e) h) ?_
    rw [w64n i (by omega),dT h,Bool.true_and]
    exact ih
   ·refine .t (hb.2 h) (.cv ?_)
    rw [dF h,Bool.false_and]
    rfl
  clear ih
  have hp0:i=0→pre l i=0:=fun e=>if_pos e
  have hp1:i≠0→(nth qA.z l (w64 ((i:Int) - 1))).f0=pre l i:=fun e=>(if_neg e).symm
  have hw:i≠0→w64 ((i:Int) - 1)=((i - 1:Nat):Int):=fun e=>w64p i (by omega) (by omega)
  unfold okN at hj
  generalize hv:eno (rise (pre l i) (l[i] :: l.drop (i+1)))=v at hj ⊢
  clear hv
  generalize pre l i=p at *
  generalize (nth qA.z l (w64 ((i:Int) - 1))).f0=q at *
  generalize l[i]=n at *
  repeat' (first | refine Ev.b0 (tin _ _ _) ?_ | refine Ev.i (fun _=>?_) (fun _=>?_))
  all_goals simp only [decide_eq_true_eq]at *
  all_goals first
   | exact hj _ (by simp only [decide_eq_true_eq,Bool.false_eq_true,true_iff,false_iff]; omega)
   | (exfalso; omega)
theorem check'(l:List qA):Ev (fun k=>qAI.f k l) (eno (decide (Nodes l))):=by
 unfold qAI.f
 refine .i (fun h=>.cv ?_) (fun h=>(qGZ l (by omega) l.length 0 (by omega)).v ?_)
 ·rw [dF (fun n:Nodes l=>by have:=n.1; omega)]
  rfl
 ·rw [show pre l 0=0 from rfl,List.drop_zero]
  congr 1
  rw [Bool.eq_iff_iff,decide_eq_true_eq]
  exact ⟨fun h0=>⟨by omega,h0⟩,fun n=>n.2⟩
theorem check(l:List qA)(_:l.length<4611686018427387904):Ev (fun k=>qAI.f k l) (eno (decide (Nodes l))):=check' l
theorem qHY(l:List qA)(hl:l.length<4611686018427387904):∀(d i:Nat),i+d=l.length→Ev (fun k=>qh.l5 k l (i:Int)) (rise (pre l i) (l.drop i)&&decide (l.length≤12)):=by
 intro d
 induction d with
 | zero =>
  intro i hi
  refine .s (qh.l5_s · _ _) (.n (by omega) (.cv ?_))
  rw [List.drop_eq_nil_of_le (by omega)]
  simp only [rise,Bool.true_and,decide_eq_decide]
  omega
 | succ d ih =>
  intro i hi
  have h1:i<l.length:=by omega
  refine .s (qh.l5_s · _ _) (.t (by omega) (.t (by omega) ?_))
  have ih:=ih (i+1) (by omega)
  rw [qFB l i h1 hl]at ih
  rw [List.drop_eq_getElem_cons h1,nth_get _ _ _ h1]
  have hj:∀ b:Bool,(b=true↔¬ (okN l[i]∧pre l i<l[i].f0))→Ev (fun k=>qh.j37 k l (i:Int) b) (rise (pre l i) (l[i] :: l.drop (i+1))&&decide (l.length≤12)):=by
   intro b hb
   refine .s (qh.j37_s · _ _ _) ?_
   simp only [rise]
   by_cases h:okN l[i]∧pre l i<l[i].f0
   ·refine .n (fun e=>(hb.1 e) h) ?_
    rw [w64n i (by omega),dT h,Bool.true_and]
    exact ih
   ·refine .t (hb.2 h) (.cv ?_)
    rw [dF h,Bool.false_and,Bool.false_and]
  clear ih
  have hp0:i=0→pre l i=0:=fun e=>if_pos e
  have hp1:i≠0→(nth qA.z l (w64 ((i:Int) - 1))).f0=pre l i:=fun e=>(if_neg e).symm
  have hw:i≠0→w64 ((i:Int) - 1)=((i - 1:Nat):Int):=fun e=>w64p i (by omega) (by omega)
  unfold okN at hj
  generalize hv:(rise (pre l i) (l[i] :: l.drop (i+1))&&decide (l.length≤12))=v at hj ⊢
  clear hv
  generalize pre l i=p at *
  generalize (nth qA.z l (w64 ((i:Int) - 1))).f0=q at *
  generalize l[i]=n at *
  repeat' (first | refine Ev.i (fun _=>?_) (fun _=>?_))
  all_goals first
   | exact hj _ (by simp only [decide_eq_true_eq,Bool.false_eq_true,true_iff,false_iff]; omega)
   | (exfalso; omega)
theorem may(l:List qA)(hl:l.length<4611686018427387904):Ev (fun k=>qh.f k l) (decide (Nodes l)):=by
 unfold qh.f
 refine (qHY l hl l.length 0 (by omega)).v ?_
 rw [show pre l 0=0 from rfl,List.drop_zero,Bool.eq_iff_iff,Bool.and_eq_true,decide_eq_true_eq,decide_eq_true_eq]
 exact And.comm
theorem qGa(l:List Int)(v:Int)(hl:l.length<4611686018427387904):∀(d i:Nat),i+d=l.length→∃ x,Ev (fun k=>qAB.l5 k l v (i:Int)) x∧(0≤x↔v ∈ l.drop i):=by
 intro d
 induction d with
 | zero =>
  intro i hi
  refine ⟨-1,.s (qAB.l5_s · _ _ _) (.n (by omega) (.c _)),?_⟩
  rw [List.drop_eq_nil_of_le (by omega)]
  simp
 | succ d ih =>
  intro i hi
  have h1:i<l.length:=by omega
  obtain ⟨x,hx,hm⟩:=ih (i+1) (by omega)
  by_cases h:v=l[i]
  ·refine ⟨i,.s (qAB.l5_s · _ _ _) (.t (by omega) (.t (by omega) (.t (by rw [nth_get _ _ _ h1]; exact h) (.c _)))),?_⟩
   rw [List.drop_eq_getElem_cons h1]
   exact ⟨fun _=>List.mem_cons.2 (.inl h),fun _=>by omega⟩
  ·refine ⟨x,.s (qAB.l5_s · _ _ _) (.t (by omega) (.t (by omega) (.n (by rw [nth_get _ _ _ h1]; exact h) ?_))),?_⟩
   ·rw [w64n i (by omega)]
    exact hx
   ·rw [List.drop_eq_getElem_cons h1,hm]
    exact ⟨fun m=>List.mem_cons.2 (.inr m),fun m=>(List.mem_cons.1 m).resolve_left h⟩
theorem contains(l:List Int)(v:Int)(hl:l.length<4611686018427387904):Ev (fun k=>qAU.f k l v) (decide (v ∈ l)):=by
 obtain ⟨x,hx,hm⟩:=qGa l v hl l.length 0 (by omega)
 unfold qAU.f qAB.f
 refine .b hx (.cv ?_)
 rw [decide_eq_decide]
 exact hm
end Topo
namespace Draw
theorem u64n(n:Nat)(h:n<18446744073709551616):IntKind.u64.wrap (n:Int)=n:=by rw [IntKind.wrap_u64]; omega
theorem qEi(a b:Nat)(ha:a<18446744073709551616)(hb:b<18446744073709551616):IntKind.u64.wrap (((BitVec.ofInt 64 (a:Int) ^^^ BitVec.ofInt 64 (b:Int)).toNat:Int))=((a ^^^ b:Nat):Int):=by
 have h:(BitVec.ofInt 64 (a:Int) ^^^ BitVec.ofInt 64 (b:Int)).toNat=a ^^^ b:=by
  rw [BitVec.toNat_xor,BitVec.ofInt_natCast,BitVec.ofInt_natCast,BitVec.toNat_ofNat,BitVec.toNat_ofNat,Nat.mod_eq_of_lt (by omega),Nat.mod_eq_of_lt (by omega)]
 rw [h,u64n _ (Mixn.xor_lt ha hb)]
theorem sh_i(x:Nat)(hx:x<18446744073709551616):IntKind.u64.wrap (((BitVec.ofInt 64 (x:Int) ^^^ BitVec.ofInt 64 ((x:Int).fdiv 4294967296)).toNat:Int))=((Mixn.sh x:Nat):Int):=by
 have e:(x:Int).fdiv 4294967296=((x / 4294967296:Nat):Int):=by rw [Int.fdiv_eq_ediv_of_nonneg _ (by omega)]; omega
 rw [e,qEi _ _ hx (by omega)]
 rfl
theorem mf_i(n:Nat):IntKind.u64.wrap ((n:Int) * 15485907386658061715)=((Mixn.mf n:Nat):Int):=by
 rw [IntKind.wrap_u64]
 rfl
theorem mix(x:Nat)(hx:x<18446744073709551616):Ev (fun k=>qBb.f k (x:Int)) ((Mixn.mix x:Nat):Int):=by
 unfold qBb.f
 refine .s (qBb.l6_s · _ _) (.t (by omega) ?_)
 rw [sh_i x hx,mf_i]
 refine .s (qBb.l6_s · _ _) (.t (by decide) ?_)
 rw [sh_i _ (Mixn.mf_lt _),mf_i]
 refine .s (qBb.l6_s · _ _) (.n (by decide) (.cv ?_))
 rw [sh_i _ (Mixn.mf_lt _)]
 rfl
theorem qGs(s n:Nat)(hs:s<18446744073709551616)(hn:n<18446744073709551616):IntKind.u64.wrap ((IntKind.u64.wrap (((BitVec.ofInt 64 (s:Int) ^^^ BitVec.ofInt 64 (n:Int)).toNat:Int)))+11400714819323198485)=((((s ^^^ n)+11400714819323198485) % 18446744073709551616:Nat):Int):=by
 rw [qEi _ _ hs hn,IntKind.wrap_u64]
 rfl
def ofN(l:List Nat):List Int:=l.map Int.ofNat
theorem qFq(l:List Nat)(i:Nat)(h:i<(ofN l).length):(ofN l)[i]=((l[i]'(by simpa [ofN] using h):Nat):Int):=by simp [ofN]
theorem qGb(l:List Nat)(hl:∀ x ∈ l,x<18446744073709551616)(hn:l.length<4611686018427387904):∀(d i s:Nat),i+d=l.length→s<18446744073709551616→Ev (fun k=>qBI.l10 k (ofN l) (s:Int) (i:Int)) (((l.drop i).foldl Mixn.step s:Nat):Int):=by
 have hlen:(ofN l).length=l.length:=List.length_map ..
 intro d
 induction d with
 | zero =>
  intro i s hi hs
  refine .s (qBI.l10_s · _ _ _) (.n (by omega) (.cv ?_))
  rw [List.drop_eq_nil_of_le (by omega)]
  rfl
 | succ d ih =>
  intro i s hi hs
  have h1:i<l.length:=by omega
  refine .s (qBI.l10_s · _ _ _) (.t (by omega) (.t (by omega) ?_))
  rw [nth_get _ _ _ (by omega),qFq,qGs s _ hs (hl _ (gM h1)),w64n i (by omega),List.drop_eq_getElem_cons h1]
  exact .b (mix _ (Nat.mod_lt _ (by decide))) (ih (i+1) _ (by omega) (Mixn.step_lt _ _))
theorem fold(s:Nat)(hs:s<18446744073709551616)(l:List Nat)(hl:∀ x ∈ l,x<18446744073709551616)(hn:l.length<4611686018427387904):Ev (fun k=>qBI.f k (s:Int) (ofN l)) ((Mixn.fold s l:Nat):Int):=by
 unfold qBI.f
 exact .b (mix s hs) (qGb l hl hn l.length 0 _ (by omega) (Mixn.mix_lt _))
theorem qGt(z:Nat)(hz:z≤2147483648):IntKind.u64.wrap (Int.tdiv (IntKind.u64.wrap ((z:Int) * (z:Int))) 2147483648)=((z * z / 2147483648:Nat):Int)∧z * z / 2147483648≤2147483648:=by
 have h1:z * z≤2147483648 * 2147483648:=Nat.mul_le_mul hz hz
 have h2:(2147483648:Nat) * 2147483648=4611686018427387904:=by decide
 rw [h2]at h1
 have e:(z:Int) * (z:Int)=((z * z:Nat):Int):=by rw [Int.natCast_mul]
 have h3:z * z / 2147483648≤2147483648:=by omega
 rw [e,u64n _ (by omega),Int.tdiv_eq_ediv_of_nonneg (Int.natCast_nonneg _)]
 have e2:((z * z:Nat):Int) / 2147483648=((z * z / 2147483648:Nat):Int):=by rw [Int.natCast_ediv]; rfl
 rw [e2,u64n _ (by omega)]
 exact ⟨rfl,h3⟩
theorem p16(i:Nat)(h:i≤16):2 ^ i≤65536:=Nat.le_trans (Nat.pow_le_pow_right (by decide) h) (by decide)
theorem qGc(c:Nat)(hc:c≤17):∀(d z f i:Nat),i+d=16→z≤2147483648→f<2 ^ i→Ev (fun k=>qAG.l31 k (c:Int) (z:Int) (f:Int) (i:Int)) ((c * 65536+Negn.bitsOf d z f:Nat):Int):=by
 intro d
 induction d with
 | zero =>
  intro z f i hi hz hf
  have hp:=p16 i (by omega)
  refine .s (qAG.l31_s · _ _ _ _) (.n (by omega) (.cv ?_))
  rw [qCQ (n:=(c:Int) * 65536) (by omega) (by omega),qCQ (by omega) (by omega)]
  rfl
 | succ d ih =>
  intro z f i hi hz hf
  have hp:=p16 i (by omega)
  have hp2:2 ^ (i+1)=2 * 2 ^ i:=by rw [Nat.pow_succ,Nat.mul_comm]
  obtain ⟨e1,h1⟩:=qGt z hz
  have w2:w64 ((f:Int) * 2)=((2 * f:Nat):Int):=by rw [qCQ (by omega) (by omega)]; omega
  have w3:w64 (((2 * f:Nat):Int)+1)=((2 * f+1:Nat):Int):=w64n _ (by omega)
  refine .s (qAG.l31_s · _ _ _ _) (.t (by omega) ?_)
  rw [e1,w2,w3,w64n i (by omega),Negn.bitsOf]
  clear w2 w3 e1
  generalize z * z / 2147483648=y at *
  by_cases cy:y≤1073741824
  ·have w4:IntKind.u64.wrap ((y:Int) * 2)=((2 * y:Nat):Int):=by rw [IntKind.wrap_u64]; omega
   rw [if_pos cy]
   refine .t (by omega) ?_
   rw [w4]
   exact ih (2 * y) (2 * f+1) (i+1) (by omega) (by omega) (by omega)
  ·rw [if_neg cy]
   exact .n (by omega) (ih y (2 * f) (i+1) (by omega) (by omega) (by omega))
theorem qGd:∀(d u c:Nat),32768<u * 2 ^ d→u≤65536→c+d≤16→Ev (fun k=>qAG.l17 k (u:Int) (c:Int)) ((c * 65536+Negn.cst (d+1) u:Nat):Int):=by
 have base:∀(u c n:Nat),32768<u→u≤65536→c≤16→Ev (fun k=>qAG.l17 k (u:Int) (c:Int)) ((c * 65536+Negn.cst (n+1) u:Nat):Int):=by
  intro u c n h h1 hc
  have w1:IntKind.u64.wrap (IntKind.u64.wrap (u:Int) * 32768)=((u * 32768:Nat):Int):=by rw [u64n _ (by omega),IntKind.wrap_u64]; omega
  refine .s (qAG.l17_s · _ _) (.n (by omega) ?_)
  rw [w1,Negn.cst_succ,if_neg (by omega)]
  exact qGc c (by omega) 16 (u * 32768) 0 0 (by omega) (by omega) (by decide)
 intro d
 induction d with
 | zero =>
  intro u c h h1 hc
  rw [Nat.pow_zero,Nat.mul_one]at h
  exact base u c 0 h h1 (by omega)
 | succ d ih =>
  intro u c h h1 hc
  by_cases cu:u≤32768
  ·have h2:u * 2 ^ (d+1)=2 * u * 2 ^ d:=by rw [Nat.pow_succ,Nat.mul_comm (2 ^ d) 2,← Nat.mul_assoc,Nat.mul_comm u 2]
   have w1:w64 ((u:Int) * 2)=((2 * u:Nat):Int):=by rw [qCQ (by omega) (by omega)]; omega
   refine .s (qAG.l17_s · _ _) (.t (by omega) ?_)
   rw [w1,w64n c (by omega),Negn.cst_succ,if_pos cu]
   have ih:=ih (2 * u) (c+1) (by omega) (by omega) (by omega)
   generalize Negn.cst (d+1) (2 * u)=y at *
   exact ih.v (congrArg Int.ofNat (by omega))
  ·exact base u c (d+1) (by omega) h1 (by omega)
def costI(a:Int):Int:=if 1≤a∧a≤65536 then ((Negn.cost a.toNat:Nat):Int) else 0
theorem cost(a:Int):Ev (fun k=>qAG.f k a) (costI a):=by
 have hbad:¬ (1≤a∧a≤65536)→Ev (fun k=>qAG.j6 k a true) (costI a):=fun h=>.s (qAG.j6_s · _ _) (.t rfl (.cv (if_neg h).symm))
 unfold qAG.f
 refine .i (fun h=>hbad (by omega)) (fun h=>?_)
 by_cases h2:a>65536
 ·rw [dT h2]
  exact hbad (by omega)
 ·rw [dF h2]
  obtain ⟨u,rfl⟩:∃ u:Nat,a=u:=⟨a.toNat,by omega⟩
  refine .s (qAG.j6_s · _ _) (.n (by decide) ((qGd 16 u 0 (by omega) (by omega) (by omega)).v ?_))
  rw [costI,if_pos ⟨by omega,by omega⟩,tN,Nat.zero_mul,Nat.zero_add]
  rfl
def un(a:Int):Nat:=(IntKind.u64.wrap a).toNat
theorem un_eq(a:Int):IntKind.u64.wrap a=(un a:Int)∧un a<18446744073709551616:=by
 unfold un
 rw [IntKind.wrap_u64]
 omega
def dc(key:Nat)(id:Int):Int:=costI (1+((Mixn.fold key [un id] / 281474976710656:Nat):Int))
theorem qDM(key:Nat)(id:Int):0≤dc key id∧dc key id≤1179648:=by
 unfold dc costI
 split
 ·exact ⟨by omega,by have:=Negn.cost_le (1+((Mixn.fold key [un id] / 281474976710656:Nat):Int)).toNat; omega⟩
 ·omega
theorem fold_lt(key:Nat)(n:Nat):Mixn.fold key [n] < 18446744073709551616:=by
 unfold Mixn.fold
 rw [List.foldl_cons,List.foldl_nil]
 exact Mixn.step_lt _ _
theorem dcost(key:Nat)(hkey:key<18446744073709551616)(id:Int):Ev (fun k=>qBp.f k (key:Int) id) (dc key id):=by
 have hlt:=fold_lt key (un id)
 have h1:=fold key hkey [un id] (fun x hx=>by rw [List.mem_singleton.1 hx]; exact (un_eq id).2) (by simp)
 unfold qBp.f
 rw [(un_eq id).1]
 refine .b h1 ?_
 have e:((Mixn.fold key [un id]:Nat):Int).fdiv 281474976710656=((Mixn.fold key [un id] / 281474976710656:Nat):Int):=by rw [Int.fdiv_eq_ediv_of_nonneg _ (by omega)]; omega
 rw [e,qCQ (n:=((Mixn.fold key [un id] / 281474976710656:Nat):Int)) (by omega) (by omega),qCQ (by omega) (by omega)]
 exact .b (cost _) (.c _)
theorem nin(x:Int):qBY.f x=some (decide (0≤x∧x≤2147483647)):=by
 unfold qBY.f
 by_cases h:x≥0
 ·rw [if_pos h]
  congr 1
  rw [decide_eq_decide]
  omega
 ·rw [if_neg h,dF (by omega)]
theorem qEA{a b:Int}(h0:0≤a)(h1:a≤1179648)(h2:0≤b)(h3:b≤65536):w64 (a * b)=a * b:=by
 have h4:0≤a * b:=Int.mul_nonneg h0 h2
 have h5:a * b≤1179648 * 65536:=Int.mul_le_mul h1 h3 h2 (by omega)
 generalize a * b=p at h4 h5 ⊢
 exact qCQ (by omega) (by omega)
theorem better{a b c d:Int}(ha:0≤a∧a≤1179648)(hb:1≤b∧b≤65536)(hc:0≤c∧c≤1179648)(hd:1≤d∧d≤65536):qBM.f a b c d=some (decide (a * d<c * b)):=by
 unfold qBM.f
 rw [nin,nin,nin,nin,dT (show 0≤a∧a≤2147483647 by omega),dT (show 0≤b∧b≤2147483647 by omega),dT (show 0≤c∧c≤2147483647 by omega),dT (show 0≤d∧d≤2147483647 by omega)]
 simp only [Option.bind_some,if_true]
 rw [if_pos (by omega),if_pos (by omega),qEA ha.1 ha.2 (by omega) hd.2,qEA hc.1 hc.2 (by omega) hb.2]
def cmpD(key:Nat)(x y:qB):Int:=if dc key x.f0 * y.f1<dc key y.f0 * x.f1 then -1 else if dc key y.f0 * x.f1<dc key x.f0 * y.f1 then 1 else x.f0 - y.f0
def fineC(x:qB):Prop:=(0≤x.f0∧x.f0≤2147483647)∧1≤x.f1∧x.f1≤65536
theorem compare(key:Nat)(hkey:key<18446744073709551616)(x y:qB)(hx:fineC x)(hy:fineC y):Ev (fun k=>qBd.f k (key:Int) x y) (cmpD key x y):=by
 unfold qBd.f cmpD
 refine .b (dcost key hkey _) (.b (dcost key hkey _) ?_)
 have bx:=qDM key x.f0
 have bY:=qDM key y.f0
 have e1:=better bx hx.2 bY hy.2
 have e2:=better bY hy.2 bx hx.2
 have hx1:=hx.1
 have hy1:=hy.1
 refine .b0 e1 ?_
 by_cases h1:dc key x.f0 * y.f1<dc key y.f0 * x.f1
 ·rw [if_pos h1]
  exact .t (dT h1) (.c _)
 ·rw [if_neg h1]
  refine .n (by simpa using h1) (.b0 e2 ?_)
  by_cases h2:dc key y.f0 * x.f1<dc key x.f0 * y.f1
  ·rw [if_pos h2]
   exact .t (dT h2) (.c _)
  ·rw [if_neg h2]
   exact .n (by simpa using h2) (.cv (qCQ (by omega) (by omega)))
theorem qGe{a b c d e f:Int}(hb:0<b)(hd:0<d)(hf:0<f)(h1:a * d≤c * b)(h2:c * f≤e * d):a * f≤e * b:=by
 have h3:=Int.mul_le_mul_of_nonneg_right h1 (Int.le_of_lt hf)
 have h4:=Int.mul_le_mul_of_nonneg_right h2 (Int.le_of_lt hb)
 refine Int.le_of_mul_le_mul_right (a:=d) ?_ hd
 rw [Int.mul_right_comm a f d,Int.mul_right_comm e b d]
 rw [Int.mul_right_comm c b f]at h3
 exact Int.le_trans h3 h4
theorem qDA{a b c d e f:Int}(hb:0<b)(hd:0<d)(hf:0<f)(h1:a * d<c * b)(h2:c * f≤e * d):a * f<e * b:=by
 have h3:=Int.mul_lt_mul_of_pos_right h1 hf
 have h4:=Int.mul_le_mul_of_nonneg_right h2 (Int.le_of_lt hb)
 refine Int.lt_of_mul_lt_mul_right (a:=d) ?_ (Int.le_of_lt hd)
 rw [Int.mul_right_comm a f d,Int.mul_right_comm e b d]
 rw [Int.mul_right_comm c b f]at h3
 exact Int.lt_of_lt_of_le h3 h4
theorem qDc{a b c d e f:Int}(hb:0<b)(hd:0<d)(hf:0<f)(h1:a * d≤c * b)(h2:c * f<e * d):a * f<e * b:=by
 have h3:=Int.mul_le_mul_of_nonneg_right h1 (Int.le_of_lt hf)
 have h4:=Int.mul_lt_mul_of_pos_right h2 hb
 refine Int.lt_of_mul_lt_mul_right (a:=d) ?_ (Int.le_of_lt hd)
 rw [Int.mul_right_comm a f d,Int.mul_right_comm e b d]
 rw [Int.mul_right_comm c b f]at h3
 exact Int.lt_of_le_of_lt h3 h4
def ltD(key:Nat)(x y:qB):Prop:=dc key x.f0 * y.f1<dc key y.f0 * x.f1∨(dc key x.f0 * y.f1≤dc key y.f0 * x.f1∧x.f0<y.f0)
theorem qHI(key:Nat)(x y:qB):cmpD key x y<0↔ltD key x y:=by
 unfold cmpD ltD
 generalize dc key x.f0 * y.f1=a
 generalize dc key y.f0 * x.f1=b
 by_cases h1:a<b
 ·rw [if_pos h1]
  exact ⟨fun _=>.inl h1,fun _=>by omega⟩
 ·rw [if_neg h1]
  by_cases h2:b<a
  ·rw [if_pos h2]
   exact ⟨fun h=>by omega,fun h=>by omega⟩
  ·rw [if_neg h2]
   exact ⟨fun h=>.inr ⟨by omega,by omega⟩,fun h=>by omega⟩
theorem qCu(key:Nat)(x:qB):¬ ltD key x x:=fun h=>by
 unfold ltD at h
 omega
theorem qCl{key:Nat}{x y z:qB}(hx:fineC x)(hy:fineC y)(hz:fineC z)(h1:ltD key x y)(h2:ltD key y z):ltD key x z:=by
 have b1:0<x.f1:=by have:=hx.2; omega
 have b2:0<y.f1:=by have:=hy.2; omega
 have b3:0<z.f1:=by have:=hz.2; omega
 rcases h1 with h1 | ⟨h1,i1⟩
 ·rcases h2 with h2 | ⟨h2,i2⟩
  ·exact .inl (qDA b1 b2 b3 h1 (Int.le_of_lt h2))
  ·exact .inl (qDA b1 b2 b3 h1 h2)
 ·rcases h2 with h2 | ⟨h2,i2⟩
  ·exact .inl (qDc b1 b2 b3 h1 h2)
  ·exact .inr ⟨qGe b1 b2 b3 h1 h2,Int.lt_trans i1 i2⟩
theorem qDB(key:Nat)(x y:qB)(h:x.f0≠y.f0):ltD key x y∨ltD key y x:=by
 unfold ltD
 omega
theorem qGu{α β : Type}(f:Nat→α→Option β)(v : α→β):∀ l:List α,(∀ x ∈ l,Ev (fun k=>f k x) (v x))→∃ K,∀ k,K≤k→∀ x ∈ l,f k x=some (v x)
 | [],_=>⟨0,fun _ _ _ h=>nomatch h⟩
 | x :: l,h=>by
  obtain ⟨K,hK⟩:=h x List.mem_cons_self
  obtain ⟨L,hL⟩:=qGu f v l (fun y m=>h y (List.mem_cons_of_mem _ m))
  refine ⟨K+L,fun k hk y hy=>?_⟩
  rcases List.mem_cons.1 hy with rfl | hy
  ·exact hK k (by omega)
  ·exact hL k (by omega) y hy
def fineL(l:List qB):Prop:=(∀ x ∈ l,fineC x)∧∀ x ∈ l,∀ y ∈ l,x.f0=y.f0→x=y
instance (key:Nat) (x y:qB):Decidable (ltD key x y):=inferInstanceAs (Decidable (_∨_))
def ltB(key:Nat)(x y:qB):Bool:=decide (ltD key x y)
theorem qDC{α : Type}(f g : α→α→Bool)(x : α):∀ l:List α,(∀ y ∈ l,f x y=g x y)→insertL f x l=insertL g x l
 | [],_=>rfl
 | y :: r,h=>by
  rw [insertL,insertL,h y List.mem_cons_self,qDC f g x r (fun z m=>h z (List.mem_cons_of_mem _ m))]
theorem qDV{α : Type}(f g : α→α→Bool):∀ l:List α,(∀ x ∈ l,∀ y ∈ l,f x y=g x y)→sortL f l=sortL g l
 | [],_=>rfl
 | x :: r,h=>by
  have ih:=qDV f g r (fun a ha b hb=>h a (List.mem_cons_of_mem _ ha) b (List.mem_cons_of_mem _ hb))
  rw [sortL,sortL,ih]
  exact qDC f g x _ (fun y hy=>h x List.mem_cons_self y (List.mem_cons_of_mem _ ((qCf _ _).1 hy)))
set_option maxHeartbeats 4000000 in
theorem sorts(key:Nat)(hkey:key<18446744073709551616)(l:List qB)(hf:fineL l)(hl:l.length≤1000000):Ev (fun k=>qV.f k l (key:Int)) (sortL (ltB key) l):=by
 have hc:∀ p ∈ l.flatMap (fun x=>l.map (fun y=>(x,y))),Ev (fun k=>qV.cmp k (key:Int) p.1 p.2) (cmpD key p.1 p.2):=by
  intro p hp
  obtain ⟨x,hx,hp⟩:=List.mem_flatMap.1 hp
  obtain ⟨y,hy,rfl⟩:=List.mem_map.1 hp
  unfold qV.cmp qBi.f
  exact .b (compare key hkey x y (hf.1 x hx) (hf.1 y hy)) (.c _)
 obtain ⟨K,hK⟩:=qGu (fun k (p:qB × qB)=>qV.cmp k (key:Int) p.1 p.2) (fun p=>cmpD key p.1 p.2) _ hc
 refine ⟨K,fun k hk=>?_⟩
 have hK:∀ x ∈ l,∀ y ∈ l,qV.cmp k (key:Int) x y=some (cmpD key x y):=by
  intro x hx y hy
  have hm:(x,y) ∈ l.flatMap (fun x=>l.map (fun y=>(x,y))):=List.mem_flatMap.2 ⟨x,hx,List.mem_map.2 ⟨y,hy,rfl⟩⟩
  have h:=hK k hk (x,y) hm
  dsimp only at h
  exact h
 have hlt:∀ x ∈ l,∀ y ∈ l,ltO (qV.cmp k (key:Int)) x y=ltB key x y:=by
  intro x hx y hy
  unfold ltO ltB
  rw [hK x hx y hy,Option.getD_some,decide_eq_decide]
  exact qHI key x y
 have hok:okSort (qV.cmp k (key:Int)) l=true:=?_
 ·show sortO (qV.cmp k (key:Int)) l=_
  unfold sortO
  rw [if_pos ⟨hok,hl⟩,qDV _ _ l hlt]
 unfold okSort
 simp only [Bool.and_eq_true,List.all_eq_true]
 refine ⟨⟨⟨?_,?_⟩,?_⟩,?_⟩
 ·intro x hx y hy
  rw [hK x hx y hy]
  rfl
 ·intro x hx
  rw [hlt x hx x hx,ltB,dF (qCu key x)]
  rfl
 ·intro x hx y hy z hz
  rw [hlt x hx y hy,hlt y hy z hz,hlt x hx z hz]
  unfold ltB
  by_cases h1:ltD key x y
  ·by_cases h2:ltD key y z
   ·simp [h1,h2,qCl (hf.1 x hx) (hf.1 y hy) (hf.1 z hz) h1 h2]
   ·simp [h1,h2]
  ·by_cases h2:ltD key y z
   ·simp [h1,h2]
   ·have h3:¬ ltD key x z:=by
     intro h3
     by_cases hxy:x.f0=y.f0
     ·exact h2 (hf.2 x hx y hy hxy ▸ h3)
     ·rcases qDB key x y hxy with h | h
      ·exact h1 h
      ·exact h2 (qCl (hf.1 y hy) (hf.1 x hx) (hf.1 z hz) h h3)
    simp [h1,h2,h3]
 ·intro x hx y hy
  rw [hlt x hx y hy,hlt y hy x hx]
  unfold ltB
  by_cases hxy:x.f0=y.f0
  ·simp [hf.2 x hx y hy hxy]
  ·rcases qDB key x y hxy with h | h
   ·simp [h]
   ·simp [h]
structure Chs (l:List qB):Prop where
 len:l.length≤64
 ok:∀ x ∈ l,(0≤x.f0∧x.f0≤2147483647)∧0≤x.f1∧x.f1≤65536
 up:l.Pairwise (fun x y=>x.f0<y.f0)
theorem qFr(l:List qB)(h:Chs l):∀(d i:Nat),i+d=l.length→Ev (fun k=>qAg.l9 k l (i:Int)) 0:=by
 have hl:=h.len
 intro d
 induction d with
 | zero=>exact fun i hi=>.s (qAg.l9_s · _ _) (.n (by omega) (.c _))
 | succ d ih =>
  intro i hi
  have h1:i<l.length:=by omega
  have hok:=h.ok _ (gM h1)
  have hj:Ev (fun k=>qAg.j37 k l (i:Int) false) 0:=by
   refine .s (qAg.j37_s · _ _ _) (.n (by decide) ?_)
   rw [w64n i (by omega)]
   exact ih (i+1) (by omega)
  refine .s (qAg.l9_s · _ _) (.t (by omega) (.t (by omega) ?_))
  rw [nth_get _ _ _ h1]
  refine .n (by omega) (.n (by omega) (.n (by omega) (.n (by omega) (.i (fun h0=>?_) (fun _=>hj)))))
  rw [w64p i (by omega) (by omega)]
  refine .t (by omega) ?_
  rw [nth_get _ _ _ (by omega),dF]
  ·exact hj
  ·have:=List.pairwise_iff_getElem.1 h.up (i - 1) i (by omega) h1 (by omega)
   omega
theorem dcheck(l:List qB)(h:Chs l):Ev (fun k=>qAg.f k l) 0:=by
 have hl:=h.len
 unfold qAg.f
 exact .n (by omega) (qFr l h l.length 0 (by omega))
def heavy(l:List qB):List qB:=l.filter (fun x => !(x.f1 == 0))
theorem qDG{l:List qB}(h:Chs l):fineL (heavy l):=by
 refine ⟨fun x hx=>?_,fun x hx y hy e=>?_⟩
 ·obtain ⟨h1,h2⟩:=List.mem_filter.1 hx
  have:=h.ok x h1
  have h3:x.f1≠0:=by simpa using h2
  exact ⟨this.1,by omega,this.2.2⟩
 ·have hx:=(List.mem_filter.1 hx).1
  have hy:=(List.mem_filter.1 hy).1
  obtain ⟨i,hi,rfl⟩:=List.getElem_of_mem hx
  obtain ⟨j,hj,rfl⟩:=List.getElem_of_mem hy
  have hup:=List.pairwise_iff_getElem.1 h.up
  rcases Nat.lt_trichotomy i j with c | c | c
  ·have:=hup i j hi hj c
   omega
  ·subst c; rfl
  ·have:=hup j i hj hi c
   omega
theorem index0(l:List qB)(hl:l.length≤64):∀(d i:Nat),i+d=l.length→heavy (l.take i)=l.take i→(heavy l=l∧Ev (fun k=>qJ.l5 k l (i:Int)) (-1))∨∃ n:Nat,n<l.length∧heavy (l.take n)=l.take n∧(∀ h:n<l.length,l[n].f1=0)∧Ev (fun k=>qJ.l5 k l (i:Int)) (n:Int):=by
 intro d
 induction d with
 | zero =>
  intro i hi ht
  rw [List.take_of_length_le (by omega)]at ht
  exact .inl ⟨ht,.s (qJ.l5_s · _ _) (.n (by omega) (.c _))⟩
 | succ d ih =>
  intro i hi ht
  have h1:i<l.length:=by omega
  by_cases h0:l[i].f1=0
  ·refine .inr ⟨i,h1,ht,fun _=>h0,.s (qJ.l5_s · _ _) (.t (by omega) (.t (by omega) ?_))⟩
   rw [nth_get _ _ _ h1]
   exact .b0 (a:=true) (congrArg some (by simpa using h0)) (.t rfl (.c _))
  ·have hs:Ev (fun k=>qJ.l5 k l ((i+1:Nat):Int))=fun v=>Ev (fun k=>qJ.l5 k l ((i+1:Nat):Int)) v:=rfl
   have go:∀ v,Ev (fun k=>qJ.l5 k l ((i+1:Nat):Int)) v→Ev (fun k=>qJ.l5 k l (i:Int)) v:=by
    intro v hv
    refine .s (qJ.l5_s · _ _) (.t (by omega) (.t (by omega) ?_))
    rw [nth_get _ _ _ h1,w64n i (by omega)]
    exact .b0 (a:=false) (congrArg some (by simpa using h0)) (.n (by decide) hv)
   have ht':heavy (l.take (i+1))=l.take (i+1):=by
    rw [List.take_add_one,List.getElem?_eq_getElem h1,Option.toList_some]
    unfold heavy at ht ⊢
    rw [List.filter_append,ht]
    simp [h0]
   rcases ih (i+1) (by omega) ht' with ⟨a,b⟩ | ⟨n,a,b,c,e⟩
   ·exact .inl ⟨a,go _ b⟩
   ·exact .inr ⟨n,a,b,c,go _ e⟩
theorem qFM(l:List qB)(hl:l.length≤64):∀(d i n:Nat)(q:List qB),i+d=l.length→n<i→q.length=l.length→q.take n=heavy (l.take i)→q.drop i=l.drop i→Ev (fun k=>qM.l15 k l q (n:Int) (i:Int)) (heavy l):=by
 intro d
 induction d with
 | zero =>
  intro i n q hi hn hq ht hd
  refine .s (qM.l15_s · _ _ _ _) (.n (by omega) (.t (by omega) (.cv ?_)))
  rw [List.take_of_length_le (by omega:l.length≤i)]at ht
  rw [← ht]
  have hlen:(q.take n).length=n:=by rw [List.length_take]; omega
  simp only [cutl,tN,Int.toNat_zero,List.drop_zero]
  rw [List.take_append_of_le_length (by omega),List.take_of_length_le (by omega)]
 | succ d ih =>
  intro i n q hi hn hq ht hd
  have h1:i<l.length:=by omega
  have h2:i<q.length:=by omega
  have hd2:q[i]=l[i]∧q.drop (i+1)=l.drop (i+1):=by
   rw [List.drop_eq_getElem_cons h1,List.drop_eq_getElem_cons h2]at hd
   exact ⟨(List.cons.inj hd).1,(List.cons.inj hd).2⟩
  have hh:heavy (l.take (i+1))=heavy (l.take i)++(if l[i].f1=0 then [] else [l[i]]):=by
   rw [List.take_add_one,List.getElem?_eq_getElem h1,Option.toList_some]
   unfold heavy
   rw [List.filter_append]
   by_cases c:l[i].f1=0
   ·simp [c]
   ·simp [c]
  refine .s (qM.l15_s · _ _ _ _) (.t (by omega) (.t (by omega) ?_))
  rw [nth_get _ _ _ h2,hd2.1,w64n i (by omega),w64n n (by omega)]
  by_cases h0:l[i].f1=0
  ·refine .b0 (a:=true) (congrArg some (by simpa using h0)) (.t rfl (ih (i+1) n q (by omega) (by omega) hq ?_ hd2.2))
   rw [hh,if_pos h0,List.append_nil,ht]
  ·refine .b0 (a:=false) (congrArg some (by simpa using h0)) (.n (by decide) (.t (by omega) (ih (i+1) (n+1) _ (by omega) (by omega) (by rw [List.length_set]; exact hq) ?_ ?_)))
   ·rw [hh,if_neg h0,← ht,tN,List.take_add_one,List.take_set_of_le (by omega),List.getElem?_set_self (by omega)]
    rfl
   ·rw [tN,List.drop_set_of_lt (by omega)]
    exact hd2.2
theorem delete(l:List qB)(hl:l.length≤64):Ev (fun k=>qM.f k l) (heavy l):=by
 unfold qM.f qJ.f
 rcases index0 l hl l.length 0 (by omega) rfl with ⟨a,b⟩ | ⟨n,a,b,c,e⟩
 ·exact .b b (.t rfl (.cv a.symm))
 ·refine .b e (.n (by omega) ?_)
  rw [w64n n (by omega)]
  refine qFM l hl (l.length - (n+1)) (n+1) n l (by omega) (by omega) rfl ?_ rfl
  rw [List.take_add_one,List.getElem?_eq_getElem a,Option.toList_some,← b]
  unfold heavy
  rw [List.filter_append,List.filter_filter]
  simp [c a]
def ord(key:Nat)(l:List qB):List qB:=sortL (ltB key) (heavy l)
theorem qFs(t22 t33:List qB)(he:t33.length=t22.length)(hl:t22.length≤64):∀(d i:Nat),i+d=t22.length→Ev (fun k=>qBA.l44 k t22 t33 ((t33.take i).map (fun x=>x.f0)) (i:Int)) (t33.map (fun x=>x.f0)):=by
 intro d
 induction d with
 | zero =>
  intro i hi
  refine .s (qBA.l44_s · _ _ _ _) (.n (by omega) (.cv ?_))
  rw [List.take_of_length_le (by omega)]
 | succ d ih =>
  intro i hi
  have h1:i<t33.length:=by omega
  refine .s (qBA.l44_s · _ _ _ _) (.t (by omega) (.t (by omega) (.t (by rw [List.length_map,List.length_take]; omega) ?_)))
  rw [nth_get _ _ _ h1,w64n i (by omega)]
  have ih:=ih (i+1) (by omega)
  rw [List.take_add_one,List.getElem?_eq_getElem h1,Option.toList_some,List.map_append]at ih
  exact ih
theorem order(key:Nat)(hkey:key<18446744073709551616)(l:List qB)(h:Chs l):Ev (fun k=>qBA.f k (key:Int) l) ((ord key l).map (fun x=>x.f0)):=by
 have hl:=h.len
 have hh:(heavy l).length≤l.length:=List.length_filter_le _ _
 unfold qBA.f
 refine .b (dcheck l h) (.t rfl (.b0 (a:=l) ?_ (.b (delete l hl) (.b (sorts key hkey _ (qDG h) (by omega)) ?_))))
 ·unfold qAV.f
  rw [if_pos]
  ·rfl
  ·simp only [List.length_nil]
   omega
 ·exact qFs _ _ (qCj _ _) (by omega) (heavy l).length 0 (by omega)
def isBest(key:Nat)(l:List qB)(m:qB):Prop:=m ∈ heavy l∧∀ y ∈ heavy l,y=m∨ltD key m y
theorem qFN(l:List qB)(x:qB):heavy (l++[x])=heavy l++(if x.f1=0 then [] else [x]):=by
 unfold heavy
 rw [List.filter_append]
 by_cases c:x.f1=0
 ·simp [c]
 ·simp [c]
theorem qDn(l:List qB)(i:Nat)(h:i<l.length):heavy (l.take (i+1))=heavy (l.take i)++(if l[i].f1=0 then [] else [l[i]]):=by
 rw [List.take_add_one,List.getElem?_eq_getElem h,Option.toList_some,qFN]
theorem qDJ(l:List qB)(p:qB→Bool):heavy (l.filter p)=(heavy l).filter p:=by
 unfold heavy
 rw [List.filter_filter,List.filter_filter]
 congr 1
 funext x
 exact Bool.and_comm _ _
theorem qEB:∀(l:List qB)(m:qB),l.Pairwise (fun x y=>x.f0<y.f0)→m ∈ l→l.Perm (m :: l.filter (fun x => !(x.f0 == m.f0)))
 | [],_,_,h=>nomatch h
 | x :: r,m,hp,h=>by
  obtain ⟨h1,h2⟩:=List.pairwise_cons.1 hp
  rcases List.mem_cons.1 h with rfl | h
  ·rw [List.filter_cons_of_neg (by simp)]
   have e:r.filter (fun x => !(x.f0 == m.f0))=r:=List.filter_eq_self.2 (fun y hy=>by have:=h1 y hy; simp; omega)
   rw [e]
  ·have hlt:=h1 m h
   rw [List.filter_cons_of_pos (by simp; omega)]
   exact ((qEB r m h2 h).cons x).trans (List.Perm.swap m x _)
theorem heavy_up{l:List qB}(h:Chs l):(heavy l).Pairwise (fun x y=>x.f0<y.f0):=h.up.filter _
theorem qGv(key:Nat)(l:List qB)(hf:fineL l):SWOn (fun x=>x ∈ l) (ltB key):=by
 refine ⟨fun x hx=>dF (qCu key x),fun x y z hx hy hz h1 h2=>dT (qCl (hf.1 x hx) (hf.1 y hy) (hf.1 z hz) (oT h1) (oT h2)),fun x y z hx hy hz h1 h2=>dF (fun h3=>?_)⟩
 have h1:=of_decide_eq_false h1
 have h2:=of_decide_eq_false h2
 by_cases hxy:x.f0=y.f0
 ·exact h2 (hf.2 x hx y hy hxy ▸ h3)
 ·rcases qDB key x y hxy with h | h
  ·exact h1 h
  ·exact h2 (qCl (hf.1 y hy) (hf.1 x hx) (hf.1 z hz) h h3)
theorem qFO(key:Nat){l:List qB}(h:Chs l){m:qB}(hb:isBest key l m):ord key l=m :: ord key (l.filter (fun x => !(x.f0 == m.f0))):=by
 have hf:=qDG h
 unfold ord
 rw [qDJ]
 have hp:=qEB (heavy l) m (heavy_up h) hb.1
 have hsub:∀ y ∈ (heavy l).filter (fun x => !(x.f0 == m.f0)),y ∈ heavy l:=fun y hy=>(List.mem_filter.1 hy).1
 refine List.Perm.eq_of_pairwise (le:=fun a b=>ltB key b a=false) ?_ (qCi (qGv key _ hf) _ (fun y hy=>hy)) (List.pairwise_cons.2 ⟨fun y hy=>?_,?_⟩) ?_
 ·intro a b ha hb' h1 h2
  have ha:a ∈ heavy l:=(qCf _ _).1 ha
  have hb2:b ∈ heavy l:=by
   rcases List.mem_cons.1 hb' with rfl | hb'
   ·exact hb.1
   ·exact hsub _ ((qCf _ _).1 hb')
  by_cases e:a.f0=b.f0
  ·exact hf.2 a ha b hb2 e
  ·rcases qDB key a b e with c | c
   ·exact absurd c (of_decide_eq_false h2)
   ·exact absurd c (of_decide_eq_false h1)
 ·have hy:=hsub _ ((qCf _ _).1 hy)
  refine dF (fun c=>?_)
  rcases hb.2 y hy with rfl | d
  ·exact qCu key _ c
  ·exact qCu key _ (qCl (hf.1 m hb.1) (hf.1 y hy) (hf.1 m hb.1) d c)
 ·exact qCi (qGv key _ hf) _ hsub
 ·exact (qCc _ _).trans (hp.trans ((qCc _ _).symm.cons m))
theorem Chs.filter{l:List qB}(h:Chs l)(p:qB→Bool):Chs (l.filter p) :=
 ⟨Nat.le_trans (List.length_filter_le _ _) h.len,fun x hx=>h.ok x (List.mem_filter.1 hx).1,h.up.filter _⟩
end Draw
namespace Topo
def weight(n:qA):Int:=if n.f5=true then n.f3 else 0
def addW(id w:Int):List qB→List qB
 | []=>[⟨id,w⟩]
 | c :: r=>if c.f0<id then c :: addW id w r else if c.f0=id then ⟨id,if c.f1+w<65536 then c.f1+w else 65536⟩ :: r else ⟨id,w⟩ :: c :: r
def wOne(is:qA→Bool)(of:qA→Int)(v:List qB)(n:qA):List qB:=if is n=true then addW (of n) (weight n) v else v
def wL(is:qA→Bool)(of:qA→Int)(l:List qA):List qB:=l.foldl (wOne is of) []
def posn(id:Int):List qB→Nat
 | []=>0
 | c :: r=>if c.f0<id then posn id r+1 else 0
theorem qEj(id:Int):∀ l:List qB,posn id l≤l.length
 | []=>Nat.le_refl _
 | c :: r=>by
  unfold posn
  have:=qEj id r
  rw [List.length_cons]
  split <;> omega
theorem qFt(id:Int):∀(l:List qB)(i:Nat)(h:i<l.length),i<posn id l→l[i].f0<id
 | [],_,h,_=>nomatch h
 | c :: r,i,h,hi=>by
  unfold posn at hi
  split at hi
  ·cases i with
   | zero=>assumption
   | succ i=>exact qFt id r i (by simpa using h) (by omega)
  ·omega
theorem qEk(id:Int):∀(l:List qB),l.Pairwise (fun x y=>x.f0<y.f0)→∀(i:Nat)(h:i<l.length),posn id l≤i→id≤l[i].f0
 | [],_,_,h,_=>nomatch h
 | c :: r,hp,i,h,hi=>by
  obtain ⟨h1,h2⟩:=List.pairwise_cons.1 hp
  unfold posn at hi
  split at hi
  ·cases i with
   | zero=>omega
   | succ i=>exact qEk id r h2 i (by simpa using h) (by omega)
  ·cases i with
   | zero=>rename_i hc; exact Int.not_lt.1 hc
   | succ i =>
    rename_i hc
    have hr:i<r.length:=by simpa using h
    have:=h1 _ (gM hr)
    show id≤r[i].f0
    omega
theorem cmpi(a b:Int):qAn.f a b=some (if a<b then -1 else if a>b then 1 else 0):=by
 unfold qAn.f qBL.f
 simp only [beq_self_eq_true,Bool.not_true,Option.bind_some,Bool.false_eq_true,if_false]
 by_cases h:a<b
 ·rw [if_pos h,if_pos h]
 ·rw [if_neg h,if_neg h]
  by_cases h2:a>b
  ·rw [if_pos h2,if_pos h2]
  ·rw [if_neg h2,if_neg h2]
theorem mid(a b:Nat)(h:a+b<4611686018427387904):w64 ((IntKind.u64.wrap (w64 ((a:Int)+b))).fdiv 2)=((a+b) / 2:Nat):=by
 have e:w64 ((a:Int)+b)=((a+b:Nat):Int):=by rw [qCQ (by omega) (by omega)]; omega
 have e2:IntKind.u64.wrap ((a+b:Nat):Int)=((a+b:Nat):Int):=by rw [IntKind.wrap_u64]; omega
 rw [e,e2,Int.fdiv_eq_ediv_of_nonneg _ (by omega),qCQ (by omega) (by omega)]
 omega
theorem qFu(l:List qB)(id:Int)(hl:l.length<1000000)(hp:l.Pairwise (fun x y=>x.f0<y.f0)):∀(d a b:Nat),b - a≤d→a≤posn id l→posn id l≤b→b≤l.length→Ev (fun k=>qG.l7 k l id (a:Int) (b:Int)) ((posn id l:Int),match l[posn id l]? with
  | some c=>c.f0 == id
  | none=>false):=by
 intro d
 induction d with
 | zero =>
  intro a b hd h1 h2 h3
  obtain rfl:a=b:=by omega
  obtain rfl:a=posn id l:=by omega
  refine .s (qG.l7_s · _ _ _ _) (.n (by omega) ?_)
  by_cases h4:posn id l<l.length
  ·refine .t (by omega) (.t (by omega) ?_)
   rw [nth_get _ _ _ h4,List.getElem?_eq_getElem h4]
   refine .b0 (a:=if l[posn id l].f0<id then -1 else if l[posn id l].f0>id then 1 else 0) ?_ (.cv ?_)
   ·unfold qBS.f
    rw [cmpi]
    rfl
   ·have:=qEk id l hp _ h4 (Nat.le_refl _)
    by_cases h5:l[posn id l].f0=id
    ·simp [h5]
    ·rw [if_neg (by omega),if_pos (by omega)]
     simp [h5]
  ·rw [List.getElem?_eq_none (by omega)]
   exact .n (by omega) (.c _)
 | succ d ih =>
  intro a b hd h1 h2 h3
  by_cases hab:a<b
  ·refine .s (qG.l7_s · _ _ _ _) (.t (by omega) ?_)
   rw [mid a b (by omega)]
   have h4:(a+b) / 2<l.length:=by omega
   refine .t (by omega) ?_
   rw [nth_get _ _ _ h4]
   refine .b0 (a:=if l[(a+b) / 2].f0<id then -1 else if l[(a+b) / 2].f0>id then 1 else 0) ?_ ?_
   ·unfold qBS.f
    rw [cmpi]
    rfl
   ·by_cases h5:l[(a+b) / 2].f0<id
    ·rw [if_pos h5,w64n _ (by omega)]
     refine .t (by decide) (ih _ _ (by omega) ?_ h2 h3)
     rcases Nat.lt_or_ge ((a+b) / 2) (posn id l) with c | c
     ·omega
     ·have:=qEk id l hp _ h4 c
      omega
    ·rw [if_neg h5]
     refine .n (by split <;> decide) (ih _ _ (by omega) h1 ?_ (by omega))
     rcases Nat.lt_or_ge ((a+b) / 2) (posn id l) with c | c
     ·exact absurd (qFt id l _ h4 c) h5
     ·exact c
  ·exact ih a b (by omega) h1 h2 h3
theorem search(l:List qB)(id:Int)(hl:l.length<1000000)(hp:l.Pairwise (fun x y=>x.f0<y.f0)):Ev (fun k=>qG.f k l id) ((posn id l:Int),match l[posn id l]? with
  | some c=>c.f0 == id
  | none=>false):=qFu l id hl hp l.length 0 l.length (by omega) (by omega) (qEj id l) (Nat.le_refl _)
theorem qFC(id w:Int):∀(l:List qB)(h:posn id l<l.length),l[posn id l].f0=id→addW id w l=l.set (posn id l) ⟨id,if l[posn id l].f1+w<65536 then l[posn id l].f1+w else 65536⟩
 | [],h,_=>nomatch h
 | c :: r,h,he=>by
  unfold addW
  by_cases hc:c.f0<id
  ·have e:posn id (c :: r)=posn id r+1:=by rw [posn,if_pos hc]
   have h':posn id r<r.length:=by rw [e,List.length_cons]at h; omega
   simp only [e,List.getElem_cons_succ]at he
   rw [if_pos hc,qFC id w r h' he]
   simp only [e,List.set_cons_succ,List.getElem_cons_succ]
  ·have e:posn id (c :: r)=0:=by rw [posn,if_neg hc]
   simp only [e,List.getElem_cons_zero]at he
   rw [if_neg hc,if_pos he]
   simp only [e,List.set_cons_zero,List.getElem_cons_zero]
theorem qFD(id w:Int):∀(l:List qB),(∀ h:posn id l<l.length,l[posn id l].f0≠id)→addW id w l=l.take (posn id l)++⟨id,w⟩ :: l.drop (posn id l)
 | [],_=>rfl
 | c :: r,he=>by
  unfold addW
  by_cases hc:c.f0<id
  ·have e:posn id (c :: r)=posn id r+1:=by rw [posn,if_pos hc]
   rw [if_pos hc,qFD id w r (fun h=>by have:=he (by rw [e,List.length_cons]; omega); simpa only [e,List.getElem_cons_succ] using this)]
   simp only [e,List.take_succ_cons,List.drop_succ_cons,List.cons_append]
  ·have e:posn id (c :: r)=0:=by rw [posn,if_neg hc]
   have:=he (by rw [e,List.length_cons]; omega)
   simp only [e,List.getElem_cons_zero]at this
   rw [if_neg hc,if_neg this]
   simp only [e,List.take_zero,List.drop_zero,List.nil_append]
theorem qFE(id w:Int):∀ l:List qB,(addW id w l).length≤l.length+1
 | []=>Nat.le_refl _
 | c :: r=>by
  unfold addW
  have:=qFE id w r
  split
  ·rw [List.length_cons,List.length_cons]; omega
  ·split <;> simp
theorem qFF(id w:Int):∀(l:List qB),l.Pairwise (fun x y=>x.f0<y.f0)→∀ c:qB,c ∈ addW id w l↔(c ∈ l∧c.f0≠id)∨(c.f0=id∧((∃ d ∈ l,d.f0=id∧c.f1=if d.f1+w<65536 then d.f1+w else 65536)∨((∀ d ∈ l,d.f0≠id)∧c.f1=w)))
 | [],_,c=>by
  unfold addW
  rw [List.mem_singleton]
  constructor
  ·rintro rfl
   exact .inr ⟨rfl,.inr ⟨(fun _ h=>nomatch h),rfl⟩⟩
  ·rintro (⟨h,_⟩ | ⟨h,(⟨_,h',_⟩ | ⟨_,h'⟩)⟩)
   ·exact nomatch h
   ·exact nomatch h'
   ·cases c; cases h; cases h'; rfl
 | x :: r,hp,c=>by
  obtain ⟨h1,h2⟩:=List.pairwise_cons.1 hp
  unfold addW
  by_cases hx:x.f0<id
  ·rw [if_pos hx,List.mem_cons,qFF id w r h2 c,List.mem_cons]
   constructor
   ·rintro (rfl | ⟨h,h'⟩ | ⟨h,(⟨d,q1,q2⟩ | ⟨q1,q2⟩)⟩)
    ·exact .inl ⟨.inl rfl,by omega⟩
    ·exact .inl ⟨.inr h,h'⟩
    ·exact .inr ⟨h,.inl ⟨d,List.mem_cons_of_mem _ q1,q2⟩⟩
    ·refine .inr ⟨h,.inr ⟨fun d hd=>?_,q2⟩⟩
     rcases List.mem_cons.1 hd with rfl | hd
     ·omega
     ·exact q1 d hd
   ·rintro (⟨h | h,h'⟩ | ⟨h,(⟨d,q1,q2⟩ | ⟨q1,q2⟩)⟩)
    ·exact .inl h
    ·exact .inr (.inl ⟨h,h'⟩)
    ·rcases List.mem_cons.1 q1 with rfl | q1
     ·have:=q2.1; omega
     ·exact .inr (.inr ⟨h,.inl ⟨d,q1,q2⟩⟩)
    ·exact .inr (.inr ⟨h,.inr ⟨fun d hd=>q1 d (List.mem_cons_of_mem _ hd),q2⟩⟩)
  ·rw [if_neg hx]
   by_cases he:x.f0=id
   ·rw [if_pos he,List.mem_cons,List.mem_cons]
    constructor
    ·rintro (rfl | h)
     ·exact .inr ⟨rfl,.inl ⟨x,List.mem_cons_self,he,rfl⟩⟩
     ·exact .inl ⟨.inr h,by have:=h1 c h; omega⟩
    ·rintro (⟨h | h,h'⟩ | ⟨h,(⟨d,q1,q2,q3⟩ | ⟨q1,q2⟩)⟩)
     ·exact absurd (h ▸ he) h'
     ·exact .inr h
     ·rcases List.mem_cons.1 q1 with rfl | q1
      ·left; cases c; cases h; cases q3; rfl
      ·have:=h1 d q1; omega
     ·exact absurd he (q1 x List.mem_cons_self)
   ·rw [if_neg he,List.mem_cons]
    constructor
    ·rintro (rfl | h)
     ·refine .inr ⟨rfl,.inr ⟨fun d hd=>?_,rfl⟩⟩
      rcases List.mem_cons.1 hd with rfl | hd
      ·exact he
      ·have:=h1 d hd; show d.f0≠id; omega
     ·refine .inl ⟨h,?_⟩
      rcases List.mem_cons.1 h with rfl | hd
      ·exact he
      ·have:=h1 c hd; omega
    ·rintro (⟨h,h'⟩ | ⟨h,(⟨d,q1,q2,q3⟩ | ⟨q1,q2⟩)⟩)
     ·exact .inr h
     ·rcases List.mem_cons.1 q1 with rfl | q1
      ·exact absurd q2 he
      ·have:=h1 d q1; omega
     ·left; cases c; cases h; cases q2; rfl
theorem qGf{id w:Int}{l:List qB}{c:qB}: ∀ _:c ∈ addW id w l,c.f0=id∨∃ d ∈ l,d.f0=c.f0:=by
 induction l with
 | nil=>intro h; rw [addW,List.mem_singleton]at h; exact .inl (h ▸ rfl)
 | cons x r ih =>
  intro h
  unfold addW at h
  split at h
  ·rcases List.mem_cons.1 h with rfl | h
   ·exact .inr ⟨c,List.mem_cons_self,rfl⟩
   ·rcases ih h with e | ⟨d,hd,e⟩
    ·exact .inl e
    ·exact .inr ⟨d,List.mem_cons_of_mem _ hd,e⟩
  ·split at h
   ·rcases List.mem_cons.1 h with rfl | h
    ·exact .inl rfl
    ·exact .inr ⟨c,List.mem_cons_of_mem _ h,rfl⟩
   ·rcases List.mem_cons.1 h with rfl | h
    ·exact .inl rfl
    ·exact .inr ⟨c,h,rfl⟩
theorem qFv(id w:Int):∀(l:List qB),l.Pairwise (fun x y=>x.f0<y.f0)→(addW id w l).Pairwise (fun x y=>x.f0<y.f0)
 | [],_=>List.pairwise_singleton _ _
 | x :: r,hp=>by
  obtain ⟨h1,h2⟩:=List.pairwise_cons.1 hp
  unfold addW
  by_cases hx:x.f0<id
  ·rw [if_pos hx]
   refine List.pairwise_cons.2 ⟨fun y hy=>?_,qFv id w r h2⟩
   rcases qGf hy with e | ⟨d,hd,e⟩
   ·omega
   ·have:=h1 d hd; omega
  ·rw [if_neg hx]
   by_cases he:x.f0=id
   ·rw [if_pos he]
    exact List.pairwise_cons.2 ⟨fun y hy=>by have:=h1 y hy; show id<y.f0; omega,h2⟩
   ·rw [if_neg he]
    refine List.pairwise_cons.2 ⟨fun y hy=>?_,hp⟩
    show id<y.f0
    rcases List.mem_cons.1 hy with rfl | hy
    ·omega
    ·have:=h1 y hy; omega
def wSum(is:qA→Bool)(of:qA→Int)(l:List qA)(id:Int):Int:=((l.filter (fun n=>is n&&decide (of n=id))).map weight).sum
def wIs(is:qA→Bool)(of:qA→Int)(l:List qA)(id:Int):Prop:=∃ n ∈ l,is n=true∧of n=id
def cap(x:Int):Int:=if x<65536 then x else 65536
structure WOf (is:qA→Bool) (of:qA→Int) (l:List qA) (v:List qB):Prop where
 up:v.Pairwise (fun x y=>x.f0<y.f0)
 mem:∀ c,c ∈ v↔wIs is of l c.f0∧c.f1=cap (wSum is of l c.f0)
theorem qHZ{v w:List qB}(hv:v.Pairwise (fun x y=>x.f0<y.f0))(hw:w.Pairwise (fun x y=>x.f0<y.f0))(h:∀ c,c ∈ v↔c ∈ w):v=w:=by
 have hn:∀ u:List qB,u.Pairwise (fun x y=>x.f0<y.f0)→u.Nodup:=fun u hu=>hu.imp (fun {a b} hab e=>by rw [e]at hab; omega)
 refine List.Perm.eq_of_pairwise (le:=fun x y=>x.f0<y.f0) (fun a b _ _ h1 h2=>by omega) hv hw ?_
 exact (List.perm_ext_iff_of_nodup (hn v hv) (hn w hw)).2 h
theorem WOf.eq{is:qA→Bool}{of:qA→Int}{l:List qA}{v w:List qB}(hv:WOf is of l v)(hw:WOf is of l w):v=w :=
 qHZ hv.up hw.up (fun c=>(hv.mem c).trans (hw.mem c).symm)
def okW(n:qA):Prop:=0≤n.f3∧n.f3≤65536
theorem weight_ok{n:qA}(h:okW n):0≤weight n∧weight n≤65536:=by
 unfold weight okW at *
 split <;> omega
theorem qDW(is:qA→Bool)(of:qA→Int)(l:List qA)(n:qA)(id:Int):wSum is of (l++[n]) id=wSum is of l id+if is n=true∧of n=id then weight n else 0:=by
 unfold wSum
 rw [List.filter_append,List.map_append,List.sum_append]
 congr 1
 by_cases h1:is n=true
 ·by_cases h2:of n=id
  ·simp [h1,h2]
  ·simp [h1,h2]
 ·simp [h1]
theorem wSum_ge(is:qA→Bool)(of:qA→Int)(l:List qA)(id:Int)(h:∀ n ∈ l,okW n):0≤wSum is of l id∧wSum is of l id≤65536 * l.length:=by
 induction l with
 | nil=>exact ⟨Int.le_refl _,Int.le_refl _⟩
 | cons n l ih =>
  have ih:=ih (fun m hm=>h m (List.mem_cons_of_mem _ hm))
  have hw:=weight_ok (h n List.mem_cons_self)
  unfold wSum at *
  rw [List.length_cons,List.filter_cons]
  split
  ·rw [List.map_cons,List.sum_cons]
   omega
  ·omega
theorem qFG(is:qA→Bool)(of:qA→Int)(l:List qA)(n:qA)(id:Int):wIs is of (l++[n]) id↔wIs is of l id∨(is n=true∧of n=id):=by
 unfold wIs
 constructor
 ·rintro ⟨m,hm,h⟩
  rcases List.mem_append.1 hm with hm | hm
  ·exact .inl ⟨m,hm,h⟩
  ·rw [List.mem_singleton.1 hm]at h
   exact .inr h
 ·rintro (⟨m,hm,h⟩ | h)
  ·exact ⟨m,List.mem_append.2 (.inl hm),h⟩
  ·exact ⟨n,List.mem_append.2 (.inr (List.mem_singleton.2 rfl)),h⟩
theorem qES{is:qA→Bool}{of:qA→Int}{l:List qA}{id:Int}(h:¬ wIs is of l id):wSum is of l id=0:=by
 unfold wSum
 rw [List.filter_eq_nil_iff.2]
 ·rfl
 ·intro n hn hc
  rw [Bool.and_eq_true,decide_eq_true_eq]at hc
  exact h ⟨n,hn,hc⟩
theorem WOf.snoc{is:qA→Bool}{of:qA→Int}{l:List qA}{v:List qB}{n:qA}(hv:WOf is of l v)(hl:∀ n ∈ l,okW n)(hn:okW n):WOf is of (l++[n]) (wOne is of v n):=by
 have hw:=weight_ok hn
 unfold wOne
 by_cases hi:is n=true
 ·rw [if_pos hi]
  refine ⟨qFv _ _ _ hv.up,fun c=>?_⟩
  have h0:=wSum_ge is of l c.f0 hl
  rw [qFF _ _ _ hv.up,qFG,qDW,hv.mem]
  by_cases hc:of n=c.f0
  ·rw [if_pos ⟨hi,hc⟩]
   have key:(∃ d ∈ v,d.f0=of n∧c.f1=if d.f1+weight n<65536 then d.f1+weight n else 65536)↔wIs is of l c.f0∧c.f1=cap (wSum is of l c.f0+weight n):=by
    have e:∀ s:Int,0≤s→(if cap s+weight n<65536 then cap s+weight n else 65536)=cap (s+weight n):=by
     intro s hs
     unfold cap
     split <;> split <;> (try split) <;> omega
    constructor
    ·rintro ⟨d,hd,h1,h2⟩
     obtain ⟨h3,h4⟩:=(hv.mem d).1 hd
     have hdc:d.f0=c.f0:=h1.trans hc
     rw [hdc]at h3 h4
     rw [h4,e _ h0.1]at h2
     exact ⟨h3,h2⟩
    ·rintro ⟨h1,h2⟩
     refine ⟨⟨c.f0,cap (wSum is of l c.f0)⟩,(hv.mem _).2 ⟨h1,rfl⟩,hc.symm,?_⟩
     show c.f1=if cap (wSum is of l c.f0)+weight n<65536 then cap (wSum is of l c.f0)+weight n else 65536
     rw [e _ h0.1]
     exact h2
   have key2:(∀ d ∈ v,d.f0≠of n)↔¬ wIs is of l c.f0:=by
    constructor
    ·intro h h1
     exact h ⟨c.f0,cap (wSum is of l c.f0)⟩ ((hv.mem _).2 ⟨h1,rfl⟩) hc.symm
    ·intro h d hd e
     exact h (by have:=((hv.mem d).1 hd).1; rwa [e,hc]at this)
   rw [key,key2]
   constructor
   ·rintro (⟨_,h⟩ | ⟨_,(⟨h1,h2⟩ | ⟨h1,h2⟩)⟩)
    ·exact absurd hc.symm h
    ·exact ⟨.inl h1,h2⟩
    ·refine ⟨.inr ⟨hi,hc⟩,?_⟩
     rw [qES h1,h2]
     unfold cap
     split <;> omega
   ·rintro ⟨_,h⟩
    refine .inr ⟨hc.symm,?_⟩
    by_cases h1:wIs is of l c.f0
    ·exact .inl ⟨h1,h⟩
    ·refine .inr ⟨h1,?_⟩
     rw [qES h1]at h
     unfold cap at h
     rw [h]
     split <;> omega
  ·rw [if_neg (fun h=>hc h.2),Int.add_zero]
   constructor
   ·rintro (⟨h,_⟩ | ⟨h,_⟩)
    ·exact ⟨.inl h.1,h.2⟩
    ·exact absurd h.symm hc
   ·rintro ⟨h | h,h'⟩
    ·exact .inl ⟨⟨h,h'⟩,fun e=>hc e.symm⟩
    ·exact absurd h.2 hc
 ·rw [if_neg hi]
  refine ⟨hv.up,fun c=>?_⟩
  rw [hv.mem,qFG,qDW,if_neg (fun h=>hi h.1),Int.add_zero]
  constructor
  ·exact fun h=>⟨.inl h.1,h.2⟩
  ·rintro ⟨h | h,h'⟩
   ·exact ⟨h,h'⟩
   ·exact absurd h.1 hi
theorem WOf.nil(is:qA→Bool)(of:qA→Int):WOf is of [] []:=⟨List.Pairwise.nil,fun c=>⟨(fun h=>nomatch h),(fun h=>by obtain ⟨⟨_,h,_⟩,_⟩:=h; exact nomatch h)⟩⟩
theorem qEl{is:qA→Bool}{of:qA→Int}{l:List qA}(i:Nat)(h:i<l.length):wL is of (l.take (i+1))=wOne is of (wL is of (l.take i)) l[i]:=by
 unfold wL
 rw [← List.take_append_getElem h,List.foldl_append]
 rfl
theorem wL_of(is:qA→Bool)(of:qA→Int)(l:List qA)(hl:∀ n ∈ l,okW n):∀ i,i≤l.length→WOf is of (l.take i) (wL is of (l.take i))∧(wL is of (l.take i)).length≤i:=by
 intro i
 induction i with
 | zero=>exact fun _=>⟨.nil _ _,Nat.le_refl _⟩
 | succ i ih =>
  intro hi
  have h1:i<l.length:=by omega
  obtain ⟨ih,hlen⟩:=ih (by omega)
  rw [qEl i h1]
  refine ⟨?_,?_⟩
  ·rw [← List.take_append_getElem h1]
   exact ih.snoc (fun n hn=>hl n (List.mem_of_mem_take hn)) (hl _ (gM h1))
  ·unfold wOne
   have:=qFE (of l[i]) (weight l[i]) (wL is of (l.take i))
   split <;> omega
theorem qDX {isO:qA→Option Bool} {ofO:qA→Option Int} {is:qA→Bool} {of:qA→Int} (his:∀ n,isO n=some (is n)) (hof:∀ n,ofO n=some (of n)) (l:List qA)
  (L:Nat→List qB→Int→Option (List qB)) (J:Nat→Int→Int × Bool→List qB→Option (List qB))
  (hL:∀ k acc x,L (k+1) acc x=(if x<(l.length:Int) then (if 0≤x∧x<(l.length:Int) then ((isO (⟨(nth qA.z l x).f0,(nth qA.z l x).f1,(nth qA.z l x).f2,(nth qA.z l x).f3,(nth qA.z l x).f4,(nth qA.z l x).f5⟩:qA)).bind fun t39=>(if t39=true then ((ofO (⟨(nth qA.z l x).f0,(nth qA.z l x).f1,(nth qA.z l x).f2,(nth qA.z l x).f3,(nth qA.z l x).f4,(nth qA.z l x).f5⟩:qA)).bind fun t44=>((qG.f k acc t44).bind fun t47=>(if t47.2=true then (J k x t47 acc) else ((ofO (⟨(nth qA.z l x).f0,(nth qA.z l x).f1,(nth qA.z l x).f2,(nth qA.z l x).f3,(nth qA.z l x).f4,(nth qA.z l x).f5⟩:qA)).bind fun t53=>((qq.f acc t47.1 [(⟨t53,0⟩:qB)]).bind fun t60=>(J k x t47 t60)))))) else (L k acc (w64 (x+1))))) else (none)) else (some acc)))
  (hJ:∀ k x t47 l70,J (k+1) x t47 l70=(if ((nth qA.z l x).f5)=true then (if 0≤t47.1∧t47.1<(l70.length:Int) then (L k (l70.set (t47.1).toNat (⟨(nth qB.z l70 t47.1).f0,(if (w64 ((nth qB.z l70 t47.1).f1+(nth qA.z l x).f3))<65536 then (w64 ((nth qB.z l70 t47.1).f1+(nth qA.z l x).f3)) else 65536)⟩:qB)) (w64 (x+1))) else (none)) else (L k l70 (w64 (x+1)))))
  (hl:l.length≤12) (hw:∀ n ∈ l,okW n):∀(d i:Nat),i+d=l.length→Ev (fun k=>L k (wL is of (l.take i)) (i:Int)) (wL is of l):=by
 intro d
 induction d with
 | zero =>
  intro i hi
  refine .s (fun k=>hL k _ _) (.n (by omega) (.cv ?_))
  rw [List.take_of_length_le (by omega)]
 | succ d ih =>
  intro i hi
  have h1:i<l.length:=by omega
  have ih:=ih (i+1) (by omega)
  obtain ⟨hW,hlen⟩:=wL_of is of l hw i (by omega)
  rw [qEl i h1]at ih
  have hn:=hw _ (gM h1)
  refine .s (fun k=>hL k _ _) (.t (by omega) (.t (by omega) ?_))
  rw [nth_get _ _ _ h1,w64n i (by omega)]
  generalize wL is of (l.take i)=v at hW hlen ih ⊢
  refine .b0 (his l[i]) ?_
  unfold wOne at ih
  by_cases hi1:is l[i]=true
  ·rw [if_pos hi1]at ih
   refine .t hi1 (.b0 (hof l[i]) (.b (search v (of l[i]) (by omega) hW.up) ?_))
   have hp:=qEj (of l[i]) v
   by_cases hf:∃ h:posn (of l[i]) v<v.length,v[posn (of l[i]) v].f0=of l[i]
   ·obtain ⟨hlt,he⟩:=hf
    rw [qFC _ _ v hlt he]at ih
    have hmem:=(hW.mem _).1 (gM hlt)
    have hs:=wSum_ge is of (l.take i) v[posn (of l[i]) v].f0 (fun n hn=>hw n (List.mem_of_mem_take hn))
    have hb:0≤v[posn (of l[i]) v].f1∧v[posn (of l[i]) v].f1≤65536:=by
     have:=hmem.2
     unfold cap at this
     split at this <;> omega
    rw [List.getElem?_eq_getElem hlt]
    refine .t (by simpa using he) (.s (fun k=>hJ k _ _ _) ?_)
    dsimp only
    rw [nth_get _ _ _ h1,nth_get _ _ _ hlt,w64n i (by omega),tN]
    unfold weight at ih
    unfold okW at hn
    by_cases h5:l[i].f5=true
    ·rw [if_pos h5]at ih
     refine .t h5 (.t (by omega) ?_)
     rw [qCQ (n:=v[posn (of l[i]) v].f1+l[i].f3) (by omega) (by omega)]
     simp only [he]
     exact ih
    ·rw [if_neg h5,Int.add_zero]at ih
     refine .n h5 ?_
     have e:v.set (posn (of l[i]) v) ⟨of l[i],if v[posn (of l[i]) v].f1<65536 then v[posn (of l[i]) v].f1 else 65536⟩=v:=by
      have:(⟨of l[i],if v[posn (of l[i]) v].f1<65536 then v[posn (of l[i]) v].f1 else 65536⟩:qB)=v[posn (of l[i]) v]:=by
       have e2:(if v[posn (of l[i]) v].f1<65536 then v[posn (of l[i]) v].f1 else 65536)=v[posn (of l[i]) v].f1:=by split <;> omega
       rw [e2]
       exact congrArg (fun z=>(⟨z,v[posn (of l[i]) v].f1⟩:qB)) he.symm
      rw [this,List.set_getElem_self]
     rw [e]at ih
     exact ih
   ·have hne:∀ h:posn (of l[i]) v<v.length,v[posn (of l[i]) v].f0≠of l[i]:=fun h e=>hf ⟨h,e⟩
    rw [qFD _ _ v hne]at ih
    refine .n ?_ (.b0 (hof l[i]) (.b0 (a:=v.take (posn (of l[i]) v)++(⟨of l[i],0⟩:qB) :: v.drop (posn (of l[i]) v)) ?_ (.s (fun k=>hJ k _ _ _) ?_)))
    ·by_cases h:posn (of l[i]) v<v.length
     ·rw [List.getElem?_eq_getElem h]
      simpa using hne h
     ·rw [List.getElem?_eq_none (by omega)]
      exact Bool.false_ne_true
    ·unfold qq.f
     dsimp only
     rw [if_pos ⟨by omega,by omega,by omega⟩,tN]
    ·dsimp only
     have hq:posn (of l[i]) v<(v.take (posn (of l[i]) v)++(⟨of l[i],0⟩:qB) :: v.drop (posn (of l[i]) v)).length:=by
      rw [lA,List.length_take,List.length_cons,List.length_drop]
      omega
     have hg:(v.take (posn (of l[i]) v)++(⟨of l[i],0⟩:qB) :: v.drop (posn (of l[i]) v))[posn (of l[i]) v]=⟨of l[i],0⟩:=by
      rw [List.getElem_append_right (by rw [List.length_take]; omega)]
      simp only [List.length_take,Nat.min_eq_left hp,Nat.sub_self,List.getElem_cons_zero]
     rw [nth_get _ _ _ h1,nth_get _ _ _ hq,hg,w64n i (by omega),tN]
     unfold weight at ih
     unfold okW at hn
     by_cases h5:l[i].f5=true
     ·rw [if_pos h5]at ih
      refine .t h5 (.t (by omega) ?_)
      have e:(v.take (posn (of l[i]) v)++(⟨of l[i],0⟩:qB) :: v.drop (posn (of l[i]) v)).set (posn (of l[i]) v) (⟨of l[i],if w64 (0+l[i].f3)<65536 then w64 (0+l[i].f3) else 65536⟩:qB)=v.take (posn (of l[i]) v)++(⟨of l[i],l[i].f3⟩:qB) :: v.drop (posn (of l[i]) v):=by
       have e2:(if w64 (0+l[i].f3)<65536 then w64 (0+l[i].f3) else 65536)=l[i].f3:=by
        rw [qCQ (by omega) (by omega)]
        split <;> omega
       rw [e2,List.set_append_right _ _ (by rw [List.length_take]; omega)]
       simp only [List.length_take,Nat.min_eq_left hp,Nat.sub_self,List.set_cons_zero]
      rw [e]
      exact ih
     ·rw [if_neg h5]at ih
      exact .n h5 ih
  ·rw [if_neg hi1]at ih
   exact .n hi1 ih
theorem qEm:∀(p:Int)(l:List qA),rise p l=true→(∀ n ∈ l,okN n)∧l.Pairwise (fun x y=>x.f0<y.f0)∧∀ n ∈ l,p<n.f0
 | p,[],_=>⟨(fun _ h=>nomatch h),List.Pairwise.nil,(fun _ h=>nomatch h)⟩
 | p,n :: l,h=>by
  rw [rise,Bool.and_eq_true,decide_eq_true_eq]at h
  obtain ⟨h1,h2,h3⟩:=qEm n.f0 l h.2
  refine ⟨fun m hm=>?_,List.pairwise_cons.2 ⟨h3,h2⟩,fun m hm=>?_⟩
  ·rcases List.mem_cons.1 hm with rfl | hm
   ·exact h.1.1
   ·exact h1 m hm
  ·rcases List.mem_cons.1 hm with rfl | hm
   ·exact h.1.2
   ·have:=h3 m hm; have:=h.1.2; omega
theorem Nodes.ok{l:List qA}(h:Nodes l):∀ n ∈ l,okN n:=(qEm 0 l h.2).1
theorem Nodes.up{l:List qA}(h:Nodes l):l.Pairwise (fun x y=>x.f0<y.f0):=(qEm 0 l h.2).2.1
theorem Nodes.okW{l:List qA}(h:Nodes l):∀ n ∈ l,okW n:=fun n hn=>(h.ok n hn).2.2.2
theorem wL_full(is:qA→Bool)(of:qA→Int){l:List qA}(h:Nodes l):WOf is of l (wL is of l)∧(wL is of l).length≤l.length:=by
 have:=wL_of is of l h.okW l.length (Nat.le_refl _)
 rwa [List.take_length]at this
theorem qHa{x:Int}(h:0≤x):0≤cap x∧cap x≤65536:=by
 unfold cap
 split <;> omega
theorem wL_chs(is:qA→Bool)(of:qA→Int){l:List qA}(h:Nodes l)(hof:∀ n,okN n→0≤of n∧of n≤999):Draw.Chs (wL is of l):=by
 obtain ⟨hW,hlen⟩:=wL_full is of h
 have hl:=h.1
 refine ⟨by omega,fun c hc=>?_,hW.up⟩
 obtain ⟨⟨n,hn,_,he⟩,h2⟩:=(hW.mem c).1 hc
 have:=hof n (h.ok n hn)
 have h3:=wSum_ge is of l c.f0 h.okW
 have h4:=qHa h3.1
 rw [h2]
 exact ⟨by omega,h4⟩
def isZ(_:qA):Bool:=true
def isR(z:Int)(n:qA):Bool:=n.f1 == z
def isL(z r:Int)(n:qA):Bool:=(z == 0||n.f1 == z)&&(r == 0||n.f2 == r)
def ofZ(n:qA):Int:=n.f1
def ofR(n:qA):Int:=n.f2
def ofL(n:qA):Int:=n.f0
theorem chk{l:List qA}(h:Nodes l):Ev (fun k=>qAI.f k l) 0:=(check l (by have:=h.1; omega)).v (by rw [dT h]; rfl)
theorem zones{l:List qA}(h:Nodes l):Ev (fun k=>qBr.f k l) (wL isZ ofZ l):=by
 have h2:=h.1
 unfold qBr.f qQ.f
 refine .b (.b (chk h) (.t rfl ?_)) (.c _)
 exact qDX (isO:=qBg.f) (ofO:=qBV.f) (fun _=>rfl) (fun _=>rfl) l _ _ (fun k _ _=>qQ.l19_s k l _ _) (fun k _ _ _=>qQ.j72_s k l _ _ _) h.1 h.okW l.length 0 (by omega)
theorem racks{l:List qA}(h:Nodes l)(z:Int):Ev (fun k=>qBs.f k l z) (wL (isR z) ofR l):=by
 have h2:=h.1
 unfold qBs.f qR.f
 refine .b (.b (chk h) (.t rfl ?_)) (.c _)
 exact qDX (isO:=fun n=>qBh.f n z) (ofO:=qBW.f) (fun _=>rfl) (fun _=>rfl) l _ _ (fun k _ _=>qR.l19_s k l z _ _) (fun k _ _ _=>qR.j72_s k l z _ _ _) h.1 h.okW l.length 0 (by omega)
theorem isl(z r:Int)(n:qA):qBQ.f n z r=some (isL z r n):=by
 unfold qBQ.f isL
 by_cases h1:z=0
 ·by_cases h2:r=0
  ·simp [h1,h2]
  ·simp [h1,h2]
 ·by_cases h3:n.f1=z
  ·by_cases h2:r=0
   ·simp [h1,h2,h3]
   ·simp [h1,h2,h3]
  ·simp [h1,h3]
theorem leaves{l:List qA}(h:Nodes l)(z r:Int):Ev (fun k=>qBk.f k l z r) (wL (isL z r) ofL l):=by
 have h2:=h.1
 unfold qBk.f qP.f
 refine .b (.b (chk h) (.t rfl ?_)) (.c _)
 exact qDX (isO:=fun n=>qBQ.f n z r) (ofO:=qBR.f) (isl z r) (fun _=>rfl) l _ _ (fun k _ _=>qP.l19_s k l z r _ _) (fun k _ _ _=>qP.j72_s k l z r _ _ _) h.1 h.okW l.length 0 (by omega)
end Topo
namespace Rule
theorem w64n(i:Nat)(h:i<9223372036854775807):w64 ((i:Int)+1)=((i+1:Nat):Int):=by rw [qCQ (by omega) (by omega)]; omega
theorem nth_get{α : Type}(z : α)(l:List α)(i:Nat)(h:i<l.length):nth z l (i:Int)=l[i]:=by simp [nth,h]
def step(at_:Int)(s:qK):Option Int :=
 if s.f0=1 then (if at_ = -1∧s.f1=0∧s.f2=0 then some 0 else none)
 else if s.f0=3 then (if at_=3∧s.f1=0∧s.f2=0 then some (-1) else none)
 else if s.f0=2 then (if 0≤at_∧at_<s.f1∧s.f1≤3∧(s.f1=2→at_=1)∧1≤s.f2∧s.f2≤12 then some s.f1 else none)
 else none
theorem qHJ{a b:Int}{s:qK}(ha : -1≤a)(h:step a s=some b): -1≤b:=by
 unfold step at h
 repeat' (split at h)
 all_goals first | (cases h; omega) | (cases h)
def goes:Int→List qK→Bool
 | _,[]=>true
 | a,s :: l=>match step a s with
  | some b=>goes b l
  | none=>false
def May(l:List qK):Prop:=(1≤l.length∧l.length≤8)∧goes (-1) l=true
instance (l:List qK):Decidable (May l):=inferInstanceAs (Decidable (_∧_))
theorem next(a:Int)(s:qK)(k:Nat)(ha : -1≤a):∃ b,qAz.f (k+1) a s=some (b,(step a s).isSome)∧∀ c,step a s=some c→b=c:=by
 unfold qAz.f step
 by_cases h1:s.f0=1
 ·simp only [if_pos h1]
  by_cases c1:a = -1
  ·by_cases c2:s.f1=0
   ·by_cases c3:s.f2=0
    ·exact ⟨0,by simp [c1,c2,c3],by simp [c1,c2,c3]⟩
    ·exact ⟨0,by simp [c1,c2,c3],by simp [c1,c2,c3]⟩
   ·exact ⟨0,by simp [c1,c2],by simp [c1,c2]⟩
  ·exact ⟨0,by simp [c1],by simp [c1]⟩
 ·simp only [if_neg h1]
  by_cases h3:s.f0=3
  ·simp only [if_pos h3]
   by_cases c1:a=3
   ·by_cases c2:s.f1=0
    ·by_cases c3:s.f2=0
     ·exact ⟨-1,by simp [c1,c2,c3],by simp [c1,c2,c3]⟩
     ·exact ⟨-1,by simp [c1,c2,c3],by simp [c1,c2,c3]⟩
    ·exact ⟨-1,by simp [c1,c2],by simp [c1,c2]⟩
   ·exact ⟨-1,by simp [c1],by simp [c1]⟩
  ·simp only [if_neg h3]
   by_cases h2:s.f0=2
   ·simp only [if_pos h2,qAz.j23_s]
    refine ⟨s.f1,?_,?_⟩
    ·by_cases c0:0≤a∧a<s.f1∧s.f1≤3∧(s.f1=2→a=1)∧1≤s.f2∧s.f2≤12
     ·rw [if_pos c0,if_pos (by omega),if_pos c0.2.2.1]
      have:(if s.f1=2 then (if a = -1 then (some (s.f1,false):Option (Int × Bool)) else (if (a == 1)=true then (if s.f2≥1 then some (s.f1,decide (s.f2≤12)) else some (s.f1,false)) else some (s.f1,false))) else (if a = -1 then some (s.f1,false) else (if true=true then (if s.f2≥1 then some (s.f1,decide (s.f2≤12)) else some (s.f1,false)) else some (s.f1,false))))=some (s.f1,true):=by
       obtain ⟨q1,q2,q3,q4,q5,q6⟩:=c0
       by_cases d:s.f1=2
       ·have:=q4 d
        simp [d,this,q5,q6]
       ·have:¬ a = -1:=by omega
        simp [d,this,q5,q6]
      exact this
     ·rw [if_neg c0]
      have key:∀ y:Bool,(y=true→¬ (0≤a∧1≤s.f2∧s.f2≤12))→(if a = -1 then (some (s.f1,false):Option (Int × Bool)) else (if y=true then (if s.f2≥1 then some (s.f1,decide (s.f2≤12)) else some (s.f1,false)) else some (s.f1,false)))=some (s.f1,false):=by
       intro y hy
       by_cases d:a = -1
       ·rw [if_pos d]
       ·rw [if_neg d]
        cases y with
        | false=>rfl
        | true =>
         rw [if_pos rfl]
         by_cases e1:s.f2≥1
         ·rw [if_pos e1,dF (fun e2=>hy rfl ⟨by omega,e1,e2⟩)]
         ·rw [if_neg e1]
      by_cases d1:s.f1>a
      ·rw [if_pos d1]
       by_cases d2:s.f1≤3
       ·rw [if_pos d2]
        by_cases d3:s.f1=2
        ·rw [if_pos d3]
         exact key _ (fun hy hh=>c0 ⟨hh.1,d1,d2,fun _=>by simpa using hy,hh.2⟩)
        ·rw [if_neg d3]
         simpa using key true (fun _ hh=>c0 ⟨hh.1,d1,d2,fun e=>absurd e d3,hh.2⟩)
       ·rw [if_neg d2]
        exact key _ (fun hy=>by cases hy)
      ·rw [if_neg d1]
       exact key _ (fun hy=>by cases hy)
    ·intro c hc
     split at hc
     ·exact Option.some.inj hc
     ·cases hc
   ·simp only [if_neg h2]
    exact ⟨-1,by simp,by simp⟩
theorem qFw(l:List qK)(hl:l.length≤1000):∀(d k i:Nat)(a:Int), -1≤a→i+d=l.length→d+1<k→qAb.l18 k l a (i:Int)=some (if goes a (l.drop i)=true then 0 else 1):=by
 intro d
 induction d with
 | zero =>
  intro k i a ha hi hk
  obtain ⟨k,rfl⟩:∃ m,k=m+1:=⟨k - 1,by omega⟩
  rw [qAb.l18_s,if_neg (by omega),List.drop_eq_nil_of_le (by omega)]
  rfl
 | succ d ih =>
  intro k i a ha hi hk
  obtain ⟨k,rfl⟩:∃ m,k=m+2:=⟨k - 2,by omega⟩
  have h1:i<l.length:=by omega
  rw [qAb.l18_s,if_pos (by omega),if_pos (by omega),nth_get _ _ _ h1,w64n i (by omega),List.drop_eq_getElem_cons h1]
  obtain ⟨b,hb,hc⟩:=next a (⟨l[i].f0,l[i].f1,l[i].f2⟩:qK) k ha
  rw [hb,Option.bind_some]
  dsimp only
  have hs:(⟨l[i].f0,l[i].f1,l[i].f2⟩:qK)=l[i]:=rfl
  rw [hs]at hc ⊢
  cases hst:step a l[i] with
  | none =>
   simp only [goes,hst,Option.isSome_none,Bool.false_eq_true,if_false]
  | some c =>
   obtain rfl:=hc c hst
   simp only [goes,hst,Option.isSome_some,if_true]
   exact ih (k+1) (i+1) b (qHJ ha hst) (by omega) (by omega)
theorem check(l:List qK)(k:Nat)(hk:1100<k):qAb.f k l=some (if May l then 0 else 1):=by
 obtain ⟨k,rfl⟩:∃ m,k=m+1:=⟨k - 1,by omega⟩
 unfold qAb.f
 by_cases h0:(l.length:Int)=0
 ·rw [if_pos h0,qAb.j6_s,if_pos rfl,if_neg (fun h:May l=>by have:=h.1.1; omega)]
 ·rw [if_neg h0,qAb.j6_s]
  by_cases h8:(l.length:Int)>8
  ·rw [if_pos (dT h8),if_neg (fun h:May l=>by have:=h.1.2; omega)]
  ·rw [if_neg (by simpa using h8)]
   refine (qFw l (by omega) l.length k 0 (-1) (by omega) (by omega) (by omega)).trans ?_
   rw [List.drop_zero]
   by_cases h:goes (-1) l=true
   ·rw [if_pos h,if_pos (show May l from ⟨⟨by omega,by omega⟩,h⟩)]
   ·rw [if_neg h,if_neg (fun hh:May l=>h hh.2)]
theorem common(k:Nat)(n:Int):qAr.f (k+1) n=some (if 1≤n∧n≤3 then [(⟨1,0,0⟩:qK),⟨2,1,n⟩,⟨2,2,1⟩,⟨2,3,1⟩,⟨3,0,0⟩] else []):=by
 unfold qAr.f
 simp only [qAr.j6_s]
 by_cases h1:n<1
 ·rw [if_pos h1,if_pos trivial,if_neg (by omega)]
 ·rw [if_neg h1]
  by_cases h3:n>3
  ·rw [if_pos (dT h3),if_neg (by omega)]
  ·rw [if_neg (by simpa using h3),if_pos ⟨by omega,by omega⟩]
end Rule
namespace Place
def kids(l:List qA)(g:Int)(s:qK)(z r:Int):List Int :=
 (Draw.ord (Mixn.fold (Draw.un g) [Draw.un s.f1,Draw.un z,Draw.un r]) (if s.f1=1 then Topo.wL Topo.isZ Topo.ofZ l else if s.f1=2 then Topo.wL (Topo.isR z) Topo.ofR l else Topo.wL (Topo.isL z r) Topo.ofL l)).map (fun x=>x.f0)
def deeper(s:qK)(x:qX)(id:Int):qX:=if s.f1=1 then ⟨id,x.f1,x.f2⟩ else if s.f1=2 then ⟨x.f0,id,x.f2⟩ else ⟨x.f0,x.f1,id⟩
def qHc(l:List qA)(g:Int)(s:qK)(x:qX):List qX:=((kids l g s x.f0 x.f1).take s.f2.toNat).map (deeper s x)
def emit(size:Int)(out:List Int)(x:qX):List Int:=if (out.length:Int)<size∧¬ x.f2 ∈ out then out++[x.f2] else out
def stepL(l:List qA)(g size:Int)(p:List qX × List Int)(s:qK):List qX × List Int :=
 if s.f0=1 then ([⟨0,0,0⟩],p.2) else if s.f0=2 then (p.1.flatMap (qHc l g s),p.2) else ([],p.1.foldl (emit size) p.2)
def runL(l:List qA)(rule:List qK)(g size:Int):List Int:=(rule.foldl (stepL l g size) ([],[])).2
theorem fold_lt(s:Nat)(hs:s<18446744073709551616)(l:List Nat):Mixn.fold s l<18446744073709551616:=by
 unfold Mixn.fold
 have h0:=Mixn.mix_lt s
 generalize Mixn.mix s=x at h0 ⊢
 induction l generalizing x with
 | nil=>exact h0
 | cons a l ih=>exact ih _ (Mixn.step_lt _ _)
theorem qEC{l:List qA}(h:Topo.Nodes l)(g:Int)(s:qK)(z r:Int):(kids l g s z r).length≤12:=by
 have hl:=h.1
 unfold kids Draw.ord
 rw [List.length_map,qCj]
 refine Nat.le_trans (List.length_filter_le _ _) ?_
 split
 ·exact Nat.le_trans (Topo.wL_full _ _ h).2 hl
 ·split
  ·exact Nat.le_trans (Topo.wL_full _ _ h).2 hl
  ·exact Nat.le_trans (Topo.wL_full _ _ h).2 hl
theorem fold3(g a b c:Int):Ev (fun k=>qBI.f k (IntKind.u64.wrap g) [IntKind.u64.wrap a,IntKind.u64.wrap b,IntKind.u64.wrap c]) ((Mixn.fold (Draw.un g) [Draw.un a,Draw.un b,Draw.un c]:Nat):Int):=by
 have h:=Draw.fold (Draw.un g) (Draw.un_eq g).2 [Draw.un a,Draw.un b,Draw.un c] (fun x hx=>by
  simp only [List.mem_cons,List.not_mem_nil,or_false]at hx
  rcases hx with rfl | rfl | rfl <;> exact (Draw.un_eq _).2) (by simp)
 rw [(Draw.un_eq g).1,(Draw.un_eq a).1,(Draw.un_eq b).1,(Draw.un_eq c).1]
 exact h
theorem qDY{l:List qA}(h:Topo.Nodes l):Draw.Chs (Topo.wL Topo.isZ Topo.ofZ l):=Topo.wL_chs _ _ h (fun n hn=>by unfold Topo.okN at hn; unfold Topo.ofZ; omega)
theorem qET{l:List qA}(h:Topo.Nodes l)(z:Int):Draw.Chs (Topo.wL (Topo.isR z) Topo.ofR l):=Topo.wL_chs _ _ h (fun n hn=>by unfold Topo.okN at hn; unfold Topo.ofR; omega)
theorem qDo{l:List qA}(h:Topo.Nodes l)(z r:Int):Draw.Chs (Topo.wL (Topo.isL z r) Topo.ofL l):=Topo.wL_chs _ _ h (fun n hn=>by unfold Topo.okN at hn; unfold Topo.ofL; omega)
theorem qFP(x:qX)(s:qK)(o:List Int)(n:Nat)(hn:n≤o.length)(ho:o.length≤12)(he:(if (o.length:Int)<s.f2 then (o.length:Int) else s.f2)=(n:Int)):∀(d i:Nat),i+d=n→Ev (fun k=>qy.l80 k x s o ((o.take i).map (deeper s x)) (i:Int)) ((o.take n).map (deeper s x)):=by
 have ec:cutl o 0 (n:Int)=o.take n:=by simp [cutl]
 have el:(o.take n).length=n:=by rw [List.length_take]; omega
 intro d
 induction d with
 | zero =>
  intro i hi
  refine .s (qy.l80_s · _ _ _ _ _) ?_
  rw [he,ec,el]
  refine .n (by omega) (.cv ?_)
  rw [show i=n by omega]
 | succ d ih =>
  intro i hi
  have ih:=ih (i+1) (by omega)
  have h1:i<o.length:=by omega
  have h2:i<(o.take n).length:=by omega
  refine .s (qy.l80_s · _ _ _ _ _) ?_
  rw [he,ec,el,nth_get _ _ _ h2,List.getElem_take]
  rw [← List.take_append_getElem h1,List.map_append,List.map_singleton]at ih
  unfold deeper at ih ⊢
  have hq:((o.take i).map (deeper s x)).length≤12:=by rw [List.length_map,List.length_take]; omega
  unfold deeper at hq
  refine .t (by omega) (.t (by omega) ?_)
  refine .i (fun c=>?_) (fun c=>?_)
  ·refine .s (qy.j110_s · _ _ _ _ _ _ _ _) (.t (by omega) ?_)
   rw [w64n i (by omega)]
   rwa [if_pos c]at ih
  ·rw [if_neg c]at ih
   refine .i (fun c=>?_) (fun c=>?_)
   ·refine .s (qy.j110_s · _ _ _ _ _ _ _ _) (.t (by omega) ?_)
    rw [w64n i (by omega)]
    rwa [if_pos c]at ih
   ·refine .s (qy.j110_s · _ _ _ _ _ _ _ _) (.t (by omega) ?_)
    rw [w64n i (by omega)]
    rwa [if_neg c]at ih
theorem choose{l:List qA}(h:Topo.Nodes l)(x:qX)(s:qK)(g:Int)(hs:1≤s.f2):Ev (fun k=>qy.f k l x s g) (qHc l g s x):=by
 have hk:=qEC h g s x.f0 x.f1
 have hj:∀ c,Draw.Chs c→kids l g s x.f0 x.f1=(Draw.ord (Mixn.fold (Draw.un g) [Draw.un s.f1,Draw.un x.f0,Draw.un x.f1]) c).map (fun x=>x.f0)→Ev (fun k=>qy.j42 k x s g c) (qHc l g s x):=by
  intro c hc e
  refine .s (qy.j42_s · _ _ _ _) (.b (fold3 g s.f1 x.f0 x.f1) (.b (Draw.order _ (fold_lt _ (Draw.un_eq g).2 _) c hc) ?_))
  rw [← e]
  unfold qHc
  generalize kids l g s x.f0 x.f1=o at hk ⊢
  have he:(if (o.length:Int)<s.f2 then (o.length:Int) else s.f2)=((min s.f2.toNat o.length:Nat):Int):=by
   split <;> omega
  rw [he]
  refine .t (by omega) ?_
  have:=qFP x s o (min s.f2.toNat o.length) (by omega) hk he (min s.f2.toNat o.length) 0 (by omega)
  rw [← List.take_eq_take_min]at this
  exact this
 unfold qy.f
 have hz:=qDY h
 have hr:=qET h x.f0
 have hv:=qDo h x.f0 x.f1
 unfold kids at hj
 refine .i (fun c=>.b (Topo.zones h) (hj _ hz (by rw [if_pos c]))) (fun c=>.i (fun c2=>.b (Topo.racks h _) (hj _ hr (by rw [if_neg c,if_pos c2]))) (fun c2=>.b (Topo.leaves h _ _) (hj _ hv (by rw [if_neg c,if_neg c2]))))
theorem qFx{a:Int}{s:qK}{r:List qK}(h:Rule.goes a (s :: r)=true):∃ b,Rule.goes b r=true∧((s.f0=1∧a = -1∧b=0)∨(s.f0=2∧(1≤s.f1∧s.f1≤3)∧(1≤s.f2∧s.f2≤12)∧b=s.f1∧0≤a)∨(s.f0=3∧b = -1∧a=3)):=by
 unfold Rule.goes at h
 split at h
 ·rename_i b hb
  refine ⟨b,h,?_⟩
  unfold Rule.step at hb
  by_cases c1:s.f0=1
  ·rw [if_pos c1]at hb
   split at hb
   ·cases hb; exact .inl ⟨c1,by omega,rfl⟩
   ·cases hb
  ·rw [if_neg c1]at hb
   by_cases c3:s.f0=3
   ·rw [if_pos c3]at hb
    split at hb
    ·cases hb; exact .inr (.inr ⟨c3,rfl,by omega⟩)
    ·cases hb
   ·rw [if_neg c3]at hb
    split at hb
    ·split at hb
     ·cases hb; exact .inr (.inl ⟨by assumption,by omega,by omega,rfl,by omega⟩)
     ·cases hb
    ·cases hb
 ·cases h
theorem qDD{α β : Type}(f : α→List β)(hf:∀ x,(f x).length≤12):∀ l:List α,(l.flatMap f).length≤12 * l.length
 | []=>Nat.le_refl _
 | x :: l=>by
  have:=qDD f hf l
  have:=hf x
  rw [List.flatMap_cons,lA,List.length_cons]
  omega
theorem qCg{l:List qA}(h:Topo.Nodes l)(g:Int)(s:qK)(x:qX):(qHc l g s x).length≤12:=by
 unfold qHc
 rw [List.length_map,List.length_take]
 have:=qEC h g s x.f0 x.f1
 omega
theorem qEU{α β : Type}(f : α→List β)(l:List α)(i:Nat)(h:i<l.length):(l.take (i+1)).flatMap f=(l.take i).flatMap f++f l[i]:=by
 rw [← List.take_append_getElem h,List.flatMap_append]
 simp
theorem qHK {l:List qA} (h:Topo.Nodes l) (rule:List qK) (g size:Int) (hand:List qX) (out:List Int) (i:Nat) (hi:i<rule.length) (hs:1≤rule[i].f2) (hh:hand.length≤429981696) {v:List Int × Int}
  (hv:Ev (fun k=>qu.l38 k l rule g size (hand.flatMap (qHc l g rule[i])) out (w64 ((i:Int)+1))) v):∀(d j:Nat),j+d=hand.length→Ev (fun k=>qu.l73 k l rule g size hand out (i:Int) ((hand.take j).flatMap (qHc l g rule[i])) (j:Int)) v:=by
 intro d
 induction d with
 | zero =>
  intro j hj
  refine .s (qu.l73_s · _ _ _ _ _ _ _ _ _) (.n (by omega) ?_)
  rw [List.take_of_length_le (by omega)]
  exact hv
 | succ d ih =>
  intro j hj
  have h1:j<hand.length:=by omega
  have ih:=ih (j+1) (by omega)
  rw [qEU _ _ _ h1]at ih
  have hlen:=qDD (qHc l g rule[i]) (qCg h g rule[i]) (hand.take j)
  have hlen2:=qCg h g rule[i] hand[j]
  rw [List.length_take]at hlen
  refine .s (qu.l73_s · _ _ _ _ _ _ _ _ _) (.t (by omega) (.t (by omega) ?_))
  rw [nth_get _ _ _ h1,nth_get _ _ _ hi,w64n j (by omega)]
  exact .b (choose h hand[j] rule[i] g hs) (.t (by omega) ih)
theorem qDE(size:Int)(hand:List qX):∀ out:List Int,(out.length:Int)≤size→((hand.foldl (emit size) out).length:Int)≤size:=by
 induction hand with
 | nil=>exact fun _ h=>h
 | cons x r ih =>
  intro out h
  refine ih _ ?_
  unfold emit
  split
  ·rw [lA,List.length_singleton]; omega
  ·exact h
theorem qDp{α β : Type}(f : β→α→β)(b : β)(l:List α)(i:Nat)(h:i<l.length):(l.take (i+1)).foldl f b=f ((l.take i).foldl f b) l[i]:=by
 rw [← List.take_append_getElem h,List.foldl_append]
 rfl
theorem qGg (l:List qA) (rule:List qK) (g size:Int) (hz:size≤3) (hand:List qX) (out:List Int) (ho:(out.length:Int)≤size) (i:Nat) (hh:hand.length≤429981696) {v:List Int × Int}
  (hv:Ev (fun k=>qu.l38 k l rule g size [] (hand.foldl (emit size) out) (w64 ((i:Int)+1))) v):∀(d j:Nat),j+d=hand.length→Ev (fun k=>qu.l111 k l rule g size hand (i:Int) ((hand.take j).foldl (emit size) out) (j:Int)) v:=by
 intro d
 induction d with
 | zero =>
  intro j hj
  refine .s (qu.l111_s · _ _ _ _ _ _ _ _) (.n (by omega) ?_)
  rw [List.take_of_length_le (by omega)]
  exact hv
 | succ d ih =>
  intro j hj
  have h1:j<hand.length:=by omega
  have ih:=ih (j+1) (by omega)
  rw [qDp _ _ _ _ h1]at ih
  have hlen:=qDE size (hand.take j) out ho
  generalize (hand.take j).foldl (emit size) out=q at ih hlen ⊢
  have hj:∀ y:Bool,y=decide ((q.length:Int)<size∧¬ hand[j].f2 ∈ q)→Ev (fun k=>qu.j135 k l rule g size hand (i:Int) q (j:Int) y) v:=by
   intro y hy
   subst hy
   refine .s (qu.j135_s · _ _ _ _ _ _ _ _ _) ?_
   rw [nth_get _ _ _ h1,w64n j (by omega)]
   unfold emit at ih
   refine .i (fun c=>?_) (fun c=>?_)
   ·rw [if_pos (oT c)]at ih
    exact .t (by omega) ih
   ·rw [if_neg (fun e=>c (dT e))]at ih
    exact ih
  refine .s (qu.l111_s · _ _ _ _ _ _ _ _) (.t (by omega) (.t (by omega) ?_))
  rw [nth_get _ _ _ h1]
  refine .i (fun c=>.b (Topo.contains q hand[j].f2 (by omega)) (hj _ ?_)) (fun c=>hj _ ?_)
  ·by_cases c2:hand[j].f2 ∈ q
   ·simp [c2]
   ·simp [c,c2]
  ·simp [c]
theorem qHL{l:List qA}(h:Topo.Nodes l)(rule:List qK)(hr:rule.length≤8)(g size:Int)(hz:size≤3):∀(d i:Nat)(hand:List qX)(out:List Int)(a:Int),i+d=rule.length→hand.length≤12 ^ i→(out.length:Int)≤size→Rule.goes a (rule.drop i)=true→Ev (fun k=>qu.l38 k l rule g size hand out (i:Int)) (((rule.drop i).foldl (stepL l g size) (hand,out)).2,0):=by
 intro d
 induction d with
 | zero =>
  intro i hand out a hi _ _ _
  refine .s (qu.l38_s · _ _ _ _ _ _ _) (.n (by omega) (.cv ?_))
  rw [List.drop_eq_nil_of_le (by omega)]
  rfl
 | succ d ih =>
  intro i hand out a hi hh ho hg
  have h1:i<rule.length:=by omega
  have hp:hand.length≤429981696:=Nat.le_trans hh (Nat.le_trans (Nat.pow_le_pow_right (by omega) (show i≤8 by omega)) (by decide))
  have h12:0<12 ^ i:=Nat.pow_pos (by omega)
  rw [List.drop_eq_getElem_cons h1]at hg ⊢
  obtain ⟨b,hb,hc⟩:=qFx hg
  rw [List.foldl_cons]
  refine .s (qu.l38_s · _ _ _ _ _ _ _) (.t (by omega) (.t (by omega) ?_))
  rw [nth_get _ _ _ h1]
  rcases hc with ⟨c1,_,_⟩ | ⟨c1,c2,c3,_,_⟩ | ⟨c1,_,_⟩
  ·refine .t c1 ?_
   rw [w64n i (by omega),stepL,if_pos c1]
   exact ih (i+1) _ _ b (by omega) (by rw [Nat.pow_succ,List.length_singleton]; omega) ho hb
  ·refine .n (by omega) (.t c1 ?_)
   rw [stepL,if_neg (by omega),if_pos c1]
   refine qHK h rule g size hand out i h1 c3.1 hp ?_ hand.length 0 (by omega)
   rw [w64n i (by omega)]
   refine ih (i+1) _ _ b (by omega) ?_ ho hb
   have:=qDD (qHc l g rule[i]) (qCg h g rule[i]) hand
   rw [Nat.pow_succ]
   omega
  ·refine .n (by omega) (.n (by omega) ?_)
   rw [stepL,if_neg (by omega),if_neg (by omega)]
   refine qGg l rule g size hz hand out ho i hp ?_ hand.length 0 (by omega)
   rw [w64n i (by omega)]
   exact ih (i+1) _ _ b (by omega) (Nat.zero_le _) (qDE size hand out ho) hb
def mayRun(l:List qA)(rule:List qK)(g size:Int):Prop:=Topo.Nodes l∧Rule.May rule∧(0≤g∧g<8)∧1≤size∧size≤3
instance (l:List qA) (rule:List qK) (g size:Int):Decidable (mayRun l rule g size):=inferInstanceAs (Decidable (_∧_))
theorem run(l:List qA)(rule:List qK)(g size:Int):Ev (fun k=>qu.f k l rule g size) (if mayRun l rule g size then (runL l rule g size,0) else ([],1)):=by
 have hc:Ev (fun k=>qAb.f k rule) (if Rule.May rule then 0 else 1):=⟨1101,fun k hk=>Rule.check rule k (by omega)⟩
 have hj:∀ y:Bool,y=decide (¬ (1≤size∧size≤3))→Topo.Nodes l→Rule.May rule→(0≤g∧g<8)→Ev (fun k=>qu.j16 k l rule g size y) (if mayRun l rule g size then (runL l rule g size,0) else ([],1)):=by
  intro y hy h1 h2 h3
  subst hy
  refine .s (qu.j16_s · _ _ _ _ _) ?_
  refine .i (fun c=>?_) (fun c=>?_)
  ·rw [if_neg (fun e=>oT c e.2.2.2)]
   exact .c _
  ·have c:1≤size∧size≤3:=Decidable.not_not.1 (fun e=>c (dT e))
   rw [if_pos ⟨h1,h2,h3,c⟩]
   exact qHL h1 rule h2.1.2 g size c.2 rule.length 0 [] [] (-1) (by omega) (Nat.zero_le _) (by have:=c.1; show ((0:Nat):Int)≤size; omega) h2.2
 have hn:¬ mayRun l rule g size→Ev (fun k=>qu.j16 k l rule g size true) (if mayRun l rule g size then (runL l rule g size,0) else ([],1)):=by
  intro c
  rw [if_neg c]
  exact .s (qu.j16_s · _ _ _ _ _) (.t rfl (.c _))
 unfold qu.f
 refine .b (Topo.check' l) ?_
 by_cases h1:Topo.Nodes l
 ·rw [dT h1]
  refine .t rfl (.b hc ?_)
  by_cases h2:Rule.May rule
  ·rw [if_pos h2]
   refine .t rfl (.i (fun c=>hn (fun e=>by have:=e.2.2.1; omega)) (fun c=>.i (fun c=>hn (fun e=>by have:=e.2.2.1; omega)) (fun c2=>.i (fun c=>hn (fun e=>by have:=e.2.2.2; omega)) (fun c3=>hj _ ?_ h1 h2 ⟨by omega,by omega⟩))))
   rw [decide_eq_decide]
   omega
  ·rw [if_neg h2]
   exact .n (by decide) (hn (fun e=>h2 e.2.1))
 ·rw [dF h1]
  exact .n (by decide) (hn (fun e=>h1 e.1))
theorem qEV(l:List qA)(g size:Int):∀(rule:List qK)(p:List qX × List Int),(p.2.length:Int)≤size→((rule.foldl (stepL l g size) p).2.length:Int)≤size
 | [],_,h=>h
 | s :: r,p,h=>by
  refine qEV l g size r _ ?_
  unfold stepL
  split
  ·exact h
  ·split
   ·exact h
   ·exact qDE size _ _ h
theorem qHb(l:List qA)(rule:List qK)(g size:Int)(h:1≤size):((runL l rule g size).length:Int)≤size:=qEV l g size rule ([],[]) (by show ((0:Nat):Int)≤size; omega)
end Place
namespace Draw
theorem shift(x:Nat)(hx:x<18446744073709551616):qAl.f (x:Int)=some ((Mixn.sh x:Nat):Int):=by
 unfold qAl.f
 have e2:Int.tdiv (x:Int) 4294967296=((x / 4294967296:Nat):Int):=by rw [Int.tdiv_eq_ediv_of_nonneg (Int.natCast_nonneg _),Int.natCast_ediv]; rfl
 have e4:Int.tmod (x:Int) 4294967296=((x % 4294967296:Nat):Int):=by rw [Int.tmod_eq_emod_of_nonneg (Int.natCast_nonneg _),Int.natCast_emod]; rfl
 have hl:(x % 4294967296) ^^^ (x / 4294967296)<2 ^ 32:=Nat.xor_lt_two_pow (by omega) (by omega)
 rw [e2,u64n _ (by omega),e4,qEi _ _ (by omega) (by omega),Mixn.sh_split hx]
 congr 1
 generalize (x % 4294967296) ^^^ (x / 4294967296)=l at *
 have h6:x / 4294967296<4294967296:=by omega
 generalize x / 4294967296=h at *
 rw [IntKind.wrap_u64,IntKind.wrap_u64]
 omega
theorem refmix(x:Nat)(hx:x<18446744073709551616):qAu.f (x:Int)=some ((Mixn.mix x:Nat):Int):=by
 unfold qAu.f
 rw [shift x hx,Option.bind_some,mf_i,shift _ (Mixn.mf_lt _),Option.bind_some,mf_i,shift _ (Mixn.mf_lt _),Option.bind_some]
 rfl
theorem qEn(l:List Nat)(hl:∀ x ∈ l,x<18446744073709551616)(hn:l.length<4611686018427387904):∀(d i s:Nat),i+d=l.length→s<18446744073709551616→Ev (fun k=>qAH.l10 k (ofN l) (s:Int) (i:Int)) (((l.drop i).foldl Mixn.step s:Nat):Int):=by
 have hlen:(ofN l).length=l.length:=List.length_map ..
 intro d
 induction d with
 | zero =>
  intro i s hi hs
  refine .s (qAH.l10_s · _ _ _) (.n (by omega) (.cv ?_))
  rw [List.drop_eq_nil_of_le (by omega)]
  rfl
 | succ d ih =>
  intro i s hi hs
  have h1:i<l.length:=by omega
  refine .s (qAH.l10_s · _ _ _) (.t (by omega) (.t (by omega) ?_))
  rw [nth_get _ _ _ (by omega),qFq,qGs s _ hs (hl _ (gM h1)),w64n i (by omega),List.drop_eq_getElem_cons h1]
  exact .b0 (refmix _ (Nat.mod_lt _ (by decide))) (ih (i+1) _ (by omega) (Mixn.step_lt _ _))
theorem reffold(s:Nat)(hs:s<18446744073709551616)(l:List Nat)(hl:∀ x ∈ l,x<18446744073709551616)(hn:l.length<4611686018427387904):Ev (fun k=>qAH.f k (s:Int) (ofN l)) ((Mixn.fold s l:Nat):Int):=by
 unfold qAH.f
 exact .b0 (refmix s hs) (qEn l hl hn l.length 0 _ (by omega) (Mixn.mix_lt _))
theorem qHM:∀(d z f i:Nat),i+d=16→z≤2147483648→f<2 ^ i→Ev (fun k=>qe.l27 k (z:Int) (f:Int) (i:Int)) ((Negn.bitsOf d z f:Nat):Int):=by
 intro d
 induction d with
 | zero=>exact fun z f i hi hz hf=>.s (qe.l27_s · _ _ _) (.n (by omega) (.c _))
 | succ d ih =>
  intro z f i hi hz hf
  have hp:=p16 i (by omega)
  have hp2:2 ^ (i+1)=2 * 2 ^ i:=by rw [Nat.pow_succ,Nat.mul_comm]
  obtain ⟨e1,h1⟩:=qGt z hz
  have w2:w64 (2 * (f:Int))=((2 * f:Nat):Int):=by rw [qCQ (by omega) (by omega)]; omega
  have w3:w64 (((2 * f:Nat):Int)+1)=((2 * f+1:Nat):Int):=w64n _ (by omega)
  refine .s (qe.l27_s · _ _ _) (.t (by omega) ?_)
  rw [e1,w2,w3,w64n i (by omega),Negn.bitsOf]
  clear w2 w3 e1
  generalize z * z / 2147483648=y at *
  by_cases cy:y≤1073741824
  ·have w4:IntKind.u64.wrap (2 * (y:Int))=((2 * y:Nat):Int):=by rw [IntKind.wrap_u64]; omega
   rw [if_pos cy]
   refine .t (by omega) ?_
   rw [w4]
   exact ih (2 * y) (2 * f+1) (i+1) (by omega) (by omega) (by omega)
  ·rw [if_neg cy]
   exact .n (by omega) (ih y (2 * f) (i+1) (by omega) (by omega) (by omega))
theorem qEo:∀(d u:Nat),32768<u * 2 ^ d→1≤u→u≤65536→d≤16→Ev (fun k=>qe.f k (u:Int)) ((Negn.cst (d+1) u:Nat):Int):=by
 have start:∀(u:Nat)(v:Int),1≤u→u≤65536→Ev (fun k=>qe.j6 k (u:Int) false) v→Ev (fun k=>qe.f k (u:Int)) v:=by
  intro u v h1 h2 h
  refine .s (fun k=>by rw [qe.f]) (.n (by omega) ?_)
  rw [dF (by omega)]
  exact h
 have base:∀(u n:Nat),32768<u→u≤65536→Ev (fun k=>qe.f k (u:Int)) ((Negn.cst (n+1) u:Nat):Int):=by
  intro u n h h1
  have w1:IntKind.u64.wrap (IntKind.u64.wrap (u:Int) * 32768)=((u * 32768:Nat):Int):=by rw [u64n _ (by omega),IntKind.wrap_u64]; omega
  refine start u _ (by omega) h1 (.s (qe.j6_s · _ _) (.n (by decide) (.n (by omega) ?_)))
  rw [w1,Negn.cst_succ,if_neg (by omega)]
  exact qHM 16 (u * 32768) 0 0 (by omega) (by omega) (by decide)
 intro d
 induction d with
 | zero =>
  intro u h h0 h1 hd
  rw [Nat.pow_zero,Nat.mul_one]at h
  exact base u 0 h h1
 | succ d ih =>
  intro u h h0 h1 hd
  by_cases cu:u≤32768
  ·have h2:u * 2 ^ (d+1)=2 * u * 2 ^ d:=by rw [Nat.pow_succ,Nat.mul_comm (2 ^ d) 2,← Nat.mul_assoc,Nat.mul_comm u 2]
   have w1:w64 (2 * (u:Int))=((2 * u:Nat):Int):=by rw [qCQ (by omega) (by omega)]; omega
   have hc:=Negn.cst_le (d+1) (2 * u)
   refine start u _ h0 h1 (.s (qe.j6_s · _ _) (.n (by decide) (.t (by omega) ?_)))
   rw [w1]
   refine .b (ih (2 * u) (by omega) (by omega) (by omega) (by omega)) (.cv ?_)
   have e:=Negn.cst_succ (d+1) u
   rw [if_pos cu]at e
   rw [e,qCQ (by omega) (by omega)]
   omega
  ·exact base u (d+1) (by omega) h1
theorem refcost(a:Int):Ev (fun k=>qe.f k a) (costI a):=by
 by_cases h:1≤a∧a≤65536
 ·obtain ⟨u,rfl⟩:∃ u:Nat,a=u:=⟨a.toNat,by omega⟩
  rw [costI,if_pos h,tN]
  exact qEo 16 u (by omega) (by omega) (by omega) (by omega)
 ·have hbad:Ev (fun k=>qe.j6 k a true) (costI a):=.s (qe.j6_s · _ _) (.t rfl (.cv (if_neg h).symm))
  refine .s (fun k=>by rw [qe.f]) (.i (fun _=>hbad) (fun h2=>?_))
  rw [dT (by omega)]
  exact hbad
theorem refdcost(key:Nat)(hkey:key<18446744073709551616)(id:Int):Ev (fun k=>qAs.f k (key:Int) id) (dc key id):=by
 have hlt:=fold_lt key (un id)
 have h1:=reffold key hkey [un id] (fun x hx=>by rw [List.mem_singleton.1 hx]; exact (un_eq id).2) (by simp)
 unfold qAs.f
 rw [(un_eq id).1]
 refine .b h1 ?_
 have e:IntKind.u64.wrap (((Mixn.fold key [un id]:Nat):Int).tdiv 281474976710656)=((Mixn.fold key [un id] / 281474976710656:Nat):Int):=by
  rw [Int.tdiv_eq_ediv_of_nonneg (by omega),IntKind.wrap_u64]
  omega
 rw [e,qCQ (n:=((Mixn.fold key [un id] / 281474976710656:Nat):Int)) (by omega) (by omega),qCQ (by omega) (by omega)]
 exact .b (refcost _) (.c _)
theorem qHN(key:Nat)(hkey:key<18446744073709551616)(l:List qB)(h:Chs l):∀(d i:Nat)(a:Int),i+d=l.length→((a = -1∧heavy (l.take i)=[])∨∃ n:Nat,n<i∧a=n∧∃ hn:n<l.length,isBest key (l.take i) l[n]) →
  Ht (fun k=>qp.l7 k (key:Int) l a (i:Int)) (fun w=>(w=(0,false)∧heavy l=[])∨∃ m,isBest key l m∧w=(m.f0,true)):=by
 have hl:=h.len
 intro d
 induction d with
 | zero =>
  intro i a hi hI
  rw [List.take_of_length_le (by omega)]at hI
  refine .s (qp.l7_s · _ _ _ _) (.n (by omega) ?_)
  rcases hI with ⟨rfl,e⟩ | ⟨n,hn,rfl,hnl,hb⟩
  ·exact .t (by decide) (.c (.inl ⟨rfl,e⟩))
  ·refine .n (by omega) (.t (by omega) (.c (.inr ⟨_,hb,?_⟩)))
   rw [nth_get _ _ _ hnl]
 | succ d ih =>
  intro i a hi hI
  have h1:i<l.length:=by omega
  have hx:=h.ok _ (gM h1)
  have ih:=fun b=>ih (i+1) b (by omega)
  rw [qDn l i h1]at ih
  unfold isBest at ih
  rw [qDn l i h1]at ih
  refine .s (qp.l7_s · _ _ _ _) (.t (by omega) (.t (by omega) ?_))
  rw [nth_get _ _ _ h1,w64n i (by omega)]
  by_cases h0:l[i].f1=0
  ·refine .t h0 (ih a ?_)
   rw [if_pos h0,List.append_nil]
   rcases hI with ⟨e1,e2⟩ | ⟨n,hn,e1,hnl,hb⟩
   ·exact .inl ⟨e1,e2⟩
   ·exact .inr ⟨n,by omega,e1,hnl,hb⟩
  ·refine .n h0 ?_
   rw [if_neg h0]at ih
   rcases hI with ⟨rfl,e2⟩ | ⟨n,hn,rfl,hnl,hb⟩
   ·refine .t (by decide) (.s (qp.j45_s · _ _ _ _ _) (.t rfl ?_))
    rw [w64n i (by omega)]
    refine ih _ (.inr ⟨i,by omega,rfl,h1,?_⟩)
    rw [e2]
    exact ⟨by simp,fun y hy=>.inl (by simpa using hy)⟩
   ·have hy:=h.ok _ (gM hnl)
    have hyw:l[n].f1≠0:=by simpa using (List.mem_filter.1 hb.1).2
    have hup:l[n].f0<l[i].f0:=List.pairwise_iff_getElem.1 h.up n i hnl h1 hn
    have c1:=qDM key l[i].f0
    have c2:=qDM key l[n].f0
    refine .n (by omega) (.t (by omega) (.e (refdcost key hkey _) ?_))
    rw [nth_get _ _ _ hnl]
    refine .e (refdcost key hkey _) (.s (qp.j45_s · _ _ _ _ _) ?_)
    rw [qEA c1.1 c1.2 (by omega) (by omega),qEA c2.1 c2.2 (by omega) (by omega),w64n i (by omega)]
    have fi:fineC l[i]:=⟨hx.1,by omega,hx.2.2⟩
    have fn:fineC l[n]:=⟨hy.1,by omega,hy.2.2⟩
    have hsub:∀ z ∈ heavy (l.take i),fineC z:=fun z hz=>(qDG h).1 z (List.mem_filter.2 ⟨List.mem_of_mem_take (List.mem_filter.1 hz).1,(List.mem_filter.1 hz).2⟩)
    refine .i (fun hlt=>ih _ (.inr ⟨i,by omega,rfl,h1,by simp,fun z hz=>?_⟩)) (fun hlt=>ih _ (.inr ⟨n,by omega,rfl,hnl,List.mem_append.2 (.inl hb.1),fun z hz=>?_⟩))
    ·have hlt:ltD key l[i] l[n]:=.inl (oT hlt)
     rcases List.mem_append.1 hz with hz | hz
     ·rcases hb.2 z hz with rfl | h3
      ·exact .inr hlt
      ·exact .inr (qCl fi fn (hsub z hz) hlt h3)
     ·exact .inl (by simpa using hz)
    ·have hlt:¬ (dc key l[i].f0 * l[n].f1<dc key l[n].f0 * l[i].f1):=fun e=>hlt (dT e)
     rcases List.mem_append.1 hz with hz | hz
     ·exact hb.2 z hz
     ·obtain rfl:z=l[i]:=by simpa using hz
      exact .inr (Or.inr ⟨Int.not_lt.1 hlt,hup⟩)
theorem qEp(l:List qB)(id:Int)(hl:l.length≤64):∀(d i:Nat),i+d=l.length→Ev (fun k=>qAD.l14 k l id ((l.take i).filter (fun x => !(x.f0 == id))) (i:Int)) (l.filter (fun x => !(x.f0 == id))):=by
 intro d
 induction d with
 | zero =>
  intro i hi
  refine .s (qAD.l14_s · _ _ _ _) (.n (by omega) (.cv ?_))
  rw [List.take_of_length_le (by omega)]
 | succ d ih =>
  intro i hi
  have h1:i<l.length:=by omega
  have ih:=ih (i+1) (by omega)
  have hlen:((l.take i).filter (fun x => !(x.f0 == id))).length≤i:=Nat.le_trans (List.length_filter_le _ _) (by rw [List.length_take]; omega)
  rw [← List.take_append_getElem h1,List.filter_append]at ih
  refine .s (qAD.l14_s · _ _ _ _) (.t (by omega) (.t (by omega) ?_))
  rw [nth_get _ _ _ h1,w64n i (by omega)]
  refine .i (fun c=>?_) (fun c=>.t (by omega) ?_)
  ·simpa [c] using ih
  ·simpa [c] using ih
theorem without(l:List qB)(id:Int)(hl:l.length≤64):Ev (fun k=>qAD.f k l id) (l.filter (fun x => !(x.f0 == id))):=qEp l id hl l.length 0 (by omega)
theorem qEW(key:Nat)(hkey:key<18446744073709551616)(l0:List qB)(hl0:l0.length≤64):∀(d i:Nat)(l:List qB)(o:List Int),i+d=l0.length→o.length≤i→Chs l→(heavy l).length≤d→Ev (fun k=>qAN.l20 k (key:Int) l0 l o (i:Int)) (o++(ord key l).map (fun x=>x.f0)):=by
 intro d
 induction d with
 | zero =>
  intro i l o hi ho h hd
  refine .s (qAN.l20_s · _ _ _ _ _) (.n (by omega) (.cv ?_))
  have:ord key l=[]:=List.length_eq_zero_iff.1 (by unfold ord; rw [qCj]; omega)
  rw [this,List.map_nil,List.append_nil]
 | succ d ih =>
  intro i l o hi ho h hd
  obtain ⟨w,hw,hP⟩:=qHN key hkey l h l.length 0 (-1) (by omega) (.inl ⟨rfl,rfl⟩)
  refine .s (qAN.l20_s · _ _ _ _ _) (.t (by omega) (.b (a:=w) ?_ ?_))
  ·exact hw
  ·rcases hP with ⟨rfl,e⟩ | ⟨m,hm,rfl⟩
   ·refine .n (by decide) (.cv ?_)
    unfold ord
    rw [e]
    exact (List.append_nil _).symm
   ·refine .t rfl (.t (by omega) (.b (without l m.f0 h.len) ?_))
    rw [w64n i (by omega)]
    have hlen:(heavy (l.filter (fun x => !(x.f0 == m.f0)))).length≤d:=by
     have:=(qEB (heavy l) m (heavy_up h) hm.1).length_eq
     rw [qDJ]
     rw [List.length_cons]at this
     omega
    refine (ih (i+1) _ (o++[m.f0]) (by omega) (by rw [lA,List.length_singleton]; omega) (h.filter _) hlen).v ?_
    rw [qFO key h hm,List.map_cons,List.append_assoc]
    rfl
theorem reforder(key:Nat)(hkey:key<18446744073709551616)(l:List qB)(h:Chs l):Ev (fun k=>qAN.f k (key:Int) l) ((ord key l).map (fun x=>x.f0)):=by
 have hl:=h.len
 have:=qEW key hkey l h.len l.length 0 l [] (by omega) (by simp) h (List.length_filter_le _ _)
 exact this
end Draw
namespace Topo
theorem rweight(n:qA):qAp.f n=some (weight n):=by
 unfold qAp.f weight
 split <;> rfl
def wAny(is:qA→Bool)(of:qA→Int)(l:List qA)(id:Int):Bool:=l.any (fun n=>is n&&decide (of n=id))
theorem qFy{is:qA→Bool}{of:qA→Int}{l:List qA}{id:Int}: wAny is of l id=true↔wIs is of l id:=by
 unfold wAny wIs
 simp [List.any_eq_true]
theorem qFz(is:qA→Bool)(of:qA→Int)(l:List qA)(n:qA)(id:Int):wAny is of (l++[n]) id=(wAny is of l id||(is n&&decide (of n=id))):=by
 unfold wAny
 simp
theorem qGh (is:qA→Bool) (of:qA→Int) (l:List qA) (os:List Int) (h:Nodes l) (hos:os.length=l.length) (id:Int) (hid:∀ j (h1:j<os.length) (h2:j<l.length),os[j]=id↔is l[j]=true∧of l[j]=id) (acc:List qB) {P:List qB→Prop}
  (hP:Ht (fun k=>qf.j57 k l os acc id (wAny is of l id) (cap (wSum is of l id))) P):∀(d j:Nat),j+d=l.length→Ht (fun k=>qf.l29 k l os acc id (wSum is of (l.take j) id) (wAny is of (l.take j) id) (j:Int)) P:=by
 have hl:=h.1
 intro d
 induction d with
 | zero =>
  intro j hj
  refine .s (qf.l29_s · _ _ _ _ _ _ _) (.n (by omega) ?_)
  rw [List.take_of_length_le (by omega)]
  unfold cap at hP
  refine .i (fun c=>?_) (fun c=>?_)
  ·rwa [if_neg (by omega)]at hP
  ·by_cases e:wSum is of l id<65536
   ·rwa [if_pos e]at hP
   ·rw [if_neg e]at hP
    rwa [show wSum is of l id=65536 by omega]
 | succ d ih =>
  intro j hj
  have h1:j<l.length:=by omega
  have h2:j<os.length:=by omega
  have ih:=ih (j+1) (by omega)
  have hs:=wSum_ge is of (l.take j) id (fun n hn=>h.okW n (List.mem_of_mem_take hn))
  have hlt:(l.take j).length≤12:=by rw [List.length_take]; omega
  have hw:=weight_ok (h.okW _ (gM h1))
  rw [← List.take_append_getElem h1,qDW,qFz]at ih
  refine .s (qf.l29_s · _ _ _ _ _ _ _) (.t (by omega) (.t (by omega) ?_))
  rw [nth_get _ _ _ h1,nth_get _ _ _ h2,w64n j (by omega)]
  by_cases c:is l[j]=true∧of l[j]=id
  ·rw [if_pos c,c.1,dT c.2,Bool.true_and,Bool.or_true]at ih
   refine .t ((hid j h2 h1).2 c) (.t (by omega) (.o (rweight l[j]) ?_))
   rw [qCQ (by omega) (by omega)]
   exact ih
  ·have e:(is l[j]&&decide (of l[j]=id))=false:=by
    by_cases c1:is l[j]=true
    ·rw [dF (fun e=>c ⟨c1,e⟩),Bool.and_false]
    ·rw [eq_false_of_ne_true c1,Bool.false_and]
   rw [if_neg c,e,Int.add_zero,Bool.or_false]at ih
   exact .n (fun e=>c ((hid j h2 h1).1 e)) ih
theorem qGi(is:qA→Bool)(of:qA→Int)(l:List qA)(os:List Int)(h:Nodes l)(hos:os.length=l.length)(hof:∀ n ∈ l,is n=true→of n≤999)(hid:∀(id:Nat),1≤id→∀ j (h1:j<os.length) (h2:j<l.length),os[j]=(id:Int)↔is l[j]=true∧of l[j]=(id:Int)):∀(d i:Nat)(acc:List qB),i+d=1000→1≤i→acc.length<i→acc.Pairwise (fun x y=>x.f0<y.f0)→(∀ c:qB,c ∈ acc↔c.f0<i∧wIs is of l c.f0∧c.f1=cap (wSum is of l c.f0)) →
  Ht (fun k=>qf.l14 k l os acc (i:Int)) (WOf is of l):=by
 intro d
 induction d with
 | zero =>
  intro i acc hi h1 hlen hup hmem
  refine .s (qf.l14_s · _ _ _ _) (.n (by omega) (.c ⟨hup,fun c=>(hmem c).trans ⟨fun h=>h.2,fun h=>⟨?_,h⟩⟩⟩))
  obtain ⟨⟨n,hn,hi2,he⟩,_⟩:=h
  have:=hof n hn hi2
  omega
 | succ d ih =>
  intro i acc hi h1 hlen hup hmem
  refine .s (qf.l14_s · _ _ _ _) (.t (by omega) ?_)
  refine qGh is of l os h hos (i:Int) (hid i h1) acc ?_ l.length 0 (by omega)
  refine .s (qf.j57_s · _ _ _ _ _ _) ?_
  rw [w64n i (by omega)]
  refine .i (fun c=>?_) (fun c=>?_)
  ·have c:=qFy.1 c
   refine .t (by omega) (ih (i+1) _ (by omega) (by omega) (by rw [lA,List.length_singleton]; omega) ?_ ?_)
   ·refine List.pairwise_append.2 ⟨hup,List.pairwise_singleton _ _,fun a ha b hb=>?_⟩
    rw [List.mem_singleton.1 hb]
    exact ((hmem a).1 ha).1
   ·intro x
    rw [List.mem_append,List.mem_singleton,hmem]
    constructor
    ·rintro (⟨a,b⟩ | rfl)
     ·exact ⟨by omega,b⟩
     ·exact ⟨by show (i:Int)<((i+1:Nat):Int); omega,c,rfl⟩
    ·rintro ⟨a,b,e⟩
     by_cases q:x.f0=i
     ·right
      rw [q]at e
      cases x; cases q; cases e; rfl
     ·exact .inl ⟨by omega,b,e⟩
  ·have c:¬ wIs is of l i:=fun e=>c (qFy.2 e)
   refine ih (i+1) acc (by omega) (by omega) (by omega) hup (fun x=>(hmem x).trans ⟨fun q=>⟨by omega,q.2⟩,fun q=>⟨?_,q.2⟩⟩)
   have hne:x.f0≠i:=fun e=>c (e ▸ q.2.1)
   have:=q.1
   omega
theorem Ht.wof{is:qA→Bool}{of:qA→Int}{l:List qA}{f:Nat→Option (List qB)}(h:Nodes l)(hf:Ht f (WOf is of l)):Ev f (wL is of l):=by
 obtain ⟨v,e,p⟩:=hf
 exact e.v (p.eq (wL_full is of h).1)
theorem rsum(is:qA→Bool)(of:qA→Int)(l:List qA)(h:Nodes l)(hof:∀ n ∈ l,1≤of n∧of n≤999):Ev (fun k=>qf.f k l (l.map (fun n=>if is n=true then of n else 0))) (wL is of l):=by
 refine Ht.wof h ?_
 refine qGi is of l _ h (List.length_map ..) (fun n hn _=>(hof n hn).2) (fun id hid j h1 h2=>?_) 999 1 [] (by omega) (by omega) (by simp) List.Pairwise.nil ?_
 ·rw [List.getElem_map]
  split
  ·rename_i c
   exact ⟨fun e=>⟨c,e⟩,fun e=>e.2⟩
  ·rename_i c
   exact ⟨fun e=>by omega,fun e=>absurd e.1 c⟩
 ·intro c
  refine ⟨(fun h=>nomatch h),fun h0=>?_⟩
  obtain ⟨h1,⟨n,hn,_,he⟩,_⟩:=h0
  have:=(hof n hn).1
  omega
theorem qEX{l:List qA}(f:qA→Int)(i:Nat)(h1:i<l.length):((l.take i).map f++List.replicate (l.length - i) (0:Int)).set i (f l[i])=(l.take (i+1)).map f++List.replicate (l.length - (i+1)) 0:=by
 have e:l.length - i=(l.length - (i+1))+1:=by omega
 have e2:((l.take i).map f).length=i:=by rw [List.length_map,List.length_take]; omega
 rw [e,List.replicate_succ,List.set_append_right _ _ (by omega),e2,Nat.sub_self,List.set_cons_zero,← List.take_append_getElem h1,List.map_append,List.append_assoc]
 rfl
theorem qGA{l:List qA}(f:qA→Int)(i:Nat)(h1:i<l.length)(h:f l[i]=0):(l.take i).map f++List.replicate (l.length - i) (0:Int)=(l.take (i+1)).map f++List.replicate (l.length - (i+1)) 0:=by
 have e:l.length - i=(l.length - (i+1))+1:=by omega
 rw [e,List.replicate_succ,← List.take_append_getElem h1,List.map_append,List.append_assoc,List.map_singleton,h]
 rfl
theorem rzones{l:List qA}(h:Nodes l):Ev (fun k=>qAL.f k l) (wL isZ ofZ l):=by
 have hl:=h.1
 have go:∀(d i:Nat),i+d=l.length→Ev (fun k=>qAL.l12 k l ((l.take i).map (fun n=>if isZ n=true then ofZ n else 0)++List.replicate (l.length - i) (0:Int)) (i:Int)) (wL isZ ofZ l):=by
  intro d
  induction d with
  | zero =>
   intro i hi
   refine .s (qAL.l12_s · _ _ _) (.n (by omega) ?_)
   rw [List.take_of_length_le (by omega),show l.length - i=0 by omega,List.replicate_zero,List.append_nil]
   exact .b (rsum isZ ofZ l h (fun n hn=>by have:=h.ok n hn; unfold okN at this; unfold ofZ; omega)) (.c _)
  | succ d ih =>
   intro i hi
   have h1:i<l.length:=by omega
   have ih:=ih (i+1) (by omega)
   rw [← qEX _ i h1]at ih
   refine .s (qAL.l12_s · _ _ _) (.t (by omega) (.t (by omega) (.t (by rw [List.length_replicate]; omega) ?_)))
   rw [nth_get _ _ _ h1,w64n i (by omega)]
   exact ih
 unfold qAL.f
 refine .t (by omega) ?_
 exact go l.length 0 (by omega)
theorem rracks{l:List qA}(h:Nodes l)(z:Int):Ev (fun k=>qAJ.f k l z) (wL (isR z) ofR l):=by
 have hl:=h.1
 have go:∀(d i:Nat),i+d=l.length→Ev (fun k=>qAJ.l12 k l z ((l.take i).map (fun n=>if isR z n=true then ofR n else 0)++List.replicate (l.length - i) (0:Int)) (i:Int)) (wL (isR z) ofR l):=by
  intro d
  induction d with
  | zero =>
   intro i hi
   refine .s (qAJ.l12_s · _ _ _ _) (.n (by omega) ?_)
   rw [List.take_of_length_le (by omega),show l.length - i=0 by omega,List.replicate_zero,List.append_nil]
   exact .b (rsum (isR z) ofR l h (fun n hn=>by have:=h.ok n hn; unfold okN at this; unfold ofR; omega)) (.c _)
  | succ d ih =>
   intro i hi
   have h1:i<l.length:=by omega
   have ih:=ih (i+1) (by omega)
   refine .s (qAJ.l12_s · _ _ _ _) (.t (by omega) (.t (by omega) ?_))
   rw [nth_get _ _ _ h1,w64n i (by omega)]
   by_cases c:l[i].f1=z
   ·refine .t c (.t (by rw [List.length_replicate]; omega) ?_)
    rw [← qEX _ i h1,if_pos (show isR z l[i]=true by unfold isR; simpa using c)]at ih
    exact ih
   ·refine .n c ?_
    rw [← qGA _ i h1 (if_neg (by unfold isR; simpa using c))]at ih
    exact ih
 unfold qAJ.f
 refine .t (by omega) ?_
 exact go l.length 0 (by omega)
theorem qEY(id w:Int):∀ l:List qB,(∀ c ∈ l,c.f0<id)→addW id w l=l++[⟨id,w⟩]
 | [],_=>rfl
 | c :: r,h=>by
  unfold addW
  rw [if_pos (h c List.mem_cons_self),qEY id w r (fun x hx=>h x (List.mem_cons_of_mem _ hx))]
  rfl
theorem rleaves{l:List qA}(h:Nodes l)(z r:Int):Ev (fun k=>qg.f k l z r) (wL (isL z r) ofL l):=by
 have hl:=h.1
 have go:∀(d i:Nat),i+d=l.length→Ev (fun k=>qg.l14 k l z r (wL (isL z r) ofL (l.take i)) (i:Int)) (wL (isL z r) ofL l):=by
  intro d
  induction d with
  | zero =>
   intro i hi
   refine .s (qg.l14_s · _ _ _ _ _) (.n (by omega) (.cv ?_))
   rw [List.take_of_length_le (by omega)]
  | succ d ih =>
   intro i hi
   have h1:i<l.length:=by omega
   have ih:=ih (i+1) (by omega)
   obtain ⟨hW,hlen⟩:=wL_of (isL z r) ofL l h.okW i (by omega)
   rw [qEl i h1]at ih
   have hlast:∀ c ∈ wL (isL z r) ofL (l.take i),c.f0<ofL l[i]:=by
    intro c hc
    obtain ⟨⟨n,hn,_,he⟩,_⟩:=(hW.mem c).1 hc
    rw [← he]
    obtain ⟨j,hj,rfl⟩:=List.getElem_of_mem hn
    rw [List.length_take]at hj
    rw [List.getElem_take]
    exact List.pairwise_iff_getElem.1 h.up j i (by omega) h1 (by omega)
   generalize wL (isL z r) ofL (l.take i)=v at hlen ih hlast ⊢
   have hj:∀ y:Bool,y=isL z r l[i]→Ev (fun k=>qg.j41 k l z r v (i:Int) y) (wL (isL z r) ofL l):=by
    intro y hy
    subst hy
    refine .s (qg.j41_s · _ _ _ _ _ _) ?_
    rw [nth_get _ _ _ h1,w64n i (by omega)]
    unfold wOne at ih
    refine .i (fun c=>?_) (fun c=>?_)
    ·rw [if_pos c,qEY _ _ _ hlast]at ih
     exact .t (by omega) (.b0 (rweight l[i]) (.t (by omega) ih))
    ·rw [if_neg c]at ih
     exact ih
   unfold isL at hj
   refine .s (qg.l14_s · _ _ _ _ _) (.t (by omega) ?_)
   rw [nth_get _ _ _ h1]
   refine .i (fun c1=>?_) (fun c1=>?_)
   ·refine .i (fun c2=>hj _ (by simp [c1,c2])) (fun c2=>.t (by omega) (hj _ (by simp [c1,c2])))
   ·refine .t (by omega) (.i (fun c3=>?_) (fun c3=>hj _ (by simp [c1,c3])))
    exact .i (fun c2=>hj _ (by simp [c1,c2,c3])) (fun c2=>hj _ (by simp [c1,c2,c3]))
 unfold qg.f
 exact go l.length 0 (by omega)
end Topo
namespace Place
theorem rfold3(g a b c:Int):Ev (fun k=>qAH.f k (IntKind.u64.wrap g) [IntKind.u64.wrap a,IntKind.u64.wrap b,IntKind.u64.wrap c]) ((Mixn.fold (Draw.un g) [Draw.un a,Draw.un b,Draw.un c]:Nat):Int):=by
 have h:=Draw.reffold (Draw.un g) (Draw.un_eq g).2 [Draw.un a,Draw.un b,Draw.un c] (fun x hx=>by
  simp only [List.mem_cons,List.not_mem_nil,or_false]at hx
  rcases hx with rfl | rfl | rfl <;> exact (Draw.un_eq _).2) (by simp)
 rw [(Draw.un_eq g).1,(Draw.un_eq a).1,(Draw.un_eq b).1,(Draw.un_eq c).1]
 exact h
def tr(x:qX):Ar3_i64:=⟨x.f0,x.f1,x.f2⟩
theorem qGB (l:List qA) (rule:List qK) (g size:Int) (hand:List Ar3_i64) (out:List Int) (i:Nat) (hi:i<rule.length) (hs:(1≤rule[i].f1∧rule[i].f1≤3)∧1≤rule[i].f2) (j:Nat) (x:qX) (hx:nth Ar3_i64.z hand (j:Int)=tr x) (o:List Int) (ho:o.length≤12) (base:List qX) (hb:base.length≤6000000000) {v:List Int}
  (hv:Ev (fun k=>qD.l78 k l rule g size hand (i:Int) out ((base++(o.take rule[i].f2.toNat).map (deeper rule[i] x)).map tr) (w64 ((j:Int)+1))) v):∀(d m:Nat),m+d=min rule[i].f2.toNat o.length→Ev (fun k=>qD.l212 k l rule g size hand (i:Int) out (j:Int) o ((base++(o.take m).map (deeper rule[i] x)).map tr) (m:Int)) v:=by
 intro d
 induction d with
 | zero =>
  intro m hm
  have hj:Ev (fun k=>qD.j220 k l rule g size hand (i:Int) out (j:Int) o ((base++(o.take m).map (deeper rule[i] x)).map tr) (m:Int) false) v:=by
   refine .s (qD.j220_s · _ _ _ _ _ _ _ _ _ _ _ _) (.n (by decide) ?_)
   rw [List.take_eq_take_min,← hm,Nat.add_zero]at hv
   exact hv
  refine .s (qD.l212_s · _ _ _ _ _ _ _ _ _ _ _) ?_
  rw [nth_get _ _ _ hi]
  refine .i (fun c=>?_) (fun _=>hj)
  rw [dF (by omega)]
  exact hj
 | succ d ih =>
  intro m hm
  have h1:m<o.length:=by omega
  have ih:=ih (m+1) (by omega)
  have hlen:((o.take m).map (deeper rule[i] x)).length≤12:=by rw [List.length_map,List.length_take]; omega
  have e0:(base++(o.take (m+1)).map (deeper rule[i] x)).map tr=(base++(o.take m).map (deeper rule[i] x)).map tr++[tr (deeper rule[i] x o[m])]:=by
   rw [← List.take_append_getElem h1]
   simp only [List.map_append,List.map_singleton,List.append_assoc]
  rw [e0]at ih
  have e:∀ a b c:Int,(⟨a,b,c⟩:Ar3_i64)=tr (deeper rule[i] x o[m])→Ev (fun k=>qD.j247 k l rule g size hand (i:Int) out (j:Int) o ((base++(o.take m).map (deeper rule[i] x)).map tr) (m:Int) a b c) v:=by
   intro a b c e
   refine .s (qD.j247_s · _ _ _ _ _ _ _ _ _ _ _ _ _ _) (.t ?_ ?_)
   ·rw [List.length_map,lA]
    omega
   ·rw [e,w64n m (by omega)]
    exact ih
  refine .s (qD.l212_s · _ _ _ _ _ _ _ _ _ _ _) (.t (by omega) (.s (qD.j220_s · _ _ _ _ _ _ _ _ _ _ _ _) ?_))
  rw [nth_get _ _ _ hi,nth_get _ _ _ h1,hx,qCQ (n:=rule[i].f1 - 1) (by omega) (by omega)]
  refine .t (dT (by omega)) (.t (by omega) ?_)
  unfold deeper at e
  refine .i (fun c=>e _ _ _ ?_) (fun c=>.i (fun c2=>e _ _ _ ?_) (fun c2=>.t (by omega) (e _ _ _ ?_)))
  ·rw [if_pos (by omega)]
   rfl
  ·rw [if_neg (by omega),if_pos (by omega)]
   rfl
  ·rw [if_neg (by omega),if_neg (by omega)]
   rfl
theorem qGC (l:List qA) (rule:List qK) (g size:Int) (hand:List Ar3_i64) (out:List Int) (more:List Ar3_i64) (i j:Nat) (x:qX) (hx:nth Ar3_i64.z hand (j:Int)=tr x) (ho:out.length≤3) {v:List Int}
  (hv:Ev (fun k=>qD.j123 k l rule g size hand (i:Int) out more (j:Int) (decide ((out.length:Int)<size∧¬ x.f2 ∈ out))) v):∀(d m:Nat),m+d=out.length→Ev (fun k=>qD.l104 k l rule g size hand (i:Int) out more (j:Int) (decide (x.f2 ∈ out.take m)) (m:Int)) v:=by
 intro d
 induction d with
 | zero =>
  intro m hm
  rw [List.take_of_length_le (by omega)]
  refine .s (qD.l104_s · _ _ _ _ _ _ _ _ _ _ _) (.n (by omega) (.i (fun c=>?_) (fun c=>?_)))
  ·rw [dF (fun e=>e.2 (oT c))]at hv
   exact hv
  ·have e:decide ((out.length:Int)<size∧¬ x.f2 ∈ out)=decide ((out.length:Int)<size):=by
    rw [decide_eq_decide]
    exact ⟨fun h=>h.1,fun h=>⟨h,fun q=>c (dT q)⟩⟩
   rwa [e]at hv
 | succ d ih =>
  intro m hm
  have h1:m<out.length:=by omega
  have ih:=ih (m+1) (by omega)
  refine .s (qD.l104_s · _ _ _ _ _ _ _ _ _ _ _) (.t (by omega) ?_)
  rw [w64n m (by omega),nth_get _ _ _ h1,hx]
  refine .i (fun c=>?_) (fun c=>.t (by omega) ?_)
  ·have c:=oT c
   rw [dT]at ih
   ·exact ih
   ·rw [← List.take_append_getElem h1]
    exact List.mem_append.2 (.inl c)
  ·have c:¬ x.f2 ∈ out.take m:=fun e=>c (dT e)
   have e:decide (x.f2 ∈ out.take (m+1))=(out[m] == (tr x).f2):=by
    rw [← List.take_append_getElem h1,Bool.eq_iff_iff,decide_eq_true_eq,beq_iff_eq,List.mem_append,List.mem_singleton]
    exact ⟨fun h=>(h.resolve_left c).symm,fun h=>.inr h.symm⟩
   rw [e]at ih
   exact ih
theorem qGj{l:List qA}(h:Topo.Nodes l)(rule:List qK)(hr:rule.length≤8)(g size:Int)(hz:size≤3):∀(d i:Nat)(hand:List qX)(out:List Int)(a:Int),i+d=rule.length→hand.length≤12 ^ i→(out.length:Int)≤size→Rule.goes a (rule.drop i)=true→(a = -1→hand=[])→Ev (fun k=>qD.l24 k l rule g size (hand.map tr) out (i:Int)) (((rule.drop i).foldl (stepL l g size) (hand,out)).2):=by
 intro d
 induction d with
 | zero =>
  intro i hand out a hi _ _ _ _
  refine .s (qD.l24_s · _ _ _ _ _ _ _) (.n (by omega) (.cv ?_))
  rw [List.drop_eq_nil_of_le (by omega)]
  rfl
 | succ d ih =>
  intro i hand out a hi hh ho hg ha
  have h1:i<rule.length:=by omega
  have hp:hand.length≤429981696:=Nat.le_trans hh (Nat.le_trans (Nat.pow_le_pow_right (by omega) (show i≤8 by omega)) (by decide))
  have h12:0<12 ^ i:=Nat.pow_pos (by omega)
  rw [List.drop_eq_getElem_cons h1]at hg ⊢
  obtain ⟨b,hb,hc⟩:=qFx hg
  rw [List.foldl_cons]
  have hml:(hand.map tr).length=hand.length:=List.length_map ..
  refine .s (qD.l24_s · _ _ _ _ _ _ _) (.t (by omega) (.t (by omega) ?_))
  rw [nth_get _ _ _ h1]
  rcases hc with ⟨c1,c2,c3⟩ | ⟨c1,c2,c3,c4,c5⟩ | ⟨c1,c2,c3⟩
  ·have e:=ha c2
   subst e
   refine .t c1 (.t (by decide) (.s (qD.j61_s · _ _ _ _ _ _ _ _) (.s (qD.l78_s · _ _ _ _ _ _ _ _ _) (.n (by decide) ?_))))
   rw [w64n i (by omega),stepL,if_pos c1]
   exact ih (i+1) [⟨0,0,0⟩] _ b (by omega) (by rw [Nat.pow_succ,List.length_singleton]; omega) ho hb (fun e=>by omega)
  ·refine .n (by omega) (.s (qD.j61_s · _ _ _ _ _ _ _ _) ?_)
   rw [stepL,if_neg (by omega),if_pos c1]
   have ih:=ih (i+1) (hand.flatMap (qHc l g rule[i])) out b (by omega) (by
    have:=qDD (qHc l g rule[i]) (qCg h g rule[i]) hand
    rw [Nat.pow_succ]
    omega) ho hb (fun e=>by omega)
   have go:∀(d j:Nat),j+d=hand.length→Ev (fun k=>qD.l78 k l rule g size (hand.map tr) (i:Int) out (((hand.take j).flatMap (qHc l g rule[i])).map tr) (j:Int)) (((rule.drop (i+1)).foldl (stepL l g size) (hand.flatMap (qHc l g rule[i]),out)).2):=by
    intro d
    induction d with
    | zero =>
     intro j hj
     refine .s (qD.l78_s · _ _ _ _ _ _ _ _ _) (.n (by omega) ?_)
     rw [List.take_of_length_le (by omega),w64n i (by omega)]
     exact ih
    | succ d ih2 =>
     intro j hj
     have h2:j<hand.length:=by omega
     have h3:j<(hand.map tr).length:=by omega
     have ih2:=ih2 (j+1) (by omega)
     rw [qEU _ _ _ h2]at ih2
     have hlen:=qDD (qHc l g rule[i]) (qCg h g rule[i]) (hand.take j)
     rw [List.length_take]at hlen
     have hx:nth Ar3_i64.z (hand.map tr) (j:Int)=tr hand[j]:=by rw [nth_get _ _ _ h3,List.getElem_map]
     have hk:=qEC h g rule[i] hand[j].f0 hand[j].f1
     have fin:∀ c,Draw.Chs c→kids l g rule[i] hand[j].f0 hand[j].f1=(Draw.ord (Mixn.fold (Draw.un g) [Draw.un rule[i].f1,Draw.un hand[j].f0,Draw.un hand[j].f1]) c).map (fun x=>x.f0)→Ev (fun k=>qD.j183 k l rule g size (hand.map tr) (i:Int) out (((hand.take j).flatMap (qHc l g rule[i])).map tr) (j:Int) c) (((rule.drop (i+1)).foldl (stepL l g size) (hand.flatMap (qHc l g rule[i]),out)).2):=by
      intro c hc e
      refine .s (qD.j183_s · _ _ _ _ _ _ _ _ _ _) ?_
      rw [nth_get _ _ _ h1,hx]
      refine .b (rfold3 g rule[i].f1 hand[j].f0 hand[j].f1) (.b (Draw.reforder _ (fold_lt _ (Draw.un_eq g).2 _) c hc) ?_)
      rw [← e]
      unfold qHc at ih2 ⊢
      have:=qGB l rule g size (hand.map tr) out i h1 ⟨c2,c3.1⟩ j hand[j] hx (kids l g rule[i] hand[j].f0 hand[j].f1) hk ((hand.take j).flatMap (qHc l g rule[i])) (by omega) (v:=((rule.drop (i+1)).foldl (stepL l g size) (hand.flatMap (qHc l g rule[i]),out)).2) (by rw [w64n j (by omega)]; exact ih2) (min rule[i].f2.toNat (kids l g rule[i] hand[j].f0 hand[j].f1).length) 0 (by omega)
      rw [List.take_zero,List.map_nil,List.append_nil]at this
      exact this
     refine .s (qD.l78_s · _ _ _ _ _ _ _ _ _) (.t (by omega) (.t (by omega) ?_))
     rw [nth_get _ _ _ h1,hx]
     have hz:=qDY h
     have hr:=qET h hand[j].f0
     have hv:=qDo h hand[j].f0 hand[j].f1
     unfold kids at fin
     refine .n (by omega) (.b (Topo.rleaves h _ _) (.i (fun q=>.b (Topo.rzones h) (.s (qD.j162_s · _ _ _ _ _ _ _ _ _ _) ?_)) (fun q=>.s (qD.j162_s · _ _ _ _ _ _ _ _ _ _) ?_)))
     ·rw [nth_get _ _ _ h1,hx]
      exact .n (by omega) (fin _ hz (by rw [if_pos q]))
     ·rw [nth_get _ _ _ h1,hx]
      exact .i (fun q2=>.b (Topo.rracks h _) (fin _ hr (by rw [if_neg q,if_pos q2]; rfl))) (fun q2=>fin _ hv (by rw [if_neg q,if_neg q2]; rfl))
   exact go hand.length 0 (by omega)
  ·refine .n (by omega) (.s (qD.j61_s · _ _ _ _ _ _ _ _) ?_)
   rw [stepL,if_neg (by omega),if_neg (by omega)]
   have ih:=ih (i+1) [] (hand.foldl (emit size) out) b (by omega) (Nat.zero_le _) (qDE size hand out ho) hb (fun _=>rfl)
   have go:∀(d j:Nat),j+d=hand.length→Ev (fun k=>qD.l78 k l rule g size (hand.map tr) (i:Int) ((hand.take j).foldl (emit size) out) [] (j:Int)) (((rule.drop (i+1)).foldl (stepL l g size) ([],hand.foldl (emit size) out)).2):=by
    intro d
    induction d with
    | zero =>
     intro j hj
     refine .s (qD.l78_s · _ _ _ _ _ _ _ _ _) (.n (by omega) ?_)
     rw [List.take_of_length_le (by omega),w64n i (by omega)]
     exact ih
    | succ d ih2 =>
     intro j hj
     have h2:j<hand.length:=by omega
     have h3:j<(hand.map tr).length:=by omega
     have ih2:=ih2 (j+1) (by omega)
     rw [qDp _ _ _ _ h2]at ih2
     have hlen:=qDE size (hand.take j) out ho
     have hx:nth Ar3_i64.z (hand.map tr) (j:Int)=tr hand[j]:=by rw [nth_get _ _ _ h3,List.getElem_map]
     generalize (hand.take j).foldl (emit size) out=q at ih2 hlen ⊢
     refine .s (qD.l78_s · _ _ _ _ _ _ _ _ _) (.t (by omega) (.t (by omega) ?_))
     rw [nth_get _ _ _ h1]
     refine .t c1 ?_
     refine qGC l rule g size (hand.map tr) q [] i j hand[j] hx (by omega) ?_ q.length 0 (by omega)
     refine .s (qD.j123_s · _ _ _ _ _ _ _ _ _ _) ?_
     rw [hx,w64n j (by omega)]
     unfold emit at ih2
     refine .i (fun c=>?_) (fun c=>?_)
     ·rw [if_pos (oT c)]at ih2
      exact .t (by omega) ih2
     ·rw [if_neg (fun e=>c (dT e))]at ih2
      exact ih2
   exact go hand.length 0 (by omega)
theorem rrun{l:List qA}{rule:List qK}{g size:Int}(h:mayRun l rule g size):Ev (fun k=>qD.f k l rule g size) (runL l rule g size):=by
 unfold qD.f
 exact qGj h.1 rule h.2.1.1.2 g size h.2.2.2.2 rule.length 0 [] [] (-1) (by omega) (Nat.zero_le _) (by have:=h.2.2.2.1; show ((0:Nat):Int)≤size; omega) h.2.1.2 (fun _=>rfl)
end Place
namespace Topo
def apartR(l:List qA):List Int→List Int→Bool
 | _,[]=>true
 | met,id :: r=>match l.find? (fun n=>decide (n.f0=id)) with
  | some n => !decide (n.f1 ∈ met)&&apartR l (met++[n.f1]) r
  | none=>false
def apartT(l:List qA):List Int→List Int→Bool
 | _,[]=>true
 | met,id :: r=>match l.find? (fun n=>decide (n.f0=id) && !decide (n.f1 ∈ met)) with
  | some n=>apartT l (met++[n.f1]) r
  | none=>false
theorem qGD (l:List qA) (ids met:List Int) (i:Nat) (w:Bool) (hl:l.length<4611686018427387904) (hm:met.length<1000000000000) (hi:i<ids.length) (hil:ids.length<4611686018427387904)
  (hs:∀ n,l.find? (fun n=>decide (n.f0=ids[i]) && !decide (n.f1 ∈ met))=some n→Ev (fun k=>qAM.l18 k l ids (met++[n.f1]) ((i+1:Nat):Int)) w)
  (hn:l.find? (fun n=>decide (n.f0=ids[i]) && !decide (n.f1 ∈ met))=none→w=false) :
  ∀(d j:Nat),j+d=l.length→(l.take j).find? (fun n=>decide (n.f0=ids[i]) && !decide (n.f1 ∈ met))=none→Ev (fun k=>qAM.l35 k l ids met (i:Int) (j:Int)) w:=by
 intro d
 induction d with
 | zero =>
  intro j hj ht
  refine .s (qAM.l35_s · _ _ _ _ _) (.n (by omega) (.cv ?_))
  rw [List.take_of_length_le (by omega)]at ht
  exact (hn ht).symm
 | succ d ih =>
  intro j hj ht
  have h1:j<l.length:=by omega
  refine .s (qAM.l35_s · _ _ _ _ _) (.t (by omega) (.t (by omega) ?_))
  have hb:∀ b:Bool,b=(decide (l[j].f0=ids[i]) && !decide (l[j].f1 ∈ met))→Ev (fun k=>qAM.j58 k l ids met (i:Int) (j:Int) b) w:=by
   intro b hb
   refine .s (qAM.j58_s · _ _ _ _ _ _) ?_
   cases b with
   | true =>
    refine .t rfl (.t (by omega) ?_)
    rw [nth_get _ _ _ h1,w64n i (by omega)]
    refine hs _ ?_
    have e:=congrArg (List.find? (fun n=>decide (n.f0=ids[i]) && !decide (n.f1 ∈ met))) (List.take_append_drop j l)
    rw [← e,List.find?_append,ht,List.drop_eq_getElem_cons h1,List.find?_cons_of_pos (p:=fun n:qA=>decide (n.f0=ids[i]) && !decide (n.f1 ∈ met)) hb.symm]
    rfl
   | false =>
    refine .n (by decide) ?_
    rw [w64n j (by omega)]
    refine ih (j+1) (by omega) ?_
    rw [List.take_add_one,List.find?_append,ht,List.getElem?_eq_getElem h1]
    simp only [Option.toList_some,Option.none_or]
    rw [List.find?_cons_of_neg]
    ·rfl
    ·rw [← hb]; decide
  rw [nth_get _ _ _ h1,nth_get _ _ _ hi]
  by_cases h:l[j].f0=ids[i]
  ·refine .t h (.b (contains met _ (by omega)) (hb _ ?_))
   rw [dT h]; rfl
  ·refine .n h (hb _ ?_)
   rw [dF h]; rfl
theorem qGE(l:List qA)(ids:List Int)(hl:l.length<4611686018427387904)(hil:ids.length<500000000000):∀(d i:Nat)(met:List Int),i+d=ids.length→met.length=i→Ev (fun k=>qAM.l18 k l ids met (i:Int)) (apartT l met (ids.drop i)):=by
 intro d
 induction d with
 | zero =>
  intro i met hi hm
  refine .s (qAM.l18_s · _ _ _ _) (.n (by omega) (.cv ?_))
  rw [List.drop_eq_nil_of_le (by omega)]
  rfl
 | succ d ih =>
  intro i met hi hm
  have h1:i<ids.length:=by omega
  refine .s (qAM.l18_s · _ _ _ _) (.t (by omega) (.t (by omega) ?_))
  refine qGD l ids met i _ hl (by omega) h1 (by omega) ?_ ?_ l.length 0 (by omega) rfl
  ·intro n hn
   refine (ih (i+1) _ (by omega) (by simp [hm])).v ?_
   rw [List.drop_eq_getElem_cons h1,apartT,hn]
  ·intro hn
   rw [List.drop_eq_getElem_cons h1,apartT,hn]
theorem qGF:∀(p:Int)(l:List qA),rise p l=true→∀ n ∈ l,p<n.f0
 | _,[],_,_,h=>nomatch h
 | p,m :: l,h,n,hn=>by
  simp only [rise,Bool.and_eq_true,decide_eq_true_eq]at h
  rcases List.mem_cons.1 hn with rfl | hn
  ·exact h.1.2
  ·exact Int.lt_trans h.1.2 (qGF _ l h.2 n hn)
theorem qFH(id:Int)(met:List Int):∀(p:Int)(l:List qA),rise p l=true→l.find? (fun n=>decide (n.f0=id) && !decide (n.f1 ∈ met))=match l.find? (fun n=>decide (n.f0=id)) with
  | some n=>if n.f1 ∈ met then none else some n
  | none=>none
 | _,[],_=>rfl
 | p,m :: l,h=>by
  simp only [rise,Bool.and_eq_true,decide_eq_true_eq]at h
  by_cases hm:m.f0=id
  ·rw [List.find?_cons_of_pos (a:=m) (p:=fun n:qA=>decide (n.f0=id)) (by simpa using hm)]
   by_cases hz:m.f1 ∈ met
   ·simp only [hz,if_true]
    rw [List.find?_eq_none]
    intro n hn
    rcases List.mem_cons.1 hn with rfl | hn
    ·simp [hz]
    ·have:=qGF _ _ h.2 n hn
     have:¬ n.f0=id:=by omega
     simp [this]
   ·rw [List.find?_cons_of_pos (by simp [hm,hz])]
    simp only [hz,if_false]
  ·rw [List.find?_cons_of_neg (by simp [hm]),List.find?_cons_of_neg (by simpa using hm)]
   exact qFH id met _ l h.2
theorem qDq(l:List qA)(h:rise 0 l=true):∀(ids met:List Int),apartT l met ids=apartR l met ids
 | [],_=>rfl
 | id :: r,met=>by
  rw [apartT,apartR,qFH id met 0 l h]
  cases l.find? (fun n=>decide (n.f0=id)) with
  | none=>rfl
  | some n =>
   by_cases hz:n.f1 ∈ met
   ·simp [hz]
   ·simp only [hz,if_false,decide_false,Bool.not_false,Bool.true_and]
    exact qDq l h r _
theorem apart(l:List qA)(ids:List Int)(hl:l.length<4611686018427387904)(hil:ids.length<500000000000):Ev (fun k=>qAM.f k l ids) (decide (Nodes l)&&apartR l [] ids):=by
 unfold qAM.f
 refine .b (check l hl) ?_
 by_cases h:Nodes l
 ·rw [dT h]
  refine .t rfl ((qGE l ids hl hil ids.length 0 [] (by omega) rfl).v ?_)
  rw [List.drop_zero,qDq l h.2,Bool.true_and]
 ·rw [dF h]
  exact .n (by decide) (.c _)
def find(l:List qA)(id:Int):qA × Bool:=match l.find? (fun n=>decide (n.f0=id)) with
 | some n=>(n,true)
 | none=>(⟨0,0,0,0,false,false⟩,false)
theorem qHO(l:List qA)(id:Int)(hl:l.length<4611686018427387904):∀(d i:Nat),i+d=l.length→Ev (fun k=>qAA.l7 k l id (i:Int)) (find (l.drop i) id):=by
 intro d
 induction d with
 | zero =>
  intro i hi
  refine .s (qAA.l7_s · _ _ _) (.n (by omega) (.cv ?_))
  rw [List.drop_eq_nil_of_le (by omega)]
  rfl
 | succ d ih =>
  intro i hi
  have h1:i<l.length:=by omega
  refine .s (qAA.l7_s · _ _ _) (.t (by omega) (.t (by omega) ?_))
  rw [List.drop_eq_getElem_cons h1,nth_get _ _ _ h1]
  by_cases h:l[i].f0=id
  ·refine .t h (.cv ?_)
   rw [find,List.find?_cons_of_pos (by simpa using h)]
  ·refine .n h ?_
   rw [w64n i (by omega)]
   refine (ih (i+1) (by omega)).v ?_
   rw [find,find,List.find?_cons_of_neg (by simpa using h)]
theorem reffind(l:List qA)(id:Int)(hl:l.length<4611686018427387904):Ev (fun k=>qAA.f k l id) (find l id):=by
 unfold qAA.f
 exact qHO l id hl l.length 0 (by omega)
def zn(l:List qA)(id:Int):Int:=(find l id).1.f1
theorem qGG(l:List qA)(ids:List Int)(i:Nat)(t:qA × Bool)(w:Bool)(hl:l.length<4611686018427387904)(hi:i<ids.length)(hil:ids.length<4611686018427387904):∀(d j:Nat),j+d=i →
  (t.1.f1 ∈ ((ids.take i).drop j).map (zn l)→w=false)→(¬ t.1.f1 ∈ ((ids.take i).drop j).map (zn l)→Ev (fun k=>qi.l5 k l ids ((i+1:Nat):Int)) w) →
  Ev (fun k=>qi.l31 k l ids (i:Int) t (j:Int)) w:=by
 intro d
 induction d with
 | zero =>
  intro j hj _ hn
  refine .s (qi.l31_s · _ _ _ _ _) (.n (by omega) ?_)
  rw [w64n i (by omega)]
  refine hn ?_
  rw [List.drop_eq_nil_of_le (by simp; omega)]
  simp
 | succ d ih =>
  intro j hj hy hn
  have h1:j<ids.length:=by omega
  have h2:j<(ids.take i).length:=by simp; omega
  rw [List.drop_eq_getElem_cons h2,List.getElem_take,List.map_cons,List.mem_cons]at hy hn
  refine .s (qi.l31_s · _ _ _ _ _) (.t (by omega) (.t (by omega) ?_))
  rw [nth_get _ _ _ h1]
  refine .b (reffind l _ hl) ?_
  by_cases h:t.1.f1=zn l ids[j]
  ·exact .t h (.cv (hy (.inl h)).symm)
  ·refine .n h ?_
   rw [w64n j (by omega)]
   exact ih (j+1) (by omega) (fun m=>hy (.inr m)) (fun m=>hn (fun o=>o.elim h m))
theorem qGk(l:List qA)(ids:List Int)(hl:l.length<4611686018427387904)(hil:ids.length<500000000000):∀(d i:Nat),i+d=ids.length→Ev (fun k=>qi.l5 k l ids (i:Int)) (apartR l ((ids.take i).map (zn l)) (ids.drop i)):=by
 intro d
 induction d with
 | zero =>
  intro i hi
  refine .s (qi.l5_s · _ _ _) (.n (by omega) (.cv ?_))
  rw [List.drop_eq_nil_of_le (by omega)]
  rfl
 | succ d ih =>
  intro i hi
  have h1:i<ids.length:=by omega
  refine .s (qi.l5_s · _ _ _) (.t (by omega) (.t (by omega) ?_))
  rw [nth_get _ _ _ h1,List.drop_eq_getElem_cons h1,apartR]
  have ih:=ih (i+1) (by omega)
  rw [List.take_add_one,List.getElem?_eq_getElem h1,Option.toList_some,List.map_append,List.map_singleton]at ih
  refine .b (reffind l _ hl) ?_
  have e:zn l ids[i]=(find l ids[i]).1.f1:=rfl
  unfold find at e ⊢
  cases hf:l.find? (fun n=>decide (n.f0=ids[i])) with
  | none=>exact .n (by decide) (.c _)
  | some n =>
   rw [hf]at e
   rw [e]at ih
   refine .t rfl ?_
   refine qGG l ids i (n,true) _ hl h1 (by omega) i 0 (by omega) ?_ ?_
   ·intro h
    rw [List.drop_zero]at h
    show (!decide (n.f1 ∈ _)&&_)=false
    rw [dT h]
    rfl
   ·intro h
    rw [List.drop_zero]at h
    refine ih.v ?_
    show _=(!decide (n.f1 ∈ _)&&_)
    rw [dF h]
    rfl
theorem refapart(l:List qA)(ids:List Int)(hl:l.length<4611686018427387904)(hil:ids.length<500000000000):Ev (fun k=>qi.f k l ids) (apartR l [] ids):=by
 unfold qi.f
 exact qGk l ids hl hil ids.length 0 (by omega)
end Topo
namespace Place
theorem qFI{is:qA→Bool}{of:qA→Int}{l:List qA}{id:Int}(h:∀ n ∈ l,Topo.okW n):0<Topo.wSum is of l id↔∃ n ∈ l,is n=true∧of n=id∧0<Topo.weight n:=by
 induction l with
 | nil=>exact ⟨fun h=>absurd h (Int.lt_irrefl 0),fun h=>by obtain ⟨_,h,_⟩:=h; cases h⟩
 | cons n l ih =>
  have hl:∀ m ∈ l,Topo.okW m:=fun m hm=>h m (List.mem_cons_of_mem _ hm)
  have ih:=ih hl
  have h0:=(Topo.wSum_ge is of l id hl).1
  have hw:=(Topo.weight_ok (h n List.mem_cons_self)).1
  have e:Topo.wSum is of (n :: l) id=Topo.wSum is of l id+if is n=true∧of n=id then Topo.weight n else 0:=by
   unfold Topo.wSum
   rw [List.filter_cons]
   by_cases c:is n=true∧of n=id
   ·rw [if_pos (by simp [c]),if_pos c,List.map_cons,List.sum_cons]
    omega
   ·rw [if_neg (by simpa using c),if_neg c]
    omega
  rw [e]
  constructor
  ·intro hp
   by_cases c:is n=true∧of n=id
   ·rw [if_pos c]at hp
    by_cases hw0:0<Topo.weight n
    ·exact ⟨n,List.mem_cons_self,c.1,c.2,hw0⟩
    ·obtain ⟨m,hm,q⟩:=ih.1 (by omega)
     exact ⟨m,List.mem_cons_of_mem _ hm,q⟩
   ·rw [if_neg c]at hp
    obtain ⟨m,hm,q⟩:=ih.1 (by omega)
    exact ⟨m,List.mem_cons_of_mem _ hm,q⟩
  ·rintro ⟨m,hm,q1,q2,q3⟩
   rcases List.mem_cons.1 hm with rfl | hm
   ·rw [if_pos ⟨q1,q2⟩]
    omega
   ·have:=ih.2 ⟨m,hm,q1,q2,q3⟩
    split <;> omega
theorem qGH{key:Nat}{c:List qB}{x:qB}: x ∈ Draw.ord key c↔x ∈ c∧x.f1≠0:=by
 unfold Draw.ord Draw.heavy
 rw [qCf,List.mem_filter]
 simp
theorem qEq{l:List qA}(h:Topo.Nodes l)(is:qA→Bool)(of:qA→Int)(key:Nat)(id:Int):id ∈ (Draw.ord key (Topo.wL is of l)).map (fun x=>x.f0)↔∃ n ∈ l,is n=true∧of n=id∧0<Topo.weight n:=by
 have hW:=(Topo.wL_full is of h).1
 have h0:=(Topo.wSum_ge is of l id h.okW).1
 rw [← qFI h.okW,List.mem_map]
 have hc:∀ x:Int,0≤x→(Topo.cap x≠0↔0<x):=by
  intro x hx
  unfold Topo.cap
  split <;> omega
 constructor
 ·rintro ⟨c,hc1,rfl⟩
  obtain ⟨h1,h2⟩:=qGH.1 hc1
  rw [((hW.mem c).1 h1).2]at h2
  exact (hc _ h0).1 h2
 ·intro hp
  refine ⟨⟨id,Topo.cap (Topo.wSum is of l id)⟩,qGH.2 ⟨(hW.mem _).2 ⟨?_,rfl⟩,(hc _ h0).2 hp⟩,rfl⟩
  obtain ⟨n,hn,q1,q2,_⟩:=(qFI h.okW).1 hp
  exact ⟨n,hn,q1,q2⟩
def st2(size:Int):qK:=⟨2,1,size⟩
def st3:qK:=⟨2,2,1⟩
def st4:qK:=⟨2,3,1⟩
def commonL(size:Int):List qK:=[⟨1,0,0⟩,st2 size,st3,st4,⟨3,0,0⟩]
def zonesOf(l:List qA)(g:Int):List Int:=(Draw.ord (Mixn.fold (Draw.un g) [Draw.un 1,Draw.un 0,Draw.un 0]) (Topo.wL Topo.isZ Topo.ofZ l)).map (fun x=>x.f0)
def pick(l:List qA)(g:Int)(z:Int):List qX:=(qHc l g st3 ⟨z,0,0⟩).flatMap (qHc l g st4)
def pk(l:List qA)(g:Int)(z:Int):Int:=((pick l g z).headD ⟨0,0,0⟩).f2
theorem qGl{l:List qA}(h:Topo.Nodes l)(g:Int){z:Int}(hz:1≤z)(hn:∃ n ∈ l,n.f1=z∧0<Topo.weight n):∃ n ∈ l,n.f1=z∧0<Topo.weight n∧∃ r,pick l g z=[⟨z,r,n.f0⟩]:=by
 obtain ⟨n,hn,h1,h2⟩:=hn
 have k3:kids l g st3 z 0=(Draw.ord (Mixn.fold (Draw.un g) [Draw.un 2,Draw.un z,Draw.un 0]) (Topo.wL (Topo.isR z) Topo.ofR l)).map (fun x=>x.f0):=rfl
 have m3:=qEq h (Topo.isR z) Topo.ofR (Mixn.fold (Draw.un g) [Draw.un 2,Draw.un z,Draw.un 0])
 rw [← k3]at m3
 have hr:=(m3 n.f2).2 ⟨n,hn,by unfold Topo.isR; simpa using h1,rfl,h2⟩
 generalize hk:kids l g st3 z 0=k at hr m3
 cases k with
 | nil=>cases hr
 | cons r rs =>
  obtain ⟨n2,hn2,i2,o2,w2⟩:=(m3 r).1 List.mem_cons_self
  have e3:qHc l g st3 ⟨z,0,0⟩=[⟨z,r,0⟩]:=by
   unfold qHc
   rw [show kids l g st3 (⟨z,0,0⟩:qX).f0 (⟨z,0,0⟩:qX).f1=r :: rs from hk]
   rfl
  have k4:kids l g st4 z r=(Draw.ord (Mixn.fold (Draw.un g) [Draw.un 3,Draw.un z,Draw.un r]) (Topo.wL (Topo.isL z r) Topo.ofL l)).map (fun x=>x.f0):=rfl
  have m4:=qEq h (Topo.isL z r) Topo.ofL (Mixn.fold (Draw.un g) [Draw.un 3,Draw.un z,Draw.un r])
  rw [← k4]at m4
  have i2:n2.f1=z:=by unfold Topo.isR at i2; simpa using i2
  have hf:=(m4 n2.f0).2 ⟨n2,hn2,by unfold Topo.isL; have:n2.f2=r:=o2; simp [i2,this],rfl,w2⟩
  generalize hk4:kids l g st4 z r=k4' at hf m4
  cases k4' with
  | nil=>cases hf
  | cons q qs =>
   obtain ⟨n3,hn3,i3,o3,w3⟩:=(m4 q).1 List.mem_cons_self
   have o3:n3.f0=q:=o3
   have i3:n3.f1=z:=by
    unfold Topo.isL at i3
    rw [Bool.and_eq_true,Bool.or_eq_true,beq_iff_eq,beq_iff_eq]at i3
    rcases i3.1 with c | c
    ·omega
    ·exact c
   refine ⟨n3,hn3,i3,w3,r,?_⟩
   unfold pick
   rw [e3,List.flatMap_cons,List.flatMap_nil,List.append_nil]
   unfold qHc
   rw [show kids l g st4 (⟨z,r,0⟩:qX).f0 (⟨z,r,0⟩:qX).f1=q :: qs from hk4,o3]
   rfl
theorem qFJ(size:Int):∀(hand:List qX)(out:List Int),((out.length+hand.length:Nat):Int)≤size→(hand.map (fun x=>x.f2)).Nodup→(∀ x ∈ hand,¬ x.f2 ∈ out)→hand.foldl (emit size) out=out++hand.map (fun x=>x.f2)
 | [],out,_,_,_=>(List.append_nil _).symm
 | x :: r,out,hl,hn,ho=>by
  rw [List.map_cons]at hn ⊢
  obtain ⟨h1,h2⟩:=List.nodup_cons.1 hn
  rw [List.length_cons]at hl
  rw [List.foldl_cons,emit,if_pos ⟨by omega,ho x List.mem_cons_self⟩,qFJ size r (out++[x.f2]) (by rw [lA,List.length_singleton]; omega) h2,List.append_assoc]
  ·rfl
  ·intro y hy hm
   rcases List.mem_append.1 hm with hm | hm
   ·exact ho y (List.mem_cons_of_mem _ hy) hm
   ·exact h1 (List.mem_map.2 ⟨y,hy,List.mem_singleton.1 hm⟩)
theorem qGm{l:List qA}(h:Topo.Nodes l)(g:Int)(z:Int):z ∈ zonesOf l g↔∃ n ∈ l,n.f1=z∧0<Topo.weight n:=by
 unfold zonesOf
 rw [qEq h]
 exact ⟨fun ⟨n,hn,_,q1,q2⟩=>⟨n,hn,q1,q2⟩,fun ⟨n,hn,q1,q2⟩=>⟨n,hn,rfl,q1,q2⟩⟩
theorem zone_pk{l:List qA}(h:Topo.Nodes l)(g:Int){z:Int}(hz:z ∈ zonesOf l g):∃ n ∈ l,n.f1=z∧0<Topo.weight n∧pk l g z=n.f0∧∃ r,pick l g z=[⟨z,r,pk l g z⟩]:=by
 have hz':=(qGm h g z).1 hz
 have h1:1≤z:=by
  obtain ⟨n,hn,q,_⟩:=hz'
  have:=h.ok n hn
  unfold Topo.okN at this
  omega
 obtain ⟨n,hn,q1,q2,r,e⟩:=qGl h g h1 hz'
 have e2:pk l g z=n.f0:=by unfold pk; rw [e]; rfl
 exact ⟨n,hn,q1,q2,e2,r,e2 ▸ e⟩
theorem qGI{key:Nat}{c:List qB}(h:Draw.Chs c):((Draw.ord key c).map (fun x=>x.f0)).Nodup:=by
 have hp:((Draw.heavy c).map (fun x=>x.f0)).Nodup:=by
  unfold List.Nodup
  rw [List.pairwise_map]
  exact (Draw.heavy_up h).imp (fun {a b} hab e=>by omega)
 exact ((qCc _ _).map (fun x:qB=>x.f0)).nodup_iff.2 hp
theorem zones_nodup{l:List qA}(h:Topo.Nodes l)(g:Int):(zonesOf l g).Nodup:=qGI (qDY h)
theorem node_uniq{l:List qA}(h:Topo.Nodes l){a b:qA}(ha:a ∈ l)(hb:b ∈ l)(e:a.f0=b.f0):a=b:=by
 obtain ⟨i,hi,rfl⟩:=List.getElem_of_mem ha
 obtain ⟨j,hj,rfl⟩:=List.getElem_of_mem hb
 have hup:=List.pairwise_iff_getElem.1 h.up
 rcases Nat.lt_trichotomy i j with c | c | c
 ·have:=hup i j hi hj c; omega
 ·subst c; rfl
 ·have:=hup j i hj hi c; omega
theorem qCw{α β : Type}{f g : α→List β}: ∀ {l:List α},(∀ x ∈ l,f x=g x)→l.flatMap f=l.flatMap g
 | [],_=>rfl
 | x :: l,h=>by
  rw [List.flatMap_cons,List.flatMap_cons,h x List.mem_cons_self,qCw (fun y hy=>h y (List.mem_cons_of_mem _ hy))]
theorem qEr{α β : Type}(f : α→β)(l:List α):l.flatMap (fun x=>[f x])=l.map f:=by
 induction l with
 | nil=>rfl
 | cons x l ih=>rw [List.flatMap_cons,ih]; rfl
theorem qDr{l:List qA}(h:Topo.Nodes l)(g size:Int)(hs:1≤size∧size≤3):runL l (commonL size) g size=((zonesOf l g).take size.toNat).map (pk l g):=by
 have e:runL l (commonL size) g size=((((zonesOf l g).take size.toNat).map (fun z=>(⟨z,0,0⟩:qX))).flatMap (qHc l g st3) |>.flatMap (qHc l g st4)).foldl (emit size) []:=by
  have e2:qHc l g (st2 size) ⟨0,0,0⟩=((zonesOf l g).take size.toNat).map (fun z=>(⟨z,0,0⟩:qX)):=rfl
  have e1:runL l (commonL size) g size=((([⟨0,0,0⟩]:List qX).flatMap (qHc l g (st2 size))).flatMap (qHc l g st3) |>.flatMap (qHc l g st4)).foldl (emit size) []:=rfl
  rw [e1,List.flatMap_cons,List.flatMap_nil,List.append_nil,e2]
 have hmem:∀ z ∈ (zonesOf l g).take size.toNat,z ∈ zonesOf l g:=fun z hz=>List.mem_of_mem_take hz
 have e3:((((zonesOf l g).take size.toNat).map (fun z=>(⟨z,0,0⟩:qX))).flatMap (qHc l g st3)).flatMap (qHc l g st4)=((zonesOf l g).take size.toNat).map (fun z=>(pick l g z).headD ⟨0,0,0⟩):=by
  rw [List.flatMap_assoc,List.flatMap_map,← qEr]
  refine qCw (fun z hz=>?_)
  obtain ⟨n,_,_,_,_,r,e⟩:=zone_pk h g (hmem z hz)
  show pick l g z=[(pick l g z).headD ⟨0,0,0⟩]
  rw [e]
  rfl
 have hmap:∀ L:List Int,(L.map (fun z=>(pick l g z).headD ⟨0,0,0⟩)).map (fun x=>x.f2)=L.map (pk l g):=fun L=>by rw [List.map_map]; rfl
 rw [e,e3,qFJ,List.nil_append,hmap]
 ·rw [List.length_map,List.length_take,List.length_nil]
  omega
 ·rw [hmap]
  have hnd:((zonesOf l g).take size.toNat).Nodup:=(zones_nodup h g).sublist (List.take_sublist _ _)
  unfold List.Nodup
  rw [List.pairwise_map]
  refine List.Pairwise.imp_of_mem ?_ hnd
  intro a b ha hb hab e
  obtain ⟨n,hn,q1,_,q2,_⟩:=zone_pk h g (hmem a ha)
  obtain ⟨n',hn',q1',_,q2',_⟩:=zone_pk h g (hmem b hb)
  have:n=n':=node_uniq h hn hn' (by omega)
  subst this
  exact hab (by omega)
 ·intro x _ hx
  cases hx
theorem qDs{size:Int}(hs:1≤size∧size≤3):Rule.May (commonL size):=by
 have:size=1∨size=2∨size=3:=by omega
 rcases this with rfl | rfl | rfl <;> decide
def ofCommon(l:List qA)(g size:Int):List Int:=if Topo.Nodes l∧(0≤g∧g<8)∧1≤size∧size≤3 then ((zonesOf l g).take size.toNat).map (pk l g) else []
theorem of_(l:List qA)(g size:Int):Ev (fun k=>qCA.f k l g size) (ofCommon l g size):=by
 unfold qCA.f
 have hc:Ev (fun k=>qAr.f k size) (if 1≤size∧size≤3 then commonL size else []):=⟨1,fun k hk=>by
  obtain ⟨k,rfl⟩:∃ m,k=m+1:=⟨k - 1,by omega⟩
  exact Rule.common k size⟩
 refine .b hc (.b (run l _ g size) (.cv ?_))
 unfold ofCommon
 by_cases c:Topo.Nodes l∧(0≤g∧g<8)∧1≤size∧size≤3
 ·rw [if_pos c,if_pos c.2.2,if_pos ⟨c.1,qDs c.2.2,c.2.1,c.2.2⟩]
  exact qDr c.1 g size c.2.2
 ·rw [if_neg c,if_neg]
  ·exact fun m=>c ⟨m.1,m.2.2.1,m.2.2.2⟩
theorem rof(l:List qA)(g size:Int)(hl:l.length<4611686018427387904):Ev (fun k=>qAQ.f k l g size) (ofCommon l g size):=by
 have hn:¬ (Topo.Nodes l∧(0≤g∧g<8)∧1≤size∧size≤3)→Ev (fun k=>qAQ.j12 k l g size true) (ofCommon l g size):=by
  intro c
  unfold ofCommon
  rw [if_neg c]
  exact .s (qAQ.j12_s · _ _ _ _) (.t rfl (.c _))
 unfold qAQ.f
 refine .b (Topo.may l hl) ?_
 by_cases h:Topo.Nodes l
 ·rw [dT h]
  refine .t rfl (.i (fun c=>hn (fun e=>by have:=e.2.1; omega)) (fun c=>.i (fun c=>hn (fun e=>by have:=e.2.1; omega)) (fun c2=>.i (fun c=>hn (fun e=>by have:=e.2.2; omega)) (fun c3=>?_))))
  by_cases c4:size>3
  ·rw [dT c4]
   exact hn (fun e=>by have:=e.2.2; omega)
  ·rw [dF c4]
   have hs:1≤size∧size≤3:=⟨by omega,by omega⟩
   have hc:qAw.f size=some (commonL size):=rfl
   refine .s (qAQ.j12_s · _ _ _ _) (.n (by decide) (.b0 hc (.b (rrun ⟨h,qDs hs,⟨by omega,by omega⟩,hs⟩) (.cv ?_))))
   unfold ofCommon
   rw [if_pos ⟨h,⟨by omega,by omega⟩,hs⟩]
   exact qDr h g size hs
 ·rw [dF h]
  exact .n (by decide) (hn (fun e=>h e.1))
end Place
namespace Maps
theorem min'(x a b:Int):qBD.f x a b=some (decide (a≤x∧x≤b)):=by
 unfold qBD.f
 by_cases h:x≥a
 ·rw [if_pos h]
  congr 1
  simp only [decide_eq_decide]
  omega
 ·rw [if_neg h,dF (by omega)]
def temps(m:qF):Int→List qI→Bool
 | _,[]=>true
 | p,t :: l=>(decide ((0≤t.f0∧t.f0<m.f3)∧p<t.f0∧1≤(t.f1.length:Int)∧(t.f1.length:Int)≤m.f1)&&Topo.apartR m.f4 [] t.f1)&&temps m t.f0 l
def riseI:Int→List Int→Bool
 | _,[]=>true
 | p,n :: l=>decide ((1≤n∧n≤999)∧p<n)&&riseI n l
def past(m:qF)(since:Int):Int→List qL→List qL→Bool
 | _,_,[]=>true
 | p,seen,s :: l=>(decide ((0≤s.f0∧s.f0<since)∧p<s.f0∧m.f2≤(s.f1.length:Int)∧(s.f1.length:Int)≤m.f1)&&riseI 0 s.f1 && !decide (∃ x ∈ seen,x.f1=s.f1))&&past m since s.f0 (seen++[s]) l
def trails(m:qF):List qC→Bool
 | []=>true
 | t :: l=>(decide (0≤t.f0∧t.f0≤m.f0)&&past m t.f0 (-1) [] t.f1)&&trails m l
def Flat(m:qF):Prop:=(0≤m.f0∧m.f0≤2147483647)∧(1≤m.f1∧m.f1≤3)∧(1≤m.f2∧m.f2≤m.f1)∧(1≤m.f3∧m.f3≤8)∧Topo.Nodes m.f4
instance (m:qF):Decidable (Flat m):=inferInstanceAs (Decidable (_∧_))
def May(m:qF):Prop:=Flat m∧temps m (-1) m.f5=true∧(m.f6.length:Int)=m.f3∧trails m m.f6=true
instance (m:qF):Decidable (May m):=inferInstanceAs (Decidable (_∧_))
structure Small (m:qF):Prop where
 h4:m.f4.length<4611686018427387904
 h5:m.f5.length<4611686018427387904
 h6:m.f6.length<4611686018427387904
 hp:∀ t ∈ m.f6,t.f1.length<4611686018427387904
 hs:∀ t ∈ m.f6,∀ s ∈ t.f1,s.f1.length<4611686018427387904
def preT(l:List qI)(i:Nat):Int:=if i=0 then -1 else (nth qI.z l (w64 ((i:Int) - 1))).f0
theorem qEZ(l:List qI)(i:Nat)(h:i<l.length)(hl:l.length<4611686018427387904):preT l (i+1)=l[i].f0:=by
 unfold preT
 rw [if_neg (by omega),w64p (i+1) (by omega) (by omega),show i+1 - 1=i by omega,nth_get _ _ _ h]
def preS(l:List qL)(i:Nat):Int:=if i=0 then -1 else (nth qL.z l (w64 ((i:Int) - 1))).f0
theorem qGJ(l:List qL)(i:Nat)(h:i<l.length)(hl:l.length<4611686018427387904):preS l (i+1)=l[i].f0:=by
 unfold preS
 rw [if_neg (by omega),w64p (i+1) (by omega) (by omega),show i+1 - 1=i by omega,nth_get _ _ _ h]
def preI(l:List Int)(i:Nat):Int:=if i=0 then 0 else nth 0 l (w64 ((i:Int) - 1))
theorem qCs(l:List Int)(i:Nat)(h:i<l.length)(hl:l.length<4611686018427387904):preI l (i+1)=l[i]:=by
 unfold preI
 rw [if_neg (by omega),w64p (i+1) (by omega) (by omega),show i+1 - 1=i by omega,nth_get _ _ _ h]
theorem qED{α : Type}(a b:List α)(i:Nat)(ha:i<a.length)(hb:i<b.length):(a.drop i=b.drop i)↔(a[i]=b[i]∧a.drop (i+1)=b.drop (i+1)):=by
 rw [List.drop_eq_getElem_cons ha,List.drop_eq_getElem_cons hb,List.cons.injEq]
theorem qGn(a b:List Int)(hab:a.length=b.length)(hl:a.length<4611686018427387904):∀(d i:Nat),i+d=a.length→Ev (fun k=>qr.l9 k a b (i:Int)) (decide (a.drop i=b.drop i)):=by
 intro d
 induction d with
 | zero =>
  intro i hi
  refine .s (qr.l9_s · _ _ _) (.n (by omega) (.cv ?_))
  rw [List.drop_eq_nil_of_le (by omega),List.drop_eq_nil_of_le (by omega)]
  rfl
 | succ d ih =>
  intro i hi
  have h1:i<a.length:=by omega
  have h2:i<b.length:=by omega
  refine .s (qr.l9_s · _ _ _) (.t (by omega) (.t (by omega) (.t (by omega) ?_)))
  rw [nth_get _ _ _ h1,nth_get _ _ _ h2,w64n i (by omega)]
  refine .i (fun h=>(ih (i+1) (by omega)).v ?_) (fun h=>.cv ?_)
  ·simp only [qED a b i h1 h2,h,true_and]
  ·simp only [qED a b i h1 h2,h,false_and,decide_false]
theorem equal(a b:List Int)(hl:a.length<4611686018427387904):Ev (fun k=>qr.f k a b) (decide (a=b)):=by
 unfold qr.f
 refine .i (fun h=>qGn a b (by omega) hl a.length 0 (by omega)) (fun h=>.cv ?_)
 exact (dF (fun e=>h (by rw [e]))).symm
theorem qHP(a b:List Int)(hab:a.length=b.length)(hl:a.length<4611686018427387904):∀(d i:Nat),i+d=a.length→Ev (fun k=>qv.l9 k a b (i:Int)) (decide (a.drop i=b.drop i)):=by
 intro d
 induction d with
 | zero =>
  intro i hi
  refine .s (qv.l9_s · _ _ _) (.n (by omega) (.cv ?_))
  rw [List.drop_eq_nil_of_le (by omega),List.drop_eq_nil_of_le (by omega)]
  rfl
 | succ d ih =>
  intro i hi
  have h1:i<a.length:=by omega
  have h2:i<b.length:=by omega
  refine .s (qv.l9_s · _ _ _) (.t (by omega) (.t (by omega) (.t (by omega) ?_)))
  rw [nth_get _ _ _ h1,nth_get _ _ _ h2,w64n i (by omega)]
  refine .i (fun h=>(ih (i+1) (by omega)).v ?_) (fun h=>.cv ?_)
  ·simp only [qED a b i h1 h2,h,true_and]
  ·simp only [qED a b i h1 h2,h,false_and,decide_false]
theorem ints(a b:List Int)(hl:a.length<4611686018427387904):Ev (fun k=>qv.f k a b) (decide (a=b)):=by
 unfold qv.f
 refine .i (fun h=>qHP a b (by omega) hl a.length 0 (by omega)) (fun h=>.cv ?_)
 exact (dF (fun e=>h (by rw [e]))).symm
theorem qHQ(l:List qL)(s:qL)(hl:l.length<4611686018427387904)(hs:∀ x ∈ l,x.f1.length<4611686018427387904):∀(d i:Nat),i+d=l.length→∃ x,Ev (fun k=>qT.l5 k l s (i:Int)) x∧(0≤x↔∃ y ∈ l.drop i,y.f1=s.f1):=by
 intro d
 induction d with
 | zero =>
  intro i hi
  refine ⟨-1,.s (qT.l5_s · _ _ _) (.n (by omega) (.c _)),?_⟩
  rw [List.drop_eq_nil_of_le (by omega)]
  simp
 | succ d ih =>
  intro i hi
  have h1:i<l.length:=by omega
  obtain ⟨x,hx,hm⟩:=ih (i+1) (by omega)
  have hq:Ev (fun k=>qBj.f k l[i] s) (decide (l[i].f1=s.f1)):=by
   unfold qBj.f
   exact .b (equal _ _ (hs _ (gM h1))) (.c _)
  by_cases h:l[i].f1=s.f1
  ·refine ⟨i,.s (qT.l5_s · _ _ _) (.t (by omega) (.t (by omega) ?_)),?_⟩
   ·rw [nth_get _ _ _ h1]
    exact .b hq (.t (dT h) (.c _))
   ·rw [List.drop_eq_getElem_cons h1]
    exact ⟨fun _=>⟨_,List.mem_cons_self,h⟩,fun _=>by omega⟩
  ·refine ⟨x,.s (qT.l5_s · _ _ _) (.t (by omega) (.t (by omega) ?_)),?_⟩
   ·rw [nth_get _ _ _ h1,w64n i (by omega)]
    exact .b hq (.n (by simpa using h) hx)
   ·rw [List.drop_eq_getElem_cons h1,hm]
    exact ⟨fun ⟨y,m,e⟩=>⟨y,List.mem_cons.2 (.inr m),e⟩,fun ⟨y,m,e⟩=>⟨y,(List.mem_cons.1 m).resolve_left (fun q=>h (q ▸ e)),e⟩⟩
theorem seen(l:List qL)(s:qL)(hl:l.length<4611686018427387904)(hs:∀ x ∈ l,x.f1.length<4611686018427387904):Ev (fun k=>qm.f k l s) (decide (∃ y ∈ l,y.f1=s.f1)):=by
 obtain ⟨x,hx,hm⟩:=qHQ l s hl hs l.length 0 (by omega)
 unfold qm.f qT.f
 refine .b hx (.cv ?_)
 rw [decide_eq_decide]
 exact hm
theorem qGo (m:qF) (t:qC) (i:Nat) (hl:t.f1.length<4611686018427387904) (hs:∀ s ∈ t.f1,s.f1.length<4611686018427387904) (hi:i<t.f1.length) (w:Bool)
  (hc:riseI 0 t.f1[i].f1=true→(∃ y ∈ t.f1.take i,y.f1=t.f1[i].f1)→w=false)
  (hn:riseI 0 t.f1[i].f1=true→(¬ ∃ y ∈ t.f1.take i,y.f1=t.f1[i].f1)→Ev (fun k=>qAK.l9 k m t ((i+1:Nat):Int)) w)
  (hr:¬ riseI 0 t.f1[i].f1=true→w=false):∀(d j:Nat),j+d=t.f1[i].f1.length→(riseI 0 t.f1[i].f1=riseI (preI t.f1[i].f1 j) (t.f1[i].f1.drop j))→Ev (fun k=>qAK.l61 k m t (i:Int) (j:Int)) w:=by
 have hz:=nth_get qL.z _ _ hi
 have hsl:=hs _ (gM hi)
 intro d
 induction d with
 | zero =>
  intro j hj he
  refine .s (qAK.l61_s · _ _ _ _) ?_
  rw [hz]
  rw [List.drop_eq_nil_of_le (by omega)]at he
  refine .n (by omega) (.t (by omega) ?_)
  rw [show cutl t.f1 0 (i:Int)=t.f1.take i by simp [cutl],w64n i (by omega)]
  refine .b (seen _ _ (by simp; omega) (fun x m=>hs x (List.mem_of_mem_take m))) ?_
  refine .i (fun h=>.cv (hc he ?_).symm) (fun h=>hn he ?_)
  ·simpa using h
  ·simpa using h
 | succ d ih =>
  intro j hj he
  have h1:j<t.f1[i].f1.length:=by omega
  refine .s (qAK.l61_s · _ _ _ _) ?_
  rw [hz]
  refine .t (by omega) (.t (by omega) ?_)
  rw [List.drop_eq_getElem_cons h1]at he
  simp only [riseI]at he
  have hb:∀ b:Bool,(b=true↔¬ ((1≤t.f1[i].f1[j]∧t.f1[i].f1[j]≤999)∧preI t.f1[i].f1 j<t.f1[i].f1[j]))→Ev (fun k=>qAK.j86 k m t (i:Int) (j:Int) b) w:=by
   intro b hb
   refine .s (qAK.j86_s · _ _ _ _ _) ?_
   by_cases h:(1≤t.f1[i].f1[j]∧t.f1[i].f1[j]≤999)∧preI t.f1[i].f1 j<t.f1[i].f1[j]
   ·refine .n (fun e=>(hb.1 e) h) ?_
    rw [w64n j (by omega)]
    refine ih (j+1) (by omega) ?_
    rw [he,qCs _ j h1 hsl,dT h,Bool.true_and]
   ·refine .t (hb.2 h) (.cv (hr ?_).symm)
    rw [he,dF h]
    simp
  clear he ih hr hn hc
  rw [nth_get _ _ _ h1]
  have hp0:j=0→preI t.f1[i].f1 j=0:=fun e=>if_pos e
  have hp1:j≠0→nth 0 t.f1[i].f1 (w64 ((j:Int) - 1))=preI t.f1[i].f1 j:=fun e=>(if_neg e).symm
  have hw:j≠0→w64 ((j:Int) - 1)=((j - 1:Nat):Int):=fun e=>w64p j (by omega) (by omega)
  generalize preI t.f1[i].f1 j=p at *
  generalize nth 0 t.f1[i].f1 (w64 ((j:Int) - 1))=q at *
  generalize t.f1[i].f1[j]=n at *
  repeat' (first | refine Ev.b0 (min' _ _ _) ?_ | refine Ev.i (fun _=>?_) (fun _=>?_))
  all_goals simp only [decide_eq_true_eq]at *
  all_goals first
   | exact hb _ (by simp only [decide_eq_true_eq,Bool.false_eq_true,true_iff,false_iff]; omega)
   | (exfalso; omega)
theorem qHR(m:qF)(t:qC)(hl:t.f1.length<4611686018427387904)(hs:∀ s ∈ t.f1,s.f1.length<4611686018427387904)(ht:0≤t.f0∧t.f0≤2147483647):∀(d i:Nat),i+d=t.f1.length→Ev (fun k=>qAK.l9 k m t (i:Int)) (past m t.f0 (preS t.f1 i) (t.f1.take i) (t.f1.drop i)):=by
 intro d
 induction d with
 | zero =>
  intro i hi
  refine .s (qAK.l9_s · _ _ _) (.n (by omega) (.cv ?_))
  rw [List.drop_eq_nil_of_le (by omega)]
  rfl
 | succ d ih =>
  intro i hi
  have h1:i<t.f1.length:=by omega
  refine .s (qAK.l9_s · _ _ _) (.t (by omega) (.t (by omega) ?_))
  have ih:=ih (i+1) (by omega)
  rw [qGJ _ i h1 hl,List.take_add_one,List.getElem?_eq_getElem h1,Option.toList_some]at ih
  rw [nth_get _ _ _ h1,List.drop_eq_getElem_cons h1]
  simp only [past]
  have hj:∀ b:Bool,(b=true↔¬ ((0≤t.f1[i].f0∧t.f1[i].f0<t.f0)∧preS t.f1 i<t.f1[i].f0∧m.f2≤(t.f1[i].f1.length:Int)∧(t.f1[i].f1.length:Int)≤m.f1))→Ev (fun k=>qAK.j51 k m t (i:Int) b) (decide ((0≤t.f1[i].f0∧t.f1[i].f0<t.f0)∧preS t.f1 i<t.f1[i].f0∧m.f2≤(t.f1[i].f1.length:Int)∧(t.f1[i].f1.length:Int)≤m.f1)&&riseI 0 t.f1[i].f1 && !decide (∃ x ∈ t.f1.take i,x.f1=t.f1[i].f1)&&past m t.f0 t.f1[i].f0 (t.f1.take i++[t.f1[i]]) (t.f1.drop (i+1))):=by
   intro b hb
   refine .s (qAK.j51_s · _ _ _ _) ?_
   by_cases h:(0≤t.f1[i].f0∧t.f1[i].f0<t.f0)∧preS t.f1 i<t.f1[i].f0∧m.f2≤(t.f1[i].f1.length:Int)∧(t.f1[i].f1.length:Int)≤m.f1
   ·refine .n (fun e=>(hb.1 e) h) ?_
    rw [dT h,Bool.true_and]
    refine qGo m t i hl hs h1 _ ?_ ?_ ?_ t.f1[i].f1.length 0 (by omega) (by rw [List.drop_zero]; rfl)
    ·intro h2 h3
     rw [h2,dT h3]
     simp
    ·intro h2 h3
     refine ih.v ?_
     rw [h2,dF h3]
     simp
    ·intro h2
     simp [h2]
   ·refine .t (hb.2 h) (.cv ?_)
    rw [dF h]
    simp
  clear ih
  have hp0:i=0→preS t.f1 i = -1:=fun e=>if_pos e
  have hp1:i≠0→(nth qL.z t.f1 (w64 ((i:Int) - 1))).f0=preS t.f1 i:=fun e=>(if_neg e).symm
  have hw:i≠0→w64 ((i:Int) - 1)=((i - 1:Nat):Int):=fun e=>w64p i (by omega) (by omega)
  have hw2:w64 (t.f0 - 1)=t.f0 - 1:=qCQ (by omega) (by omega)
  rw [hw2]
  generalize hv:(decide ((0≤t.f1[i].f0∧t.f1[i].f0<t.f0)∧preS t.f1 i<t.f1[i].f0∧m.f2≤(t.f1[i].f1.length:Int)∧(t.f1[i].f1.length:Int)≤m.f1)&&riseI 0 t.f1[i].f1 && !decide (∃ x ∈ t.f1.take i,x.f1=t.f1[i].f1)&&past m t.f0 t.f1[i].f0 (t.f1.take i++[t.f1[i]]) (t.f1.drop (i+1)))=v at hj ⊢
  clear hv
  generalize preS t.f1 i=p at *
  generalize (nth qL.z t.f1 (w64 ((i:Int) - 1))).f0=q at *
  generalize t.f1[i]=n at *
  repeat' (first | refine Ev.b0 (min' _ _ _) ?_ | refine Ev.i (fun _=>?_) (fun _=>?_))
  all_goals simp only [decide_eq_true_eq]at *
  all_goals first
   | exact hj _ (by simp only [decide_eq_true_eq,Bool.false_eq_true,true_iff,false_iff,Bool.not_eq_true',decide_eq_false_iff_not]; omega)
   | (exfalso; omega)
theorem pastf(m:qF)(t:qC)(hl:t.f1.length<4611686018427387904)(hs:∀ s ∈ t.f1,s.f1.length<4611686018427387904)(ht:0≤t.f0∧t.f0≤2147483647):Ev (fun k=>qAK.f k m t) (past m t.f0 (-1) [] t.f1):=by
 unfold qAK.f
 exact qHR m t hl hs ht t.f1.length 0 (by omega)
theorem qFQ(m:qF)(hm:Small m)(h0:m.f0≤2147483647):∀(d i:Nat),i+d=m.f6.length→Ev (fun k=>qAe.l11 k m (i:Int)) (eno (trails m (m.f6.drop i))):=by
 have h6:=hm.h6
 intro d
 induction d with
 | zero =>
  intro i hi
  refine .s (qAe.l11_s · _ _) (.n (by omega) (.cv ?_))
  rw [List.drop_eq_nil_of_le (by omega)]
  rfl
 | succ d ih =>
  intro i hi
  have h1:i<m.f6.length:=by omega
  refine .s (qAe.l11_s · _ _) (.t (by omega) (.t (by omega) ?_))
  have ih:=ih (i+1) (by omega)
  rw [nth_get _ _ _ h1,List.drop_eq_getElem_cons h1,trails]
  refine .b0 (min' _ _ _) (.i (fun h=>?_) (fun h=>?_))
  ·have h:=oT h
   refine .b (pastf m m.f6[i] (hm.hp _ (gM h1)) (hm.hs _ (gM h1)) (by omega)) (.s (qAe.j40_s · _ _ _) ?_)
   rw [dT h,Bool.true_and,w64n i (by omega)]
   cases past m m.f6[i].f0 (-1) [] m.f6[i].f1 with
   | true=>exact .n (by decide) ih
   | false=>exact .t rfl (.c _)
  ·refine .s (qAe.j40_s · _ _ _) (.t rfl (.cv ?_))
   have h:¬ (0≤m.f6[i].f0∧m.f6[i].f0≤m.f0):=fun e=>h (dT e)
   rw [dF h]
   rfl
theorem trailsf(m:qF)(hm:Small m)(h0:m.f0≤2147483647):Ev (fun k=>qAe.f k m) (eno (decide ((m.f6.length:Int)=m.f3∧trails m m.f6=true))):=by
 unfold qAe.f
 refine .i (fun h=>(qFQ m hm h0 m.f6.length 0 (by omega)).v ?_) (fun h=>.cv ?_)
 ·rw [List.drop_zero]
  congr 1
  simp [h]
 ·rw [dF (fun e=>h e.1)]
  rfl
theorem qGK(m:qF)(hm:Small m)(hf:Flat m):∀(d i:Nat),i+d=m.f5.length→Ev (fun k=>qt.l36 k m (i:Int)) (eno (temps m (preT m.f5 i) (m.f5.drop i)&&decide ((m.f6.length:Int)=m.f3∧trails m m.f6=true))):=by
 have h5:=hm.h5
 have hg:=hf.2.2.2.1
 intro d
 induction d with
 | zero =>
  intro i hi
  refine .s (qt.l36_s · _ _) (.n (by omega) (.b (trailsf m hm hf.1.2) (.cv ?_)))
  rw [List.drop_eq_nil_of_le (by omega)]
  rfl
 | succ d ih =>
  intro i hi
  have h1:i<m.f5.length:=by omega
  refine .s (qt.l36_s · _ _) (.t (by omega) (.t (by omega) ?_))
  have ih:=ih (i+1) (by omega)
  rw [qEZ _ i h1 h5]at ih
  rw [nth_get _ _ _ h1,List.drop_eq_getElem_cons h1,temps]
  have hj:∀ b:Bool,(b = !(decide ((0≤m.f5[i].f0∧m.f5[i].f0<m.f3)∧preT m.f5 i<m.f5[i].f0∧1≤(m.f5[i].f1.length:Int)∧(m.f5[i].f1.length:Int)≤m.f1)&&Topo.apartR m.f4 [] m.f5[i].f1))→Ev (fun k=>qt.j85 k m (i:Int) b) (eno (((decide ((0≤m.f5[i].f0∧m.f5[i].f0<m.f3)∧preT m.f5 i<m.f5[i].f0∧1≤(m.f5[i].f1.length:Int)∧(m.f5[i].f1.length:Int)≤m.f1)&&Topo.apartR m.f4 [] m.f5[i].f1)&&temps m m.f5[i].f0 (m.f5.drop (i+1)))&&decide ((m.f6.length:Int)=m.f3∧trails m m.f6=true))):=by
   intro b hb
   refine .s (qt.j85_s · _ _ _) ?_
   rw [w64n i (by omega)]
   generalize (decide ((0≤m.f5[i].f0∧m.f5[i].f0<m.f3)∧preT m.f5 i<m.f5[i].f0∧1≤(m.f5[i].f1.length:Int)∧(m.f5[i].f1.length:Int)≤m.f1)&&Topo.apartR m.f4 [] m.f5[i].f1)=c at hb ⊢
   subst hb
   cases c with
   | true=>exact .n (by decide) ih
   | false=>exact .t rfl (.c _)
  clear ih
  have hj1:¬ ((0≤m.f5[i].f0∧m.f5[i].f0<m.f3)∧preT m.f5 i<m.f5[i].f0∧1≤(m.f5[i].f1.length:Int)∧(m.f5[i].f1.length:Int)≤m.f1)→Ev (fun k=>qt.j85 k m (i:Int) true) _:=fun h=>hj true (by rw [dF h]; rfl)
  have hj2:((0≤m.f5[i].f0∧m.f5[i].f0<m.f3)∧preT m.f5 i<m.f5[i].f0∧1≤(m.f5[i].f1.length:Int)∧(m.f5[i].f1.length:Int)≤m.f1)→Ev (fun k=>(qAM.f k m.f4 m.f5[i].f1).bind fun t75=>qt.j85 k m (i:Int) (!t75)) _:=fun h=>.b (Topo.apart m.f4 m.f5[i].f1 hm.h4 (by have:=hf.2.1; omega)) (hj _ (by rw [dT h,dT hf.2.2.2.2]))
  have hp0:i=0→preT m.f5 i = -1:=fun e=>if_pos e
  have hp1:i≠0→(nth qI.z m.f5 (w64 ((i:Int) - 1))).f0=preT m.f5 i:=fun e=>(if_neg e).symm
  have hw:i≠0→w64 ((i:Int) - 1)=((i - 1:Nat):Int):=fun e=>w64p i (by omega) (by omega)
  have hw2:w64 (m.f3 - 1)=m.f3 - 1:=qCQ (by omega) (by omega)
  rw [hw2]
  clear hj
  generalize (eno (((decide ((0≤m.f5[i].f0∧m.f5[i].f0<m.f3)∧preT m.f5 i<m.f5[i].f0∧1≤(m.f5[i].f1.length:Int)∧(m.f5[i].f1.length:Int)≤m.f1)&&Topo.apartR m.f4 [] m.f5[i].f1)&&temps m m.f5[i].f0 (m.f5.drop (i+1)))&&decide ((m.f6.length:Int)=m.f3∧trails m m.f6=true)))=v at hj1 hj2 ⊢
  generalize preT m.f5 i=p at *
  generalize (nth qI.z m.f5 (w64 ((i:Int) - 1))).f0=q at *
  generalize m.f5[i]=n at *
  repeat' (first | refine Ev.b0 (min' _ _ _) ?_ | refine Ev.i (fun _=>?_) (fun _=>?_))
  all_goals simp only [decide_eq_true_eq]at *
  all_goals first
   | exact hj1 (by omega)
   | exact hj2 (by omega)
   | (exfalso; omega)
theorem check(m:qF)(hm:Small m):Ev (fun k=>qt.f k m) (eno (decide (May m))):=by
 have hj1:¬ Flat m→Ev (fun k=>qt.j26 k m true) (eno (decide (May m))):=fun h=>.s (qt.j26_s · _ _) (.t rfl (.cv (by rw [dF (fun e:May m=>h e.1)]; rfl)))
 have hj2:Flat m→Ev (fun k=>qt.j26 k m false) (eno (decide (May m))):=fun h=>.s (qt.j26_s · _ _) (.n (by decide) ((qGK m hm h m.f5.length 0 (by omega)).v (by
  rw [List.drop_zero]
  congr 1
  rw [Bool.eq_iff_iff,Bool.and_eq_true,decide_eq_true_eq,decide_eq_true_eq]
  exact ⟨fun e=>⟨h,e⟩,fun e=>e.2⟩)))
 unfold qt.f
 generalize eno (decide (May m))=v at *
 unfold Flat at hj1 hj2
 refine .b0 (min' _ _ _) (.i (fun h=>.b0 (min' _ _ _) (.i (fun h=>.b0 (min' _ _ _) (.i (fun h=>.b0 (min' _ _ _) (.i (fun h=>.b (Topo.check m.f4 hm.h4) ?_) (fun h=>?_))) (fun h=>?_))) (fun h=>?_))) (fun h=>?_))
 all_goals simp only [decide_eq_true_eq]at *
 ·by_cases hN:Topo.Nodes m.f4
  ·rw [dT hN]
   refine hj2 ⟨?_,?_,?_,?_,hN⟩ <;> omega
  ·rw [dF hN]
   exact hj1 (fun e=>hN e.2.2.2.2)
 all_goals refine hj1 (fun e=>?_)
 all_goals have:=e.1
 all_goals have:=e.2.1
 all_goals have:=e.2.2.1
 all_goals have:=e.2.2.2.1
 all_goals omega
def ahead(s:qL)(seen:List qL):Bool:=decide (∀ x ∈ seen,x.f0<s.f0∧x.f1≠s.f1)
def pastR(m:qF)(since:Int):List qL→List qL→Bool
 | _,[]=>true
 | seen,s :: l=>(decide ((0≤s.f0∧s.f0<since)∧m.f2≤(s.f1.length:Int)∧(s.f1.length:Int)≤m.f1)&&riseI 0 s.f1&&ahead s seen)&&pastR m since (seen++[s]) l
theorem qCI(m:qF)(since:Int):∀(l seen:List qL)(p:Int),(∀ x ∈ seen,x.f0≤p)→(p = -1∨∃ x ∈ seen,x.f0=p)→past m since p seen l=pastR m since seen l
 | [],_,_,_,_=>rfl
 | s :: l,seen,p,h1,h2=>by
  rw [past,pastR]
  by_cases h:(0≤s.f0∧s.f0<since)∧p<s.f0∧m.f2≤(s.f1.length:Int)∧(s.f1.length:Int)≤m.f1
  ·have h':(0≤s.f0∧s.f0<since)∧m.f2≤(s.f1.length:Int)∧(s.f1.length:Int)≤m.f1:=⟨h.1,h.2.2⟩
   have ha:(!decide (∃ x ∈ seen,x.f1=s.f1))=ahead s seen:=by
    unfold ahead
    rw [Bool.eq_iff_iff,Bool.not_eq_true',decide_eq_false_iff_not,decide_eq_true_eq]
    exact ⟨fun e x hx=>⟨Int.lt_of_le_of_lt (h1 x hx) h.2.1,fun q=>e ⟨x,hx,q⟩⟩,fun e ⟨x,hx,q⟩=>(e x hx).2 q⟩
   rw [dT h,dT h',ha,qCI m since l (seen++[s]) s.f0 ?_ (.inr ⟨s,by simp,rfl⟩)]
   ·intro x hx
    rcases List.mem_append.1 hx with hx | hx
    ·have:=h1 x hx
     omega
    ·simp only [List.mem_cons,List.not_mem_nil,or_false]at hx
     rw [hx]
     exact Int.le_refl _
  ·rw [dF h]
   simp only [Bool.false_and]
   by_cases h3:(0≤s.f0∧s.f0<since)∧m.f2≤(s.f1.length:Int)∧(s.f1.length:Int)≤m.f1
   ·have:ahead s seen=false:=by
     unfold ahead
     rw [decide_eq_false_iff_not]
     intro e
     rcases h2 with rfl | ⟨x,hx,rfl⟩
     ·exact h ⟨h3.1,by omega,h3.2⟩
     ·exact h ⟨h3.1,(e x hx).1,h3.2⟩
    rw [this]
    simp
   ·rw [dF h3]
    simp
def trailsR(m:qF):List qC→Bool
 | []=>true
 | t :: l=>(decide (0≤t.f0∧t.f0≤m.f0)&&pastR m t.f0 [] t.f1)&&trailsR m l
theorem qDZ(m:qF):∀ l:List qC,trails m l=trailsR m l
 | []=>rfl
 | t :: l=>by
  rw [trails,trailsR,qDZ m l,qCI m t.f0 t.f1 [] (-1) (fun _ h=>nomatch h) (.inl rfl)]
theorem qFR (m:qF) (hm:Small m) (i x:Nat) (hi:i<m.f6.length) (hx:x<m.f6[i].f1.length) (w:Bool)
  (hy:ahead m.f6[i].f1[x] (m.f6[i].f1.take x)=false→w=false)
  (hn:ahead m.f6[i].f1[x] (m.f6[i].f1.take x)=true→Ev (fun k=>qH.l40 k m (i:Int) ((x+1:Nat):Int)) w) :
  ∀(d j:Nat),j+d=x→(∀ y ∈ m.f6[i].f1.take j,y.f0<m.f6[i].f1[x].f0∧y.f1≠m.f6[i].f1[x].f1)→Ev (fun k=>qH.l113 k m (i:Int) (x:Int) (j:Int)) w:=by
 have hz:=nth_get qC.z _ _ hi
 have hz2:=nth_get qL.z _ _ hx
 have hp:=hm.hp _ (gM hi)
 have hs:=hm.hs _ (gM hi)
 intro d
 induction d with
 | zero =>
  intro j hj h
  refine .s (qH.l113_s · _ _ _ _) (.n (by omega) ?_)
  obtain rfl:j=x:=by omega
  rw [w64n j (by omega)]
  exact hn (dT h)
 | succ d ih =>
  intro j hj h
  have h1:j<m.f6[i].f1.length:=by omega
  refine .s (qH.l113_s · _ _ _ _) ?_
  rw [hz,hz2,nth_get _ _ _ h1]
  refine .t (by omega) (.t (by omega) ?_)
  have hin:m.f6[i].f1[j] ∈ m.f6[i].f1.take x:=List.mem_take_iff_getElem.2 ⟨j,by omega,rfl⟩
  refine .i (fun h2=>?_) (fun h2=>.b (ints _ _ (hs _ (gM h1))) ?_)
  ·refine .s (qH.j137_s · _ _ _ _ _) (.t rfl (.cv (hy ?_).symm))
   exact dF (fun e=>by have:=(e _ hin).1; omega)
  ·refine .s (qH.j137_s · _ _ _ _ _) (.i (fun h3=>.cv (hy ?_).symm) (fun h3=>?_))
   ·exact dF (fun e=>(e _ hin).2 (oT h3))
   ·rw [w64n j (by omega)]
    refine ih (j+1) (by omega) ?_
    intro y hy
    rw [List.take_add_one,List.getElem?_eq_getElem h1,Option.toList_some]at hy
    rcases List.mem_append.1 hy with hy | hy
    ·exact h y hy
    ·simp only [List.mem_cons,List.not_mem_nil,or_false]at hy
     rw [hy]
     exact ⟨by omega,fun e=>h3 (dT e)⟩
theorem qGL (m:qF) (hm:Small m) (i x:Nat) (hi:i<m.f6.length) (hx:x<m.f6[i].f1.length) (w:Bool)
  (hc:riseI 0 m.f6[i].f1[x].f1=true→Ev (fun k=>qH.l113 k m (i:Int) (x:Int) 0) w)
  (hr:riseI 0 m.f6[i].f1[x].f1=false→w=false):∀(d j:Nat),j+d=m.f6[i].f1[x].f1.length→(riseI 0 m.f6[i].f1[x].f1=riseI (preI m.f6[i].f1[x].f1 j) (m.f6[i].f1[x].f1.drop j))→Ev (fun k=>qH.l76 k m (i:Int) (x:Int) (j:Int)) w:=by
 have hz:=nth_get qC.z _ _ hi
 have hz2:=nth_get qL.z _ _ hx
 have hsl:=hm.hs _ (gM hi) _ (gM hx)
 generalize hs:m.f6[i].f1[x]=s at *
 intro d
 induction d with
 | zero =>
  intro j hj he
  refine .s (qH.l76_s · _ _ _ _) ?_
  rw [hz,hz2]
  rw [List.drop_eq_nil_of_le (by omega)]at he
  exact .n (by omega) (hc he)
 | succ d ih =>
  intro j hj he
  have h1:j<s.f1.length:=by omega
  refine .s (qH.l76_s · _ _ _ _) ?_
  rw [hz,hz2]
  refine .t (by omega) (.t (by omega) ?_)
  rw [List.drop_eq_getElem_cons h1]at he
  simp only [riseI]at he
  have hb:∀ b:Bool,(b=true↔¬ ((1≤s.f1[j]∧s.f1[j]≤999)∧preI s.f1 j<s.f1[j]))→Ev (fun k=>qH.j104 k m (i:Int) (x:Int) (j:Int) b) w:=by
   intro b hb
   refine .s (qH.j104_s · _ _ _ _ _) ?_
   by_cases h:(1≤s.f1[j]∧s.f1[j]≤999)∧preI s.f1 j<s.f1[j]
   ·refine .n (fun e=>(hb.1 e) h) ?_
    rw [w64n j (by omega)]
    refine ih (j+1) (by omega) ?_
    rw [he,qCs _ j h1 hsl,dT h,Bool.true_and]
   ·refine .t (hb.2 h) (.cv (hr ?_).symm)
    rw [he,dF h]
    simp
  clear he ih hr hc
  rw [nth_get _ _ _ h1]
  have hp0:j=0→preI s.f1 j=0:=fun e=>if_pos e
  have hp1:j≠0→nth 0 s.f1 (w64 ((j:Int) - 1))=preI s.f1 j:=fun e=>(if_neg e).symm
  have hw:j≠0→w64 ((j:Int) - 1)=((j - 1:Nat):Int):=fun e=>w64p j (by omega) (by omega)
  generalize preI s.f1 j=p at *
  generalize nth 0 s.f1 (w64 ((j:Int) - 1))=q at *
  generalize s.f1[j]=n at *
  clear hs hz hz2
  repeat' (first | refine Ev.i (fun _=>?_) (fun _=>?_))
  all_goals first
   | exact hb _ (by simp only [decide_eq_true_eq,Bool.false_eq_true,true_iff,false_iff]; omega)
   | (exfalso; omega)
theorem qGM (m:qF) (hm:Small m) (i:Nat) (hi:i<m.f6.length) (w:Bool→Bool)
  (hn:Ev (fun k=>qH.l7 k m ((i+1:Nat):Int)) (w true)) (hw:w false=false) :
  ∀(d j:Nat),j+d=m.f6[i].f1.length→Ev (fun k=>qH.l40 k m (i:Int) (j:Int)) (w (pastR m m.f6[i].f0 (m.f6[i].f1.take j) (m.f6[i].f1.drop j))):=by
 have hz:=nth_get qC.z _ _ hi
 have hp:=hm.hp _ (gM hi)
 have h6:=hm.h6
 intro d
 induction d with
 | zero =>
  intro j hj
  refine .s (qH.l40_s · _ _ _) ?_
  rw [hz]
  refine .n (by omega) ?_
  rw [List.drop_eq_nil_of_le (by omega),w64n i (by omega)]
  exact hn
 | succ d ih =>
  intro j hj
  have h1:j<m.f6[i].f1.length:=by omega
  refine .s (qH.l40_s · _ _ _) ?_
  rw [hz]
  refine .t (by omega) (.t (by omega) ?_)
  have ih:=ih (j+1) (by omega)
  rw [List.take_add_one,List.getElem?_eq_getElem h1,Option.toList_some]at ih
  rw [nth_get _ _ _ h1,List.drop_eq_getElem_cons h1]
  simp only [pastR]
  have hb:∀ b:Bool,(b=true↔¬ ((0≤m.f6[i].f1[j].f0∧m.f6[i].f1[j].f0<m.f6[i].f0)∧m.f2≤(m.f6[i].f1[j].f1.length:Int)∧(m.f6[i].f1[j].f1.length:Int)≤m.f1))→Ev (fun k=>qH.j66 k m (i:Int) (j:Int) b) (w ((decide ((0≤m.f6[i].f1[j].f0∧m.f6[i].f1[j].f0<m.f6[i].f0)∧m.f2≤(m.f6[i].f1[j].f1.length:Int)∧(m.f6[i].f1[j].f1.length:Int)≤m.f1)&&riseI 0 m.f6[i].f1[j].f1&&ahead m.f6[i].f1[j] (m.f6[i].f1.take j))&&pastR m m.f6[i].f0 (m.f6[i].f1.take j++[m.f6[i].f1[j]]) (m.f6[i].f1.drop (j+1)))):=by
   intro b hb
   refine .s (qH.j66_s · _ _ _ _) ?_
   by_cases h:(0≤m.f6[i].f1[j].f0∧m.f6[i].f1[j].f0<m.f6[i].f0)∧m.f2≤(m.f6[i].f1[j].f1.length:Int)∧(m.f6[i].f1[j].f1.length:Int)≤m.f1
   ·refine .n (fun e=>(hb.1 e) h) ?_
    rw [dT h,Bool.true_and]
    refine qGL m hm i j hi h1 _ ?_ ?_ m.f6[i].f1[j].f1.length 0 (by omega) (by rw [List.drop_zero]; rfl)
    ·intro h2
     refine qFR m hm i j hi h1 _ ?_ ?_ j 0 (by omega) (fun _ hy=>by rw [List.take_zero]at hy; cases hy)
     ·intro h3
      rw [h3,Bool.and_false,Bool.false_and]
      exact hw
     ·intro h3
      refine ih.v ?_
      rw [h2,h3]
      rfl
    ·intro h2
     rw [h2]
     exact hw
   ·refine .t (hb.2 h) (.cv ?_)
    rw [dF h]
    exact hw.symm
  clear ih hn
  generalize (w ((decide ((0≤m.f6[i].f1[j].f0∧m.f6[i].f1[j].f0<m.f6[i].f0)∧m.f2≤(m.f6[i].f1[j].f1.length:Int)∧(m.f6[i].f1[j].f1.length:Int)≤m.f1)&&riseI 0 m.f6[i].f1[j].f1&&ahead m.f6[i].f1[j] (m.f6[i].f1.take j))&&pastR m m.f6[i].f0 (m.f6[i].f1.take j++[m.f6[i].f1[j]]) (m.f6[i].f1.drop (j+1))))=v at hb ⊢
  generalize m.f6[i].f1[j]=n at *
  generalize m.f6[i].f0=q at *
  clear hz
  repeat' (first | refine Ev.i (fun _=>?_) (fun _=>?_))
  all_goals first
   | exact hb _ (by simp only [decide_eq_true_eq,Bool.false_eq_true,true_iff,false_iff]; omega)
   | (exfalso; omega)
theorem qGp(m:qF)(hm:Small m):∀(d i:Nat),i+d=m.f6.length→Ev (fun k=>qH.l7 k m (i:Int)) (trailsR m (m.f6.drop i)&&decide ((m.f6.length:Int)=m.f3)):=by
 have h6:=hm.h6
 intro d
 induction d with
 | zero =>
  intro i hi
  refine .s (qH.l7_s · _ _) (.n (by omega) (.cv ?_))
  rw [List.drop_eq_nil_of_le (by omega),trailsR,Bool.true_and]
  rw [Bool.eq_iff_iff,decide_eq_true_eq,beq_iff_eq]
 | succ d ih =>
  intro i hi
  have h1:i<m.f6.length:=by omega
  refine .s (qH.l7_s · _ _) (.t (by omega) (.t (by omega) ?_))
  have ih:=ih (i+1) (by omega)
  rw [nth_get _ _ _ h1,List.drop_eq_getElem_cons h1,trailsR]
  have hj:∀ b:Bool,(b=true↔¬ (0≤m.f6[i].f0∧m.f6[i].f0≤m.f0))→Ev (fun k=>qH.j31 k m (i:Int) b) (decide (0≤m.f6[i].f0∧m.f6[i].f0≤m.f0)&&pastR m m.f6[i].f0 [] m.f6[i].f1&&trailsR m (m.f6.drop (i+1))&&decide ((m.f6.length:Int)=m.f3)):=by
   intro b hb
   refine .s (qH.j31_s · _ _ _) ?_
   by_cases h:0≤m.f6[i].f0∧m.f6[i].f0≤m.f0
   ·refine .n (fun e=>(hb.1 e) h) ?_
    rw [dT h,Bool.true_and]
    have:=qGM m hm i h1 (fun b=>b&&trailsR m (m.f6.drop (i+1))&&decide ((m.f6.length:Int)=m.f3)) ih rfl m.f6[i].f1.length 0 (by omega)
    rw [List.take_zero,List.drop_zero]at this
    exact this
   ·refine .t (hb.2 h) (.cv ?_)
    rw [dF h]
    simp
  refine .i (fun h=>hj _ ?_) (fun h=>hj _ ?_)
  ·simp only [true_iff]; omega
  ·simp only [decide_eq_true_eq]; omega
theorem pasts(m:qF)(hm:Small m):Ev (fun k=>qH.f k m) (decide ((m.f6.length:Int)=m.f3∧trails m m.f6=true)):=by
 unfold qH.f
 refine (qGp m hm m.f6.length 0 (by omega)).v ?_
 rw [List.drop_zero,← qDZ,Bool.eq_iff_iff,Bool.and_eq_true,decide_eq_true_eq,decide_eq_true_eq]
 exact And.comm
theorem qHS(m:qF)(hm:Small m)(hf:Flat m):∀(d i:Nat),i+d=m.f5.length→Ev (fun k=>qY.l28 k m (i:Int)) (temps m (preT m.f5 i) (m.f5.drop i)&&decide ((m.f6.length:Int)=m.f3∧trails m m.f6=true)):=by
 have h5:=hm.h5
 have hg:=hf.2.2.2.1
 intro d
 induction d with
 | zero =>
  intro i hi
  refine .s (qY.l28_s · _ _) (.n (by omega) (.b (pasts m hm) (.cv ?_)))
  rw [List.drop_eq_nil_of_le (by omega)]
  rfl
 | succ d ih =>
  intro i hi
  have h1:i<m.f5.length:=by omega
  refine .s (qY.l28_s · _ _) (.t (by omega) (.t (by omega) ?_))
  have ih:=ih (i+1) (by omega)
  rw [qEZ _ i h1 h5]at ih
  rw [nth_get _ _ _ h1,List.drop_eq_getElem_cons h1,temps]
  have hj:∀ b:Bool,(b = !(decide ((0≤m.f5[i].f0∧m.f5[i].f0<m.f3)∧preT m.f5 i<m.f5[i].f0∧1≤(m.f5[i].f1.length:Int)∧(m.f5[i].f1.length:Int)≤m.f1)&&Topo.apartR m.f4 [] m.f5[i].f1))→Ev (fun k=>qY.j71 k m (i:Int) b) (((decide ((0≤m.f5[i].f0∧m.f5[i].f0<m.f3)∧preT m.f5 i<m.f5[i].f0∧1≤(m.f5[i].f1.length:Int)∧(m.f5[i].f1.length:Int)≤m.f1)&&Topo.apartR m.f4 [] m.f5[i].f1)&&temps m m.f5[i].f0 (m.f5.drop (i+1)))&&decide ((m.f6.length:Int)=m.f3∧trails m m.f6=true)):=by
   intro b hb
   refine .s (qY.j71_s · _ _ _) ?_
   rw [w64n i (by omega)]
   generalize (decide ((0≤m.f5[i].f0∧m.f5[i].f0<m.f3)∧preT m.f5 i<m.f5[i].f0∧1≤(m.f5[i].f1.length:Int)∧(m.f5[i].f1.length:Int)≤m.f1)&&Topo.apartR m.f4 [] m.f5[i].f1)=c at hb ⊢
   subst hb
   cases c with
   | true=>exact .n (by decide) ih
   | false=>exact .t rfl (.c _)
  clear ih
  have hj1:¬ ((0≤m.f5[i].f0∧m.f5[i].f0<m.f3)∧preT m.f5 i<m.f5[i].f0∧1≤(m.f5[i].f1.length:Int)∧(m.f5[i].f1.length:Int)≤m.f1)→Ev (fun k=>qY.j71 k m (i:Int) true) _:=fun h=>hj true (by rw [dF h]; rfl)
  have hj2:((0≤m.f5[i].f0∧m.f5[i].f0<m.f3)∧preT m.f5 i<m.f5[i].f0∧1≤(m.f5[i].f1.length:Int)∧(m.f5[i].f1.length:Int)≤m.f1)→Ev (fun k=>(qi.f k m.f4 m.f5[i].f1).bind fun t75=>qY.j71 k m (i:Int) (!t75)) _:=fun h=>.b (Topo.refapart m.f4 m.f5[i].f1 hm.h4 (by have:=hf.2.1; omega)) (hj _ (by rw [dT h]; rfl))
  have hp0:i=0→preT m.f5 i = -1:=fun e=>if_pos e
  have hp1:i≠0→(nth qI.z m.f5 (w64 ((i:Int) - 1))).f0=preT m.f5 i:=fun e=>(if_neg e).symm
  have hw:i≠0→w64 ((i:Int) - 1)=((i - 1:Nat):Int):=fun e=>w64p i (by omega) (by omega)
  clear hj
  generalize (((decide ((0≤m.f5[i].f0∧m.f5[i].f0<m.f3)∧preT m.f5 i<m.f5[i].f0∧1≤(m.f5[i].f1.length:Int)∧(m.f5[i].f1.length:Int)≤m.f1)&&Topo.apartR m.f4 [] m.f5[i].f1)&&temps m m.f5[i].f0 (m.f5.drop (i+1)))&&decide ((m.f6.length:Int)=m.f3∧trails m m.f6=true))=v at hj1 hj2 ⊢
  generalize preT m.f5 i=p at *
  generalize (nth qI.z m.f5 (w64 ((i:Int) - 1))).f0=q at *
  generalize m.f5[i]=n at *
  repeat' (first | refine Ev.i (fun _=>?_) (fun _=>?_))
  all_goals first
   | exact hj1 (by omega)
   | exact hj2 (by omega)
   | (exfalso; omega)
theorem may(m:qF)(hm:Small m):Ev (fun k=>qY.f k m) (decide (May m)):=by
 have hj1:¬ Flat m→Ev (fun k=>qY.j18 k m true) (decide (May m)):=fun h=>.s (qY.j18_s · _ _) (.t rfl (.cv (dF (fun e:May m=>h e.1)).symm))
 have hj2:Flat m→Ev (fun k=>qY.j18 k m false) (decide (May m)):=fun h=>.s (qY.j18_s · _ _) (.n (by decide) ((qHS m hm h m.f5.length 0 (by omega)).v (by
  rw [List.drop_zero,Bool.eq_iff_iff,Bool.and_eq_true,decide_eq_true_eq,decide_eq_true_eq]
  exact ⟨fun e=>⟨h,e⟩,fun e=>e.2⟩)))
 have hj3:(0≤m.f0∧m.f0≤2147483647)∧(1≤m.f1∧m.f1≤3)∧(1≤m.f2∧m.f2≤m.f1)∧(1≤m.f3∧m.f3≤8)→Ev (fun k=>(qh.f k m.f4).bind fun t15=>qY.j18 k m (!t15)) (decide (May m)):=by
  intro h
  refine .b (Topo.may m.f4 hm.h4) ?_
  by_cases hN:Topo.Nodes m.f4
  ·rw [dT hN]
   exact hj2 ⟨h.1,h.2.1,h.2.2.1,h.2.2.2,hN⟩
  ·rw [dF hN]
   exact hj1 (fun e=>hN e.2.2.2.2)
 unfold qY.f
 generalize decide (May m)=v at *
 have hj4:¬ ((0≤m.f0∧m.f0≤2147483647)∧(1≤m.f1∧m.f1≤3)∧(1≤m.f2∧m.f2≤m.f1)∧(1≤m.f3∧m.f3≤8))→Ev (fun k=>qY.j18 k m true) v:=fun h=>hj1 (fun e=>h ⟨e.1,e.2.1,e.2.2.1,e.2.2.2.1⟩)
 clear hj1 hj2
 repeat' (first | refine Ev.i (fun _=>?_) (fun _=>?_))
 all_goals first
  | exact hj4 (by omega)
  | exact hj3 (by omega)
def posG{α : Type}(key : α→Int)(x:Int):List α→Nat
 | []=>0
 | c :: r=>if key c<x then posG key x r+1 else 0
theorem qEs{α : Type}(key : α→Int)(x:Int):∀ l:List α,posG key x l≤l.length
 | []=>Nat.le_refl _
 | c :: r=>by
  unfold posG
  have:=qEs key x r
  rw [List.length_cons]
  split <;> omega
theorem qGN{α : Type}(key : α→Int)(x:Int):∀(l:List α)(i:Nat)(h:i<l.length),i<posG key x l→key l[i] < x
 | [],_,h,_=>nomatch h
 | c :: r,i,h,hi=>by
  unfold posG at hi
  split at hi
  ·cases i with
   | zero=>assumption
   | succ i=>exact qGN key x r i (by simpa using h) (by omega)
  ·omega
theorem qEt{α : Type}(key : α→Int)(x:Int):∀(l:List α),l.Pairwise (fun a b=>key a<key b)→∀(i:Nat)(h:i<l.length),posG key x l≤i→x≤key l[i]
 | [],_,_,h,_=>nomatch h
 | c :: r,hp,i,h,hi=>by
  obtain ⟨h1,h2⟩:=List.pairwise_cons.1 hp
  unfold posG at hi
  split at hi
  ·cases i with
   | zero=>omega
   | succ i=>exact qEt key x r h2 i (by simpa using h) (by omega)
  ·cases i with
   | zero=>rename_i hc; exact Int.not_lt.1 hc
   | succ i =>
    rename_i hc
    have hr:i<r.length:=by simpa using h
    have:=h1 _ (gM hr)
    show x≤key r[i]
    omega
theorem cmpG(a b:Int):qAn.f a b=some (if a<b then -1 else if a>b then 1 else 0):=by
 unfold qAn.f qBL.f
 simp only [beq_self_eq_true,Bool.not_true,Option.bind_some,Bool.false_eq_true,if_false]
 by_cases h:a<b
 ·rw [if_pos h,if_pos h]
 ·rw [if_neg h,if_neg h]
  by_cases h2:a>b
  ·rw [if_pos h2,if_pos h2]
  ·rw [if_neg h2,if_neg h2]
theorem midG(a b:Nat)(h:a+b<4611686018427387904):w64 ((IntKind.u64.wrap (w64 ((a:Int)+b))).fdiv 2)=((a+b) / 2:Nat):=by
 have e:w64 ((a:Int)+b)=((a+b:Nat):Int):=by rw [qCQ (by omega) (by omega)]; omega
 have e2:IntKind.u64.wrap ((a+b:Nat):Int)=((a+b:Nat):Int):=by rw [IntKind.wrap_u64]; omega
 rw [e,e2,Int.fdiv_eq_ediv_of_nonneg _ (by omega),qCQ (by omega) (by omega)]
 omega
def qHe{α : Type}(key : α→Int)(x:Int)(l:List α):Int × Bool:=((posG key x l:Int),match l[posG key x l]? with
 | some c=>key c == x
 | none=>false)
theorem searchG {α : Type} (z : α) (key : α→Int) (x:Int) (cmpO : α→Int→Option Int) (hcmp:∀ a,cmpO a x=some (if key a<x then -1 else if key a>x then 1 else 0)) (l:List α) (L:Nat→Int→Int→Option (Int × Bool))
  (hL:∀ k a b,L (k+1) a b=(if a<b then (if 0≤(w64 ((IntKind.u64.wrap (w64 (a+b))).fdiv 2))∧(w64 ((IntKind.u64.wrap (w64 (a+b))).fdiv 2))<(l.length:Int) then ((cmpO (nth z l (w64 ((IntKind.u64.wrap (w64 (a+b))).fdiv 2))) x).bind fun t22=>(if t22<0 then (L k (w64 ((w64 ((IntKind.u64.wrap (w64 (a+b))).fdiv 2))+1)) b) else (L k a (w64 ((IntKind.u64.wrap (w64 (a+b))).fdiv 2))))) else (none)) else (if a<(l.length:Int) then (if 0≤a∧a<(l.length:Int) then ((cmpO (nth z l a) x).bind fun t33=>(some (a,(t33 == 0)))) else (none)) else (some (a,false)))))
  (hl:l.length<1000000) (hp:l.Pairwise (fun a b=>key a<key b)):∀(d a b:Nat),b - a≤d→a≤posG key x l→posG key x l≤b→b≤l.length→Ev (fun k=>L k (a:Int) (b:Int)) (qHe key x l):=by
 intro d
 induction d with
 | zero =>
  intro a b hd h1 h2 h3
  obtain rfl:a=b:=by omega
  obtain rfl:a=posG key x l:=by omega
  unfold qHe
  refine .s (fun k=>hL k _ _) (.n (by omega) ?_)
  by_cases h4:posG key x l<l.length
  ·refine .t (by omega) (.t (by omega) ?_)
   rw [nth_get _ _ _ h4,List.getElem?_eq_getElem h4]
   refine .b0 (hcmp _) (.cv ?_)
   have:=qEt key x l hp _ h4 (Nat.le_refl _)
   by_cases h5:key l[posG key x l]=x
   ·simp [h5]
   ·rw [if_neg (by omega),if_pos (by omega)]
    simp [h5]
  ·rw [List.getElem?_eq_none (by omega)]
   exact .n (by omega) (.c _)
 | succ d ih =>
  intro a b hd h1 h2 h3
  by_cases hab:a<b
  ·refine .s (fun k=>hL k _ _) (.t (by omega) ?_)
   rw [midG a b (by omega)]
   have h4:(a+b) / 2<l.length:=by omega
   refine .t (by omega) ?_
   rw [nth_get _ _ _ h4]
   refine .b0 (hcmp _) ?_
   by_cases h5:key l[(a+b) / 2] < x
   ·rw [if_pos h5,w64n _ (by omega)]
    refine .t (by decide) (ih _ _ (by omega) ?_ h2 h3)
    rcases Nat.lt_or_ge ((a+b) / 2) (posG key x l) with c | c
    ·omega
    ·have:=qEt key x l hp _ h4 c
     omega
   ·rw [if_neg h5]
    refine .n (by split <;> decide) (ih _ _ (by omega) h1 ?_ (by omega))
    rcases Nat.lt_or_ge ((a+b) / 2) (posG key x l) with c | c
    ·exact absurd (qGN key x l _ h4 c) h5
    ·exact c
  ·exact ih a b (by omega) h1 h2 h3
theorem qDH{α : Type}(key : α→Int)(x:Int):∀(l:List α),l.Pairwise (fun a b=>key a<key b)→((∃ h:posG key x l<l.length,key l[posG key x l]=x∧(qHe key x l).2=true∧l.find? (fun c=>decide (key c=x))=some l[posG key x l])∨((qHe key x l).2=false∧l.find? (fun c=>decide (key c=x))=none))
 | [],_=>.inr ⟨rfl,rfl⟩
 | c :: r,hp=>by
  obtain ⟨h1,h2⟩:=List.pairwise_cons.1 hp
  by_cases hc:key c<x
  ·have e:posG key x (c :: r)=posG key x r+1:=by rw [posG,if_pos hc]
   have ef:(qHe key x (c :: r)).2=(qHe key x r).2:=by unfold qHe; rw [e]; rfl
   have en:(c :: r).find? (fun c=>decide (key c=x))=r.find? (fun c=>decide (key c=x)):=List.find?_cons_of_neg (by simp; omega)
   rw [ef,en]
   rcases qDH key x r h2 with ⟨h,q1,q2,q3⟩ | q
   ·refine .inl ⟨by rw [e,List.length_cons]; omega,?_⟩
    simp only [e,List.getElem_cons_succ]
    exact ⟨q1,q2,q3⟩
   ·exact .inr q
  ·have e:posG key x (c :: r)=0:=by rw [posG,if_neg hc]
   by_cases hx:key c=x
   ·refine .inl ⟨by rw [e]; simp,?_⟩
    simp only [e,List.getElem_cons_zero]
    refine ⟨hx,?_,List.find?_cons_of_pos (by simpa using hx)⟩
    unfold qHe
    rw [e]
    simpa using hx
   ·refine .inr ⟨?_,List.find?_eq_none.2 (fun y hy=>?_)⟩
    ·unfold qHe
     rw [e]
     simpa using hx
    ·rcases List.mem_cons.1 hy with rfl | hy
     ·simpa using hx
     ·have:=h1 y hy
      simp
      omega
def qHd(m:qF)(g:Int):List Int:=match m.f5.find? (fun t=>decide (t.f0=g)) with
 | some t=>t.f1
 | none=>[]
def rawL(m:qF)(g:Int):List Int:=if qHd m g=[] then Place.ofCommon m.f4 g m.f1 else qHd m g
def upN(l:List qA)(id:Int):Bool:=(Topo.find l id).1.f4
def actL(m:qF)(g:Int):List Int:=(rawL m g).filter (upN m.f4)
def bareD(d:qE):Prop :=
 if d.f0=1 then d.f5=0∧d.f6=[]
 else if d.f0=2 then d.f2=0∧d.f3=0∧d.f5=0∧d.f6=[]
 else if d.f0=10 then d.f1=0∧d.f2=0∧d.f3=0∧d.f6=[]
 else if d.f0=8 then d.f1=0∧d.f2=0∧d.f3=0∧d.f4=0
 else (d.f2=0∧d.f3=0∧d.f4=0∧d.f5=0∧d.f6=[])∧(d.f0=9→d.f1=0)
instance (d:qE):Decidable (bareD d):=by unfold bareD; infer_instance
theorem qCt(m:qF):∀(l:List qI)(p:Int),temps m p l=true↔(∀ t ∈ l,((0≤t.f0∧t.f0<m.f3)∧(1≤(t.f1.length:Int)∧(t.f1.length:Int)≤m.f1))∧Topo.apartR m.f4 [] t.f1=true)∧l.Pairwise (fun x y=>x.f0<y.f0)∧∀ t ∈ l,p<t.f0
 | [],p=>⟨fun _=>⟨(fun _ h=>nomatch h),List.Pairwise.nil,(fun _ h=>nomatch h)⟩,fun _=>rfl⟩
 | t :: l,p=>by
  rw [temps,Bool.and_eq_true,Bool.and_eq_true,decide_eq_true_eq,qCt m l t.f0,List.pairwise_cons]
  constructor
  ·rintro ⟨⟨h1,h2⟩,h3,h4,h5⟩
   refine ⟨fun x hx=>?_,⟨h5,h4⟩,fun x hx=>?_⟩
   ·rcases List.mem_cons.1 hx with rfl | hx
    ·exact ⟨⟨h1.1,h1.2.2⟩,h2⟩
    ·exact h3 x hx
   ·rcases List.mem_cons.1 hx with rfl | hx
    ·exact h1.2.1
    ·have:=h5 x hx; have:=h1.2.1; omega
  ·rintro ⟨h1,⟨h2,h3⟩,h4⟩
   have h0:=h1 t List.mem_cons_self
   exact ⟨⟨⟨h0.1.1,h4 t List.mem_cons_self,h0.1.2⟩,h0.2⟩,fun x hx=>h1 x (List.mem_cons_of_mem _ hx),h3,h2⟩
theorem qGO{l:List qA}{id:Int}{n:qA}(h:l.find? (fun x=>decide (x.f0=id))=some n):n ∈ l∧n.f0=id:=⟨List.mem_of_find?_eq_some h,oT (List.find?_some (p:=fun x:qA=>decide (x.f0=id)) h)⟩
theorem qGP{l:List qA}: ∀(ids met:List Int),Topo.apartR l met ids=true→∀ id ∈ ids,∃ n,l.find? (fun x=>decide (x.f0=id))=some n
 | [],_,_,_,h=>nomatch h
 | i :: r,met,h,id,hi=>by
  rw [Topo.apartR]at h
  cases hf:l.find? (fun x=>decide (x.f0=i)) with
  | none=>rw [hf]at h; cases h
  | some n =>
   rw [hf]at h
   dsimp only at h
   rw [Bool.and_eq_true]at h
   rcases List.mem_cons.1 hi with rfl | hi
   ·exact ⟨n,hf⟩
   ·exact qGP r _ h.2 id hi
theorem qHT{m:qF}(h:May m)(g:Int):qHd m g=[]∨((qHd m g).length:Int)≤m.f1∧Topo.apartR m.f4 [] (qHd m g)=true:=by
 unfold qHd
 cases hf:m.f5.find? (fun t=>decide (t.f0=g)) with
 | none=>exact .inl rfl
 | some t =>
  have ht:=((qCt m _ _).1 h.2.1).1 t (List.mem_of_find?_eq_some hf)
  exact .inr ⟨ht.1.2.2,ht.2⟩
theorem qCx{l:List qA}: ∀(ids met:List Int),Topo.apartR l met ids=true→ids.Nodup∧∀ id ∈ ids,∃ n,l.find? (fun x=>decide (x.f0=id))=some n∧¬ n.f1 ∈ met
 | [],_,_=>⟨List.nodup_nil,(fun _ h=>nomatch h)⟩
 | i :: r,met,h=>by
  rw [Topo.apartR]at h
  cases hf:l.find? (fun x=>decide (x.f0=i)) with
  | none=>rw [hf]at h; cases h
  | some n =>
   rw [hf]at h
   dsimp only at h
   rw [Bool.and_eq_true,Bool.not_eq_true',decide_eq_false_iff_not]at h
   obtain ⟨h1,h2⟩:=qCx r _ h.2
   refine ⟨List.nodup_cons.2 ⟨fun hm=>?_,h1⟩,fun id hid=>?_⟩
   ·obtain ⟨n',e1,e2⟩:=h2 i hm
    rw [hf]at e1
    cases e1
    exact e2 (by simp)
   ·rcases List.mem_cons.1 hid with rfl | hid
    ·exact ⟨n,hf,h.1⟩
    ·obtain ⟨n',e1,e2⟩:=h2 id hid
     exact ⟨n',e1,fun c=>e2 (List.mem_append.2 (.inl c))⟩
theorem qGw{m:qF}(h:May m)(g:Int):(rawL m g).Nodup∧((rawL m g).length:Int)≤m.f1∧∀ id ∈ rawL m g,∃ n ∈ m.f4,n.f0=id:=by
 have h1:=h.1.2.1
 unfold rawL
 split
 ·unfold Place.ofCommon
  split
  ·rename_i hc
   refine ⟨?_,?_,?_⟩
   ·unfold List.Nodup
    rw [List.pairwise_map]
    refine List.Pairwise.imp_of_mem ?_ ((Place.zones_nodup hc.1 g).sublist (List.take_sublist m.f1.toNat _))
    intro a b ha hb hab e
    obtain ⟨n,hn,q1,_,q2,_⟩:=Place.zone_pk hc.1 g (List.mem_of_mem_take ha)
    obtain ⟨n',hn',q1',_,q2',_⟩:=Place.zone_pk hc.1 g (List.mem_of_mem_take hb)
    have:n=n':=Place.node_uniq hc.1 hn hn' (by omega)
    subst this
    exact hab (by omega)
   ·rw [List.length_map,List.length_take]
    omega
   ·intro id hid
    obtain ⟨z,hz,rfl⟩:=List.mem_map.1 hid
    obtain ⟨n,hn,_,_,q2,_⟩:=Place.zone_pk hc.1 g (List.mem_of_mem_take hz)
    exact ⟨n,hn,q2.symm⟩
  ·exact ⟨List.nodup_nil,by simp; omega,(fun _ h=>nomatch h)⟩
 ·rename_i c
  obtain ⟨q1,q2⟩:=(qHT h g).resolve_left c
  refine ⟨(qCx _ _ q2).1,q1,fun id hid=>?_⟩
  obtain ⟨n,e,_⟩:=(qCx _ _ q2).2 id hid
  exact ⟨n,qGO e⟩
theorem tfind{l:List qA}(h:Topo.Nodes l)(id:Int):Ev (fun k=>qBN.f k l id) (Topo.find l id):=by
 have hl:=h.1
 have hs:Ev (fun k=>qN.f k l id) (qHe (fun n:qA=>n.f0) id l):=by
  unfold qN.f
  exact searchG qA.z (fun n=>n.f0) id qBZ.f (fun a=>by unfold qBZ.f; rw [cmpG]; rfl) l _ (fun k a b=>qN.l7_s k l id a b) (by omega) h.up l.length 0 l.length (by omega) (by omega) (qEs _ _ _) (Nat.le_refl _)
 unfold qBN.f
 refine .b hs ?_
 unfold Topo.find
 rcases qDH (fun n:qA=>n.f0) id l h.up with ⟨h1,q1,q2,q3⟩ | ⟨q2,q3⟩
 ·rw [q3]
  refine .t q2 (.b (Topo.chk h) (.s (qBN.j15_s · _ _ _) (.n (by decide) (.t ?_ (.cv ?_)))))
  ·show 0≤((posG (fun n:qA=>n.f0) id l:Nat):Int)∧((posG (fun n:qA=>n.f0) id l:Nat):Int)<_
   omega
  ·have q:nth qA.z l (qHe (fun n:qA=>n.f0) id l).1=_:=nth_get qA.z l _ h1
   rw [q]
 ·rw [q3]
  exact .n (by rw [q2]; decide) (.s (qBN.j15_s · _ _ _) (.t rfl (.c _)))
theorem indexG {α : Type} (z : α) (l:List α) (p : α→Bool) (pO:Nat→α→Option Bool) (hp:∀ x ∈ l,Ev (fun k=>pO k x) (p x)) (hl:l.length<1000000) (L:Nat→Int→Option Int)
  (hL:∀ k x,L (k+1) x=(if x<(l.length:Int) then (if 0≤x∧x<(l.length:Int) then ((pO k (nth z l x)).bind fun t21=>(if t21=true then (some x) else (L k (w64 (x+1))))) else (none)) else (some (-1)))) :
  ∀(d i:Nat),i+d=l.length→(l.take i).filter (fun x => !p x)=l.take i→(l.filter (fun x => !p x)=l∧Ev (fun k=>L k (i:Int)) (-1))∨∃ n:Nat,n<l.length∧(l.take n).filter (fun x => !p x)=l.take n∧(∀ h:n<l.length,p l[n]=true)∧Ev (fun k=>L k (i:Int)) (n:Int):=by
 intro d
 induction d with
 | zero =>
  intro i hi ht
  rw [List.take_of_length_le (by omega)]at ht
  exact .inl ⟨ht,.s (fun k=>hL k _) (.n (by omega) (.c _))⟩
 | succ d ih =>
  intro i hi ht
  have h1:i<l.length:=by omega
  have hx:=hp _ (gM h1)
  have go:∀ v,(∀ w,p l[i]=w→(w=true→v=(i:Int))∧(w=false→Ev (fun k=>L k ((i+1:Nat):Int)) v))→Ev (fun k=>L k (i:Int)) v:=by
   intro v hv
   refine .s (fun k=>hL k _) (.t (by omega) (.t (by omega) ?_))
   rw [nth_get _ _ _ h1,w64n i (by omega)]
   refine .b hx (.i (fun c=>.cv ((hv _ rfl).1 c).symm) (fun c=>(hv _ rfl).2 (eq_false_of_ne_true c)))
  by_cases h0:p l[i]=true
  ·exact .inr ⟨i,h1,ht,fun _=>h0,go _ (fun w hw=>⟨fun _=>rfl,fun e=>absurd (hw.trans e) (by rw [h0]; decide)⟩)⟩
  ·have ht':(l.take (i+1)).filter (fun x => !p x)=l.take (i+1):=by
    rw [← List.take_append_getElem h1,List.filter_append,ht]
    simp [h0]
   rcases ih (i+1) (by omega) ht' with ⟨a,b⟩ | ⟨n,a,b,c,e⟩
   ·exact .inl ⟨a,go _ (fun w hw=>⟨fun q=>absurd (hw.trans q) h0,fun _=>b⟩)⟩
   ·exact .inr ⟨n,a,b,c,go _ (fun w hw=>⟨fun q=>absurd (hw.trans q) h0,fun _=>e⟩)⟩
theorem deleteG {α : Type} (z : α) (l:List α) (p : α→Bool) (pO:Nat→α→Option Bool) (hp:∀ x ∈ l,Ev (fun k=>pO k x) (p x)) (hl:l.length<1000000) (L:Nat→List α→Int→Int→Option (List α))
  (hL:∀ k q n x,L (k+1) q n x=(if x<(l.length:Int) then (if 0≤x∧x<(l.length:Int) then ((pO k (nth z q x)).bind fun t33=>(if t33=true then (L k q n (w64 (x+1))) else (if 0≤n∧n<(l.length:Int) then (L k (q.set (n).toNat (nth z q x)) (w64 (n+1)) (w64 (x+1))) else (none)))) else (none)) else (if 0≤n∧n≤(l.length:Int) then (some (cutl (q.take (n).toNat++List.replicate (l.length - (n).toNat) z) 0 n)) else (none)))) :
  ∀(d i n:Nat)(q:List α),i+d=l.length→n<i→q.length=l.length→q.take n=(l.take i).filter (fun x => !p x)→q.drop i=l.drop i→Ev (fun k=>L k q (n:Int) (i:Int)) (l.filter (fun x => !p x)):=by
 intro d
 induction d with
 | zero =>
  intro i n q hi hn hq ht hd
  refine .s (fun k=>hL k _ _ _) (.n (by omega) (.t (by omega) (.cv ?_)))
  rw [List.take_of_length_le (by omega:l.length≤i)]at ht
  rw [← ht]
  have hlen:(q.take n).length=n:=by rw [List.length_take]; omega
  simp only [cutl,tN,Int.toNat_zero,List.drop_zero]
  rw [List.take_append_of_le_length (by omega),List.take_of_length_le (by omega)]
 | succ d ih =>
  intro i n q hi hn hq ht hd
  have h1:i<l.length:=by omega
  have h2:i<q.length:=by omega
  have hx:=hp _ (gM h1)
  have hd2:q[i]=l[i]∧q.drop (i+1)=l.drop (i+1):=by
   rw [List.drop_eq_getElem_cons h1,List.drop_eq_getElem_cons h2]at hd
   exact ⟨(List.cons.inj hd).1,(List.cons.inj hd).2⟩
  refine .s (fun k=>hL k _ _ _) (.t (by omega) (.t (by omega) ?_))
  rw [nth_get _ _ _ h2,hd2.1,w64n i (by omega),w64n n (by omega)]
  refine .b hx (.i (fun c=>ih (i+1) n q (by omega) (by omega) hq ?_ hd2.2) (fun c=>.t (by omega) (ih (i+1) (n+1) _ (by omega) (by omega) (by rw [List.length_set]; exact hq) ?_ ?_)))
  ·rw [← List.take_append_getElem h1,List.filter_append,ht]
   simp [c]
  ·rw [← List.take_append_getElem h1,List.filter_append,← ht,tN,List.take_add_one,List.take_set_of_le (by omega),List.getElem?_set_self (by omega)]
   simp [c]
  ·rw [tN,List.drop_set_of_lt (by omega)]
   exact hd2.2
theorem up{m:qF}(h:Topo.Nodes m.f4)(l:List Int)(hl:l.length<1000000):Ev (fun k=>qBw.f k m l) (l.filter (upN m.f4)):=by
 have hp:∀ x ∈ l,Ev (fun k=>qBf.f k x m) (!upN m.f4 x):=by
  intro x _
  unfold qBf.f
  exact .b (tfind h x) (.c _)
 have e:l.filter (upN m.f4)=l.filter (fun x => !(!upN m.f4 x)):=by
  congr 1
  funext x
  rw [Bool.not_not]
 unfold qBw.f qZ.f qb.f
 rw [e]
 refine .b ?_ (.c _)
 rcases indexG 0 l (fun x => !upN m.f4 x) (fun k x=>qBf.f k x m) hp hl (fun k x=>qb.l5 k l m x) (fun k x=>qb.l5_s k l m x) l.length 0 (by omega) rfl with ⟨a,b⟩ | ⟨n,a,b,c,e⟩
 ·exact .b b (.t rfl (.cv a.symm))
 ·refine .b e (.n (by omega) ?_)
  rw [w64n n (by omega)]
  refine deleteG 0 l (fun x => !upN m.f4 x) (fun k x=>qBf.f k x m) hp hl (fun k q n x=>qZ.l15 k l m q n x) (fun k q n x=>qZ.l15_s k l m q n x) (l.length - (n+1)) (n+1) n l (by omega) (by omega) rfl ?_ rfl
  rw [← List.take_append_getElem a,List.filter_append,b]
  have ca:upN m.f4 l[n]=false:=by
   have:=c a
   revert this
   cases upN m.f4 l[n] <;> decide
  simp [ca]
theorem qGQ{m:qF}(h:May m):m.f5.length≤8:=by
 have ht:=(qCt m _ _).1 h.2.1
 have h3:=h.1.2.2.2.1
 have go:∀(l:List qI)(p:Int),l.Pairwise (fun x y=>x.f0<y.f0)→(∀ t ∈ l,p<t.f0∧t.f0<m.f3)→p<m.f3→(l.length:Int)≤m.f3 - 1 - p:=by
  intro l
  induction l with
  | nil=>intro p _ _ hp; simp; omega
  | cons x r ih =>
   intro p hp hb _
   obtain ⟨h1,h2⟩:=List.pairwise_cons.1 hp
   have hx:=hb x List.mem_cons_self
   have:=ih x.f0 h2 (fun t htm=>⟨h1 t htm,(hb t (List.mem_cons_of_mem _ htm)).2⟩) hx.2
   rw [List.length_cons]
   omega
 have:=go m.f5 (-1) ht.2.1 (fun t hm=>⟨ht.2.2 t hm,(ht.1 t hm).1.1.2⟩) (by omega)
 omega
theorem temp{m:qF}(h:May m)(g:Int):Ev (fun k=>qBy.f k m g) (qHe (fun t:qI=>t.f0) g m.f5):=by
 have ht:=(qCt m _ _).1 h.2.1
 have hl:=qGQ h
 unfold qBy.f qO.f
 exact .b (searchG qI.z (fun n=>n.f0) g qBX.f (fun a=>by unfold qBX.f; rw [cmpG]; rfl) m.f5 _ (fun k a b=>qO.l7_s k m.f5 g a b) (by omega) ht.2.1 m.f5.length 0 m.f5.length (by omega) (by omega) (qEs _ _ _) (Nat.le_refl _)) (.c _)
theorem clone(l:List Int)(hl:l.length≤1000000):qAC.f l=some l:=by
 unfold qAC.f
 rw [if_pos]
 ·rfl
 ·simp only [List.length_nil]
  omega
theorem raw{m:qF}(h:May m)(g:Int):Ev (fun k=>qBt.f k m g) (rawL m g):=by
 have ht:=(qCt m _ _).1 h.2.1
 have h1:=h.1.2.1
 unfold qBt.f
 refine .b (temp h g) ?_
 unfold rawL qHd
 rcases qDH (fun n:qI=>n.f0) g m.f5 ht.2.1 with ⟨hp,q1,q2,q3⟩ | ⟨q2,q3⟩
 ·rw [q3]
  have hm:=ht.1 _ (gM hp)
  refine .t q2 (.t ?_ ?_)
  ·show 0≤((posG (fun n:qI=>n.f0) g m.f5:Nat):Int)∧((posG (fun n:qI=>n.f0) g m.f5:Nat):Int)<_
   omega
  ·show Ev (fun k=>(qAC.f ((nth qI.z m.f5 ((posG (fun n:qI=>n.f0) g m.f5:Nat):Int)).f1)).bind fun t21=>some t21) _
   rw [nth_get _ _ _ hp]
   refine .b0 (clone _ (by omega)) (.cv ?_)
   rw [if_neg]
   intro e
   rw [show m.f5[posG (fun n:qI=>n.f0) g m.f5].f1=[] from e]at hm
   have:=hm.1.2.1
   simp at this
 ·rw [q3,if_pos rfl]
  exact .n (by rw [q2]; decide) (.b (Place.of_ m.f4 g m.f1) (.c _))
def rawM(m:qF)(g:Int):List Int:=if May m∧0≤g∧g<m.f3 then rawL m g else []
def actM(m:qF)(g:Int):List Int:=if May m∧0≤g∧g<m.f3 then actL m g else []
theorem mRaw(m:qF)(hm:Small m)(g:Int):Ev (fun k=>qBU.f k m g) (rawM m g):=by
 unfold qBU.f rawM
 refine .b (check m hm) ?_
 by_cases h:May m
 ·have h3:=h.1.2.2.2.1
  rw [dT h]
  refine .t rfl (.b0 (min' g 0 (w64 (m.f3 - 1))) (.s (qBU.j14_s · _ _ _) ?_))
  rw [qCQ (n:=m.f3 - 1) (by omega) (by omega)]
  by_cases c:0≤g∧g<m.f3
  ·rw [dT (by omega),if_pos ⟨h,c⟩]
   exact .n (by decide) (.b (raw h g) (.c _))
  ·rw [dF (by omega),if_neg (fun e=>c e.2)]
   exact .t rfl (.c _)
 ·rw [dF h,if_neg (fun e=>h e.1)]
  exact .n (by decide) (.s (qBU.j14_s · _ _ _) (.t rfl (.c _)))
theorem mActing(m:qF)(hm:Small m)(g:Int):Ev (fun k=>qBl.f k m g) (actM m g):=by
 unfold qBl.f
 refine .b (mRaw m hm g) ?_
 unfold rawM actM
 by_cases h:May m∧0≤g∧g<m.f3
 ·rw [if_pos h,if_pos h]
  have h2:=(qGw h.1 g).2.1
  have h1:=h.1.1.2.1
  exact .b (up h.1.1.2.2.2.2 _ (by omega)) (.c _)
 ·rw [if_neg h,if_neg h]
  have:Ev (fun k=>qBw.f k m []) ([]:List Int):=by
   unfold qBw.f qZ.f qb.f
   exact .b (.b (.s (qb.l5_s · _ _ _) (.n (by decide) (.c _))) (.t rfl (.c _))) (.c _)
  exact .b this (.c _)
theorem rtemp(m:qF)(hm:Small m)(g:Int):Ev (fun k=>qAT.f k m g) (qHd m g):=by
 have h5:=hm.h5
 have go:∀(d i:Nat),i+d=m.f5.length→Ev (fun k=>qAT.l7 k m g (i:Int)) (match (m.f5.drop i).find? (fun t=>decide (t.f0=g)) with
  | some t=>t.f1
  | none=>[]):=by
  intro d
  induction d with
  | zero =>
   intro i hi
   refine .s (qAT.l7_s · _ _ _) (.n (by omega) (.cv ?_))
   rw [List.drop_eq_nil_of_le (by omega)]
   rfl
  | succ d ih =>
   intro i hi
   have h1:i<m.f5.length:=by omega
   refine .s (qAT.l7_s · _ _ _) (.t (by omega) (.t (by omega) ?_))
   rw [nth_get _ _ _ h1,List.drop_eq_getElem_cons h1,w64n i (by omega)]
   refine .i (fun c=>.cv ?_) (fun c=>(ih (i+1) (by omega)).v ?_)
   ·rw [List.find?_cons_of_pos (by simpa using c)]
   ·rw [List.find?_cons_of_neg (by simpa using c)]
 exact go m.f5.length 0 (by omega)
theorem rRaw(m:qF)(hm:Small m)(g:Int):Ev (fun k=>qAR.f k m g) (rawM m g):=by
 have no:¬ (May m∧0≤g∧g<m.f3)→Ev (fun k=>qAR.j12 k m g true) (rawM m g):=by
  intro c
  unfold rawM
  rw [if_neg c]
  exact .s (qAR.j12_s · _ _ _) (.t rfl (.c _))
 unfold qAR.f
 refine .b (may m hm) ?_
 by_cases h:May m
 ·rw [dT h]
  refine .t rfl (.i (fun c=>no (fun e=>by omega)) (fun c=>?_))
  by_cases c2:g≥m.f3
  ·rw [dT c2]
   exact no (fun e=>by omega)
  ·rw [dF c2]
   unfold rawM rawL
   rw [if_pos ⟨h,by omega,by omega⟩]
   refine .s (qAR.j12_s · _ _ _) (.n (by decide) (.b (rtemp m hm g) (.i (fun c3=>.cv ?_) (fun c3=>.b (Place.rof m.f4 g m.f1 hm.h4) (.cv ?_)))))
   ·rw [if_neg]
    intro e
    rw [e]at c3
    simp at c3
   ·rw [if_pos]
    exact List.length_eq_zero_iff.1 (by omega)
 ·rw [dF h]
  exact .n (by decide) (no (fun e=>h e.1))
theorem rActing(m:qF)(hm:Small m)(g:Int):Ev (fun k=>qAE.f k m g) (actM m g):=by
 have hle:(rawM m g).length≤1000000:=by
  unfold rawM
  split
  ·rename_i h
   have h2:=(qGw h.1 g).2.1
   have h1:=h.1.1.2.1
   omega
  ·decide
 have go:∀(d i:Nat),i+d=(rawM m g).length→Ev (fun k=>qAE.l24 k m (rawM m g) (((rawM m g).take i).filter (upN m.f4)) (i:Int)) ((rawM m g).filter (upN m.f4)):=by
  intro d
  induction d with
  | zero =>
   intro i hi
   refine .s (qAE.l24_s · _ _ _ _) (.n (by omega) (.cv ?_))
   rw [List.take_of_length_le (by omega)]
  | succ d ih =>
   intro i hi
   have h1:i<(rawM m g).length:=by omega
   have ih:=ih (i+1) (by omega)
   have hlen:(((rawM m g).take i).filter (upN m.f4)).length≤i:=Nat.le_trans (List.length_filter_le _ _) (by rw [List.length_take]; omega)
   rw [← List.take_append_getElem h1,List.filter_append]at ih
   refine .s (qAE.l24_s · _ _ _ _) (.t (by omega) (.t (by omega) ?_))
   rw [nth_get _ _ _ h1,w64n i (by omega)]
   refine .b (Topo.reffind _ _ hm.h4) (.i (fun c=>.t (by omega) ?_) (fun c=>?_))
   ·rw [show [(rawM m g)[i]].filter (upN m.f4)=[(rawM m g)[i]] from by unfold upN; simp [c]]at ih
    exact ih
   ·rw [show [(rawM m g)[i]].filter (upN m.f4)=[] from by unfold upN; simp [c],List.append_nil]at ih
    exact ih
 unfold qAE.f
 refine .b (rRaw m hm g) ((go _ 0 (Nat.zero_add _)).v ?_)
 unfold rawM actM actL
 split
 ·rfl
 ·rfl
structure Lit8 (m:qF):Prop where
 h4:m.f4.length≤30
 h5:m.f5.length≤20
 h6:m.f6.length≤20
 ht:∀ t ∈ m.f5,t.f1.length≤20
 hp:∀ t ∈ m.f6,t.f1.length≤20
 hs:∀ t ∈ m.f6,∀ s ∈ t.f1,s.f1.length≤20
theorem light(m:qF):Ht (fun k=>qS.f k m) (fun b=>b=true→Lit8 m):=by
 have h65:∀(i:Nat)(hi:i<m.f6.length),m.f6[i].f1.length≤20→(∀ t ∈ m.f6.take i,t.f1.length≤20∧∀ s ∈ t.f1,s.f1.length≤20)→(∀ t ∈ m.f5.take 20,t.f1.length≤20) →
   ((∀ t ∈ m.f6.take (i+1),t.f1.length≤20∧∀ s ∈ t.f1,s.f1.length≤20)→Ht (fun k=>qS.l36 k m ((i+1:Nat):Int)) (fun b=>b=true→Lit8 m))→i<20 →
   ∀(d j:Nat),j+d=m.f6[i].f1.length→(∀ s ∈ m.f6[i].f1.take j,s.f1.length≤20)→Ht (fun k=>qS.l65 k m (i:Int) (j:Int)) (fun b=>b=true→Lit8 m):=by
  intro i hi h20 hp ht hk hi20 d
  induction d with
  | zero =>
   intro j hj hs
   refine .s (qS.l65_s · _ _ _) ?_
   rw [nth_get _ _ _ hi,w64n i (by omega)]
   refine .n (by omega) (hk (fun t hm=>?_))
   rw [← List.take_append_getElem hi]at hm
   rcases List.mem_append.1 hm with hm | hm
   ·exact hp t hm
   ·rw [List.mem_singleton.1 hm]
    exact ⟨h20,fun s hsm=>hs s (by rw [List.take_of_length_le (by omega)]; exact hsm)⟩
  | succ d ih =>
   intro j hj hs
   have h1:j<m.f6[i].f1.length:=by omega
   refine .s (qS.l65_s · _ _ _) ?_
   rw [nth_get _ _ _ hi]
   refine .t (by omega) (.t (by omega) ?_)
   rw [nth_get _ _ _ h1,w64n j (by omega)]
   refine .i (fun _=>.c (fun e=>nomatch e)) (fun c=>ih (j+1) (by omega) (fun s hsm=>?_))
   rw [← List.take_append_getElem h1]at hsm
   rcases List.mem_append.1 hsm with hsm | hsm
   ·exact hs s hsm
   ·rw [List.mem_singleton.1 hsm]
    omega
 have h36:∀(d i:Nat),i+d=min 20 m.f6.length→(∀ t ∈ m.f6.take i,t.f1.length≤20∧∀ s ∈ t.f1,s.f1.length≤20)→(∀ t ∈ m.f5.take 20,t.f1.length≤20)→Ht (fun k=>qS.l36 k m (i:Int)) (fun b=>b=true→Lit8 m):=by
  intro d
  induction d with
  | zero =>
   intro i hi hp ht
   have fin:Ht (fun k=>qS.j44 k m (i:Int) false) (fun b=>b=true→Lit8 m):=by
    refine .s (qS.j44_s · _ _ _) (.n (by decide) (.i (fun c4=>.i (fun c5=>.c (fun e=>?_)) (fun _=>.c (fun e=>nomatch e))) (fun _=>.c (fun e=>nomatch e))))
    have c6:=oT e
    rw [List.take_of_length_le (by omega)]at hp
    rw [List.take_of_length_le (by omega)]at ht
    exact ⟨by omega,by omega,by omega,ht,fun t hm=>(hp t hm).1,fun t hm=>(hp t hm).2⟩
   refine .s (qS.l36_s · _ _) (.i (fun c=>?_) (fun _=>fin))
   rw [dF (by omega)]
   exact fin
  | succ d ih =>
   intro i hi hp ht
   have h1:i<m.f6.length:=by omega
   refine .s (qS.l36_s · _ _) (.t (by omega) ?_)
   rw [dT (by omega)]
   refine .s (qS.j44_s · _ _ _) (.t rfl (.t (by omega) ?_))
   rw [nth_get _ _ _ h1]
   exact .i (fun _=>.c (fun e=>nomatch e)) (fun c=>h65 i h1 (by omega) hp ht (fun q=>ih (i+1) (by omega) q ht) (by omega) m.f6[i].f1.length 0 (by omega) (fun _ h=>nomatch h))
 have h7:∀(d i:Nat),i+d=min 20 m.f5.length→(∀ t ∈ m.f5.take i,t.f1.length≤20)→Ht (fun k=>qS.l7 k m (i:Int)) (fun b=>b=true→Lit8 m):=by
  intro d
  induction d with
  | zero =>
   intro i hi ht
   have fin:Ht (fun k=>qS.j15 k m (i:Int) false) (fun b=>b=true→Lit8 m):=by
    refine .s (qS.j15_s · _ _ _) (.n (by decide) (h36 (min 20 m.f6.length) 0 (by omega) (fun _ h=>nomatch h) ?_))
    by_cases c:m.f5.length≤20
    ·rw [List.take_of_length_le (by omega)]at ht ⊢
     exact ht
    ·rwa [show i=20 by omega]at ht
   refine .s (qS.l7_s · _ _) (.i (fun c=>?_) (fun _=>fin))
   rw [dF (by omega)]
   exact fin
  | succ d ih =>
   intro i hi ht
   have h1:i<m.f5.length:=by omega
   refine .s (qS.l7_s · _ _) (.t (by omega) ?_)
   rw [dT (by omega)]
   refine .s (qS.j15_s · _ _ _) (.t rfl (.t (by omega) ?_))
   rw [nth_get _ _ _ h1,w64n i (by omega)]
   refine .i (fun _=>.c (fun e=>nomatch e)) (fun c=>ih (i+1) (by omega) (fun t hm=>?_))
   rw [← List.take_append_getElem h1]at hm
   rcases List.mem_append.1 hm with hm | hm
   ·exact ht t hm
   ·rw [List.mem_singleton.1 hm]
    omega
 exact h7 (min 20 m.f5.length) 0 (by omega) (fun _ h=>nomatch h)
theorem qFS(l:List qA)(hl:l.length<4611686018427387904):∀(d i:Nat),i+d=l.length→Ev (fun k=>qAP.l9 k l l (i:Int)) true:=by
 intro d
 induction d with
 | zero=>exact fun i hi=>.s (qAP.l9_s · _ _ _) (.n (by omega) (.c _))
 | succ d ih =>
  intro i hi
  refine .s (qAP.l9_s · _ _ _) (.t (by omega) (.t (by omega) (.t (by omega) (.t rfl ?_))))
  rw [w64n i (by omega)]
  exact ih (i+1) (by omega)
theorem qFT(l:List qL)(hl:l.length<4611686018427387904)(hs:∀ s ∈ l,s.f1.length<4611686018427387904):∀(d i:Nat),i+d=l.length→Ev (fun k=>qo.l9 k l l (i:Int)) true:=by
 intro d
 induction d with
 | zero=>exact fun i hi=>.s (qo.l9_s · _ _ _) (.n (by omega) (.c _))
 | succ d ih =>
  intro i hi
  have h1:i<l.length:=by omega
  refine .s (qo.l9_s · _ _ _) (.t (by omega) (.t (by omega) (.t (by omega) (.t rfl ?_))))
  rw [nth_get _ _ _ h1]
  refine .b (ints _ _ (hs _ (gM h1))) (.s (qo.j45_s · _ _ _ _) ?_)
  rw [dT rfl,w64n i (by omega)]
  exact .n (by decide) (ih (i+1) (by omega))
theorem qEu(l:List qC)(hl:l.length<4611686018427387904)(hp:∀ t ∈ l,t.f1.length<4611686018427387904)(hs:∀ t ∈ l,∀ s ∈ t.f1,s.f1.length<4611686018427387904):∀(d i:Nat),i+d=l.length→Ev (fun k=>ql.l9 k l l (i:Int)) true:=by
 intro d
 induction d with
 | zero=>exact fun i hi=>.s (ql.l9_s · _ _ _) (.n (by omega) (.c _))
 | succ d ih =>
  intro i hi
  have h1:i<l.length:=by omega
  have hsp:Ev (fun k=>qo.f k l[i].f1 l[i].f1) true:=by
   unfold qo.f
   exact .t rfl (qFT _ (hp _ (gM h1)) (hs _ (gM h1)) _ 0 (Nat.zero_add _))
  refine .s (ql.l9_s · _ _ _) (.t (by omega) (.t (by omega) (.t (by omega) (.t rfl ?_))))
  rw [nth_get _ _ _ h1]
  refine .b hsp (.s (ql.j45_s · _ _ _ _) (.n (by decide) ?_))
  rw [w64n i (by omega)]
  exact ih (i+1) (by omega)
theorem qGR(m:qF)(hm:Small m)(ht:∀ t ∈ m.f5,t.f1.length<4611686018427387904):Ev (fun k=>qd.f k m m) true:=by
 have h4:=hm.h4
 have h5:=hm.h5
 have h6:=hm.h6
 have hN:Ev (fun k=>qAP.f k m.f4 m.f4) true:=by
  unfold qAP.f
  exact .t rfl (qFS _ h4 _ 0 (Nat.zero_add _))
 have hT:Ev (fun k=>ql.f k m.f6 m.f6) true:=by
  unfold ql.f
  exact .t rfl (qEu _ h6 hm.hp hm.hs _ 0 (Nat.zero_add _))
 have hL:∀(d i:Nat),i+d=m.f5.length→Ev (fun k=>qd.l27 k m m (i:Int)) true:=by
  intro d
  induction d with
  | zero=>exact fun i hi=>.s (qd.l27_s · _ _ _) (.n (by omega) (.b hT (.c _)))
  | succ d ih =>
   intro i hi
   have h1:i<m.f5.length:=by omega
   refine .s (qd.l27_s · _ _ _) (.t (by omega) (.t (by omega) (.t (by omega) (.t rfl ?_))))
   rw [nth_get _ _ _ h1]
   refine .b (ints _ _ (ht _ (gM h1))) (.s (qd.j63_s · _ _ _ _) ?_)
   rw [dT rfl,w64n i (by omega)]
   exact .n (by decide) (ih (i+1) (by omega))
 unfold qd.f
 refine .t rfl (.t rfl (.t rfl (.t rfl (.b hN (.t rfl (.s (qd.j17_s · _ _ _) ?_))))))
 rw [show ((m.f5.length:Int) == (m.f5.length:Int))=true from beq_self_eq_true _]
 exact .n (by decide) (hL _ 0 (Nat.zero_add _))
theorem cloneN(l:List qA)(hl:l.length≤1000000):qAW.f l=some l:=by
 unfold qAW.f
 rw [if_pos (by simp only [List.length_nil]; omega)]
 rfl
theorem cloneT(l:List qI)(hl:l.length≤1000000):qAX.f l=some l:=by
 unfold qAX.f
 rw [if_pos (by simp only [List.length_nil]; omega)]
 rfl
theorem cloneP(l:List qC)(hl:l.length≤1000000):qAF.f l=some l:=by
 unfold qAF.f
 rw [if_pos (by simp only [List.length_nil]; omega)]
 rfl
theorem cloneS(l:List qL)(hl:l.length≤1000000):qAY.f l=some l:=by
 unfold qAY.f
 rw [if_pos (by simp only [List.length_nil]; omega)]
 rfl
theorem spansId(l:List qL)(hl:l.length≤1000000)(hs:∀ s ∈ l,s.f1.length≤1000000):Ev (fun k=>qAy.f k l) l:=by
 have go:∀(d i:Nat),i+d=l.length→Ev (fun k=>qAy.l16 k l l (i:Int)) l:=by
  intro d
  induction d with
  | zero=>exact fun i hi=>.s (qAy.l16_s · _ _ _) (.n (by omega) (.c _))
  | succ d ih =>
   intro i hi
   have h1:i<l.length:=by omega
   refine .s (qAy.l16_s · _ _ _) (.t (by omega) (.t (by omega) ?_))
   rw [nth_get _ _ _ h1,w64n i (by omega)]
   refine .b0 (clone _ (hs _ (gM h1))) ?_
   have e:l.set (i:Int).toNat (⟨l[i].f0,l[i].f1⟩:qL)=l:=by
    rw [tN]
    exact List.set_getElem_self h1
   rw [e]
   exact ih (i+1) (by omega)
 unfold qAy.f
 exact .b0 (cloneS l hl) (go l.length 0 (Nat.zero_add _))
structure Sized (m:qF):Prop where
 h4:m.f4.length<1000000
 h5:m.f5.length<1000000
 h6:m.f6.length<1000000
 ht:∀ t ∈ m.f5,t.f1.length<1000000
 hp:∀ t ∈ m.f6,t.f1.length<1000000
 hs:∀ t ∈ m.f6,∀ s ∈ t.f1,s.f1.length<1000000
theorem Lit8.sized{m:qF}(h:Lit8 m):Sized m:=⟨by have:=h.h4; omega,by have:=h.h5; omega,by have:=h.h6; omega,fun t ht=>by have:=h.ht t ht; omega,fun t ht=>by have:=h.hp t ht; omega,fun t ht s hs=>by have:=h.hs t ht s hs; omega⟩
theorem Sized.small{m:qF}(h:Sized m):Small m:=⟨by have:=h.h4; omega,by have:=h.h5; omega,by have:=h.h6; omega,fun t ht=>by have:=h.hp t ht; omega,fun t ht s hs=>by have:=h.hs t ht s hs; omega⟩
theorem own{m:qF}(hz:Sized m):Ev (fun k=>qAo.f k m) m:=by
 have h4:=hz.h4
 have h5:=hz.h5
 have h6:=hz.h6
 have l91:∀(d i:Nat),i+d=m.f6.length→Ev (fun k=>qAo.l91 k m m.f4 m.f5 m.f6 m.f6 (i:Int)) m:=by
  intro d
  induction d with
  | zero=>exact fun i hi=>.s (qAo.l91_s · _ _ _ _ _ _) (.n (by omega) (.c _))
  | succ d ih =>
   intro i hi
   have h1:i<m.f6.length:=by omega
   have hmem:=gM h1
   refine .s (qAo.l91_s · _ _ _ _ _ _) (.t (by omega) (.t (by omega) ?_))
   rw [nth_get _ _ _ h1,w64n i (by omega)]
   refine .b (spansId _ (Nat.le_of_lt (hz.hp _ hmem)) (fun s hs=>Nat.le_of_lt (hz.hs _ hmem s hs))) ?_
   have e:m.f6.set (i:Int).toNat (⟨m.f6[i].f0,m.f6[i].f1⟩:qC)=m.f6:=by
    rw [tN]
    exact List.set_getElem_self h1
   rw [e]
   exact ih (i+1) (by omega)
 have l30:∀(d i:Nat),i+d=m.f5.length→Ev (fun k=>qAo.l30 k m m.f4 m.f5 m.f5 (i:Int)) m:=by
  intro d
  induction d with
  | zero=>exact fun i hi=>.s (qAo.l30_s · _ _ _ _ _) (.n (by omega) (.b0 (cloneP _ (by omega)) (l91 m.f6.length 0 (Nat.zero_add _))))
  | succ d ih =>
   intro i hi
   have h1:i<m.f5.length:=by omega
   refine .s (qAo.l30_s · _ _ _ _ _) (.t (by omega) (.t (by omega) ?_))
   rw [nth_get _ _ _ h1,w64n i (by omega)]
   refine .b0 (clone _ (Nat.le_of_lt (hz.ht _ (gM h1)))) ?_
   have e:m.f5.set (i:Int).toNat (⟨m.f5[i].f0,m.f5[i].f1⟩:qI)=m.f5:=by
    rw [tN]
    exact List.set_getElem_self h1
   rw [e]
   exact ih (i+1) (by omega)
 unfold qAo.f
 exact .b0 (cloneN _ (by omega)) (.b0 (cloneT _ (by omega)) (l30 m.f5.length 0 (Nat.zero_add _)))
def keep(p k:Int):Prop:=(1001≤k∧k≤1999)∧p<k
instance (p k:Int):Decidable (keep p k):=inferInstanceAs (Decidable (_∧_))
def keeps:Int→List Int→Bool
 | _,[]=>true
 | p,k :: r=>decide (keep p k)&&keeps k r
def newC(a:Int)(y:List Int)(z:qF):qc:=⟨a,y,⟨z,[]⟩,0,false,0,⟨0,⟨#[]⟩,⟨0,0⟩,0,0,0⟩,0,0,⟨0,false,0⟩⟩
def noC:qc:=⟨0,[],⟨⟨0,0,0,0,[],[],[]⟩,[]⟩,0,false,0,⟨0,⟨#[]⟩,⟨0,0⟩,0,0,0⟩,0,0,⟨0,false,0⟩⟩
def MayC(a:Int)(y:List Int)(z:qF):Prop:=(2001≤a∧a≤2999)∧(1≤(y.length:Int)∧(y.length:Int)≤5)∧May z∧keeps 0 y=true
instance (a:Int) (y:List Int) (z:qF):Decidable (MayC a y z):=inferInstanceAs (Decidable (_∧_))
theorem cin(x a b:Int):client_in.f x a b=some (decide (a≤x∧x≤b)):=by
 unfold client_in.f
 by_cases h:x≥a
 ·rw [if_pos h]
  congr 1
  simp only [decide_eq_decide]
  omega
 ·rw [if_neg h,dF (by omega)]
theorem pCheck(z:qF)(hz:Small z):Ev (fun k=>qAv.f k (⟨z,[]⟩:qAa)) (eno (decide (May z))):=by
 have hf:Ev (fun k=>qj.f k []) false:=by
  unfold qj.f qW.f
  exact .b (.s (qW.l5_s · _ _) (.n (by decide) (.c _))) (.c _)
 unfold qAv.f
 refine .b hf (.b (check z hz) ?_)
 by_cases h:May z
 ·rw [dT h]
  exact .t rfl (.n (by show ¬ (([]:List qE).length:Int)>8; decide) (.s (qAv.j16_s · _) (.n (by decide) (.c _))))
 ·rw [dF h]
  exact .n (by decide) (.s (qAv.j16_s · _) (.t rfl (.c _)))
theorem c_l28(a:Int)(y:List Int)(z:qF)(hy:y.length≤20):∀(d i:Nat),i+d=y.length→Ev (fun k=>client_Check.l28 k (newC a y z) (i:Int)) (eno (keeps (preI y i) (y.drop i))):=by
 intro d
 induction d with
 | zero =>
  intro i hi
  rw [List.drop_eq_nil_of_le (by omega)]
  refine .s (client_Check.l28_s · _ _) (.n (by show ¬ (i:Int)<(y.length:Int); omega) (.b0 (cin _ _ _) (.t (by rfl) (.b0 (cin _ _ _) (.t (by rfl) (.b0 (cin _ _ _) ?_))))))
  refine .s (client_Check.j74_s · _ _) (.n (by show ¬ ((!decide ((0:Int)≤0∧(0:Int)≤0))=true); decide) (.n (by show ¬ (false=true); decide) (.s (client_Check.j93_s · _) (.n (by decide) (.c _)))))
 | succ d ih =>
  intro i hi
  have h1:i<y.length:=by omega
  have ih:=ih (i+1) (by omega)
  rw [qCs y i h1 (by omega)]at ih
  have hj:∀ b:Bool,(b=true↔¬ keep (preI y i) y[i])→Ev (fun k=>client_Check.j53 k (newC a y z) (i:Int) b) (eno (keeps (preI y i) (y[i] :: y.drop (i+1)))):=by
   intro b hb
   refine .s (client_Check.j53_s · _ _ _) ?_
   rw [keeps,w64n i (by omega)]
   by_cases hk:keep (preI y i) y[i]
   ·rw [dT hk,Bool.true_and]
    exact .n (fun e=>hb.1 e hk) ih
   ·rw [dF hk,Bool.false_and]
    exact .t (hb.2 hk) (.c _)
  have hn:nth 0 (newC a y z).f1 (i:Int)=y[i]:=nth_get _ _ _ h1
  have hp0:i=0→preI y i=0:=fun e=>if_pos e
  have hp1:i≠0→nth 0 (newC a y z).f1 (w64 ((i:Int) - 1))=preI y i:=fun e=>(if_neg e).symm
  have hw:i≠0→w64 ((i:Int) - 1)=((i - 1:Nat):Int):=fun e=>w64p i (by omega) (by omega)
  refine .s (client_Check.l28_s · _ _) (.t (by show (i:Int)<(y.length:Int); omega) (.t (by show 0≤(i:Int)∧(i:Int)<(y.length:Int); omega) (.b0 (cin _ _ _) ?_)))
  rw [hn,List.drop_eq_getElem_cons h1]
  unfold keep at hj
  refine .i (fun c=>.i (fun c0=>.t ?_ (hj _ ?_)) (fun c0=>hj _ ?_)) (fun c=>hj _ ?_)
  ·rw [hw (by omega)]
   show 0≤((i - 1:Nat):Int)∧((i - 1:Nat):Int)<(y.length:Int)
   omega
  ·have c:=oT c
   rw [hp1 (by omega),decide_eq_true_eq]
   omega
  ·have c:=oT c
   rw [hp0 (by omega)]
   simp only [Bool.false_eq_true,false_iff,Decidable.not_not]
   omega
  ·simp only [decide_eq_true_eq]at c
   simp only [true_iff]
   exact fun e=>c e.1
theorem cCheck(a:Int)(y:List Int)(z:qF)(hy:y.length≤20)(hz:Small z):Ev (fun k=>client_Check.f k (newC a y z)) (eno (decide (MayC a y z))):=by
 have bad:¬ MayC a y z→Ev (fun k=>client_Check.j18 k (newC a y z) true) (eno (decide (MayC a y z))):=fun h=>by
  rw [dF h]
  exact .s (client_Check.j18_s · _ _) (.t rfl (.c _))
 unfold client_Check.f
 refine .b0 (cin _ _ _) (.i (fun c1=>.b0 (cin _ _ _) (.i (fun c2=>.b (pCheck z hz) ?_) (fun c2=>bad (fun e=>c2 (dT e.2.1))))) (fun c1=>bad (fun e=>c1 (dT e.1))))
 by_cases hm:May z
 ·rw [dT hm]
  have h:=c_l28 a y z hy y.length 0 (Nat.zero_add _)
  rw [List.drop_zero,show preI y 0=0 from if_pos rfl]at h
  have he:keeps 0 y=decide (MayC a y z):=by
   rw [Bool.eq_iff_iff,decide_eq_true_iff]
   exact ⟨fun e=>⟨oT c1,oT c2,hm,e⟩,fun e=>e.2.2.2⟩
  rw [he]at h
  exact .s (client_Check.j18_s · _ _) (.n (by decide) h)
 ·rw [dF hm]
  exact bad (fun e=>hm e.2.2.1)
theorem cown(a:Int)(y:List Int)(z:qF)(hy:y.length≤20)(hz:Sized z)(hm:May z):Ev (fun k=>client_own.f k (newC a y z)) (newC a y z):=by
 have h1:qAC.f y=some y:=by
  unfold qAC.f
  rw [if_pos (by simp only [List.length_nil]; omega),List.nil_append]
 have h2:Ev (fun k=>qBK.f k z []) z:=by
  unfold qBK.f
  refine .b (own hz) (.s (qBK.l44_s · _ _ _ _ _ _ _ _ _) (.n (by decide) (.b (check z hz.small) ?_)))
  rw [dT hm]
  exact .t rfl (.c _)
 unfold client_own.f
 exact .b0 h1 (.b h2 (.b0 (a:=([]:List qE)) rfl (.s (client_own.l45_s · _ _ _ _ _ _) (.n (by decide) (.c _)))))
theorem cnew(a:Int)(y:List Int)(z:qF)(hy:y.length≤20)(hz:Sized z):Ev (fun k=>client_New.f k a y z) (if MayC a y z then (newC a y z,0) else (noC,1)):=by
 unfold client_New.f
 refine .b (cCheck a y z hy hz.small) ?_
 by_cases h:MayC a y z
 ·rw [dT h,if_pos h]
  exact .t rfl (.b (cown a y z hy hz h.2.2.1) (.c _))
 ·rw [dF h,if_neg h]
  exact .n (by decide) (.c _)
theorem r27(z:qF)(hz:Small z):Ev (fun k=>qAZ.f k (⟨z,[]⟩:qAa)) (decide (May z)):=by
 unfold qAZ.f
 refine .s (qAZ.l7_s · _ _) (.n (by show ¬ (0:Int)<(([]:List qE).length:Int); decide) (.b (may z hz) ?_))
 by_cases h:May z
 ·rw [dT h]
  exact .t rfl (.c _)
 ·rw [dF h]
  exact .n (by decide) (.c _)
theorem r_l8(a:Int)(y:List Int)(z:qF)(hy:y.length≤20)(hz:Small z)(w:Bool)(hw:∀ i:Nat,i≤y.length→w=true→keeps (preI y i) (y.drop i)=true)(hT:keeps 0 y=true→w=decide (MayC a y z)):∀(d i:Nat),i+d=y.length→(keeps 0 y=true↔keeps (preI y i) (y.drop i)=true)→Ev (fun k=>qa.l8 k (newC a y z) (i:Int)) w:=by
 intro d
 induction d with
 | zero =>
  intro i hi he
  have hk:keeps 0 y=true:=he.2 (by rw [List.drop_eq_nil_of_le (by omega)]; rfl)
  have hT:=hT hk
  have bad:¬ MayC a y z→Ev (fun k=>qa.j59 k (newC a y z) true) w:=fun h=>by
   rw [hT,dF h]
   exact .s (qa.j59_s · _ _) (.t rfl (.c _))
  refine .s (qa.l8_s · _ _) (.n (by show ¬ (i:Int)<(y.length:Int); omega) ?_)
  refine .i (fun c=>bad (fun e=>by have:=e.1.1; have:a<2001:=c; omega)) (fun c1=>.i (fun c=>bad (fun e=>by have:=e.1.2; have:a>2999:=c; omega)) (fun c2=>.i (fun c=>bad (fun e=>by have:=e.2.1.1; have:(y.length:Int)<1:=c; omega)) (fun c3=>.i (fun c=>bad (fun e=>by have:=e.2.1.2; have:(y.length:Int)>5:=c; omega)) (fun c4=>.b (r27 z hz) ?_))))
  have c1:¬ a<2001:=c1
  have c2:¬ a>2999:=c2
  have c3:¬ (y.length:Int)<1:=c3
  have c4:¬ (y.length:Int)>5:=c4
  by_cases hm:May z
  ·rw [dT hm]
   refine .t rfl (.n (by show ¬ (0:Int)<0; decide) (.n (by show ¬ (0:Int)>2147483647; decide) (.n (by show ¬ (0:Int)<0; decide) (.n (by show ¬ (0:Int)>2147483647; decide) (.n (by show ¬ (0:Int)<0; decide) (.s (qa.j59_s · _ _) (.n (by show ¬ (decide ((0:Int)>0)=true); decide) (.n (by show ¬ (false=true); decide) (.cv ?_)))))))))
   rw [hT,dT (show MayC a y z from ⟨by omega,by omega,hm,hk⟩)]
  ·rw [dF hm]
   exact .n (by decide) (bad (fun e=>hm e.2.2.1))
 | succ d ih =>
  intro i hi he
  have h1:i<y.length:=by omega
  rw [List.drop_eq_getElem_cons h1,keeps]at he
  have hj:∀ b:Bool,(b=true↔¬ keep (preI y i) y[i])→Ev (fun k=>qa.j36 k (newC a y z) (i:Int) b) w:=by
   intro b hb
   refine .s (qa.j36_s · _ _ _) ?_
   rw [w64n i (by omega)]
   by_cases hk:keep (preI y i) y[i]
   ·rw [dT hk,Bool.true_and]at he
    exact .n (fun e=>hb.1 e hk) (ih (i+1) (by omega) (by rw [qCs y i h1 (by omega)]; exact he))
   ·refine .t (hb.2 hk) (.cv ?_)
    cases w with
    | false=>rfl
    | true =>
     have:=hw i (by omega) rfl
     rw [List.drop_eq_getElem_cons h1,keeps,dF hk,Bool.false_and]at this
     exact nomatch this
  have hn:nth 0 (newC a y z).f1 (i:Int)=y[i]:=nth_get _ _ _ h1
  have hp0:i=0→preI y i=0:=fun e=>if_pos e
  have hp1:i≠0→nth 0 (newC a y z).f1 (w64 ((i:Int) - 1))=preI y i:=fun e=>(if_neg e).symm
  have hw1:i≠0→w64 ((i:Int) - 1)=((i - 1:Nat):Int):=fun e=>w64p i (by omega) (by omega)
  refine .s (qa.l8_s · _ _) (.t (by show (i:Int)<(y.length:Int); omega) (.t (by show 0≤(i:Int)∧(i:Int)<(y.length:Int); omega) ?_))
  rw [hn]
  unfold keep at hj
  refine .i (fun c=>hj _ ?_) (fun c=>.i (fun c2=>hj _ ?_) (fun c2=>.i (fun c0=>.t ?_ (hj _ ?_)) (fun c0=>hj _ ?_)))
  ·simp only [true_iff]
   omega
  ·simp only [true_iff]
   omega
  ·rw [hw1 (by omega)]
   show 0≤((i - 1:Nat):Int)∧((i - 1:Nat):Int)<(y.length:Int)
   omega
  ·rw [hp1 (by omega),decide_eq_true_eq]
   omega
  ·rw [hp0 (by omega)]
   simp only [Bool.false_eq_true,false_iff,Decidable.not_not]
   omega
theorem qFU(y:List Int)(hy:y.length≤20)(h:keeps 0 y=true):∀ i:Nat,i≤y.length→keeps (preI y i) (y.drop i)=true:=by
 intro i
 induction i with
 | zero=>exact fun _=>h
 | succ i ih =>
  intro hi
  have h1:i<y.length:=by omega
  have h2:=ih (by omega)
  rw [List.drop_eq_getElem_cons h1,keeps,Bool.and_eq_true]at h2
  rw [qCs y i h1 (by omega)]
  exact h2.2
theorem rMay(a:Int)(y:List Int)(z:qF)(hy:y.length≤20)(hz:Small z):Ev (fun k=>qa.f k (newC a y z)) (decide (MayC a y z)):=by
 unfold qa.f
 refine r_l8 a y z hy hz _ (fun i hi e=>qFU y hy (oT e).2.2.2 i hi) (fun _=>rfl) y.length 0 (Nat.zero_add _) ?_
 rw [List.drop_zero,show preI y 0=0 from if_pos rfl]
theorem rSame(a:Int)(y:List Int)(z:qF)(hy:y.length≤20)(hz:Sized z):Ev (fun k=>qAq.f k (newC a y z) (newC a y z)) true:=by
 unfold qAq.f qBH.f qAS.f
 refine .t rfl (.t rfl (.t rfl (.t rfl (.t rfl (.t rfl (.t rfl (.t rfl (.b (ints y y (by omega)) ?_))))))))
 rw [dT rfl]
 have hs:Ev (fun k=>qd.f k z z) true:=qGR z hz.small (fun t ht=>by have:=hz.ht t ht; omega)
 exact .t rfl (.b (.b hs (.t rfl (.b (.t rfl (.s (qAS.l9_s · _ _ _) (.n (by show ¬ (0:Int)<(([]:List qE).length:Int); decide) (.c _)))) (.c _)))) (.c _))
def toM(m:qF)(g:Int):Int:=(actM m g).headD 0
theorem pTo(m:qF)(hm:Small m)(g:Int):Ev (fun k=>client_To.f k m g) (toM m g):=by
 unfold client_To.f toM
 refine .b (mActing m hm g) ?_
 cases actM m g with
 | nil=>exact .t rfl (.c _)
 | cons n l=>exact .n (by simp only [List.length_cons]; omega) (.t (by simp only [List.length_cons]; omega) (.cv rfl))
theorem rTo(m:qF)(hm:Small m)(g:Int):Ev (fun k=>qBJ.f k m g) (toM m g):=by
 unfold qBJ.f toM
 refine .b (rActing m hm g) ?_
 cases actM m g with
 | nil=>exact .n (by decide) (.c _)
 | cons n l=>exact .t (by simp only [List.length_cons]; omega) (.t (by simp only [List.length_cons]; omega) (.cv rfl))
theorem awake(k:Nat):qAi.f (k+10000)=some true:=by kernel_rfl
theorem awakes:Ev (fun k=>qAi.f k) true:=⟨10000,fun k hk=>by
 obtain ⟨k,rfl⟩:∃ m,k=m+10000:=⟨k - 10000,by omega⟩
 exact awake k⟩
end Maps
theorem pureClientNew:PureClientNew:=by
 intro x y z _ _ _
 refine Ev.one (f:=fun k=>qw.f k x y z) (v:=true) ?_
 have aw:Ev (fun k=>(qAi.f k).bind fun t=>some t) true:=.b Maps.awakes (.c _)
 have out:Ev (fun k=>qw.j13 k x y z true) true:=.s (qw.j13_s · _ _ _ _) (.t rfl aw)
 unfold qw.f
 obtain ⟨b,hb,hL⟩:=Maps.light z
 refine .b hb ?_
 cases b with
 | false=>exact .n (by decide) out
 | true =>
  have hL:=hL rfl
  have hz:=hL.sized
  by_cases hy:(y.length:Int)>20
  ·rw [dT hy]
   exact .t rfl out
  ·rw [dF hy]
   refine .t rfl (.s (qw.j13_s · _ _ _ _) (.n (by decide) (.b (Maps.cnew x.f0 y z (by omega) hz) (.b (Maps.rMay x.f0 y z (by omega) hz.small) ?_))))
   by_cases h:Maps.MayC x.f0 y z
   ·rw [dT h,if_pos h]
    exact .t rfl (.t rfl (.b (Maps.rSame x.f0 y z (by omega) hz) (.t rfl (.b (Maps.pTo z hz.small _) (.b (Maps.rTo z hz.small _) (.t rfl aw))))))
   ·rw [dF h,if_neg h]
    have hn:Ev (fun k=>qAq.f k Maps.noC Maps.noC) true:=Maps.rSame 0 [] ⟨0,0,0,0,[],[],[]⟩ (by decide) ⟨by decide,by decide,by decide,fun _ h=>(nomatch h),fun _ h=>(nomatch h),fun _ h=>(nomatch h)⟩
    exact .n (by decide) (.t rfl (.b hn (.t rfl aw)))
end Go.Proofs.YtpabbpebefdafaaGreat.CN
