import Derived.Test.YthgfhlbjkmjlpaaGreatGDoGateDrains
import Derived.Test.YthgfhlbjkmjlpaaGreatMixn
import Derived.Test.YthgfhlbjkmjlpaaGreatNegn
namespace Go.Proofs.YthgfhlbjkmjlpaaGreat.GD
open Go Go.RowKit Go.Proofs.YthgfhlbjkmjlpaaGreat Go.Proofs.YthgfhlbjkmjlpaaGreat.Sl
set_option linter.unusedVariables false
set_option linter.unusedSimpArgs false
theorem dT{p:Prop}[Decidable p](h:p):decide p=true:=_root_.decide_eq_true h
theorem dF{p:Prop}[Decidable p](h:¬ p):decide p=false:=_root_.decide_eq_false h
theorem oT{p:Prop}[Decidable p](h:decide p=true):p:=_root_.of_decide_eq_true h
theorem nF:false≠true:=Bool.false_ne_true
theorem gM{α : Type}{l:List α}{n:Nat}(h:n<l.length):l[n] ∈ l:=List.getElem_mem h
theorem tN(n:Nat):(n:Int).toNat=n:=Int.toNat_natCast n
theorem lA{α : Type}{a b:List α}: (a++b).length=a.length+b.length:=List.length_append
theorem w64n(i:Nat)(h:i<9223372036854775807):w64 ((i:Int)+1)=((i+1:Nat):Int):=by rw [qCk (by omega) (by omega)]; omega
theorem w64p(i:Nat)(h:i<9223372036854775807)(h0:0<i):w64 ((i:Int) - 1)=((i - 1:Nat):Int):=by rw [qCk (by omega) (by omega)]; omega
theorem nth_get{α : Type}(z : α)(l:List α)(i:Nat)(h:i<l.length):nth z l (i:Int)=l[i]:=by simp [nth,h]
def Ev{β : Type}(f:Nat->Option β)(v : β):Prop:=∃ K,∀ k,K<=k->f k=some v
theorem Ev.c{β : Type}(v : β):Ev (fun _=>some v) v:=⟨0,fun _ _=>rfl⟩
theorem Ev.cv{β : Type}{v w : β}(h:v=w):Ev (fun _=>some v) w:=⟨0,fun _ _=>congrArg some h⟩
theorem Ev.v{β : Type}{f:Nat->Option β}{v w : β}(h:Ev f v)(e:v=w):Ev f w:=e ▸ h
theorem Ev.s{β : Type}{f g:Nat->Option β}{v : β}(h:∀ k,f (k+1)=g k)(hg:Ev g v):Ev f v:=by
 obtain ⟨K,hK⟩:=hg
 refine ⟨K+1,fun k hk=>?_⟩
 obtain ⟨k,rfl⟩:∃ m,k=m+1:=⟨k - 1,by omega⟩
 rw [h]
 exact hK k (by omega)
theorem Ev.b{α β : Type}{f:Nat->Option α}{g:Nat->α->Option β}{a : α}{v : β}(hf:Ev f a)(hg:Ev (fun k=>g k a) v):Ev (fun k=>(f k).bind (g k)) v:=by
 obtain ⟨K,hK⟩:=hf
 obtain ⟨L,hL⟩:=hg
 refine ⟨K+L,fun k hk=>?_⟩
 show (f k).bind (g k)=some v
 rw [hK k (by omega),Option.bind_some]
 exact hL k (by omega)
theorem Ev.b0{α β : Type}{o:Option α}{g:Nat->α->Option β}{a : α}{v : β}(ho:o=some a)(hg:Ev (fun k=>g k a) v):Ev (fun k=>o.bind (g k)) v:=Ev.b ⟨0,fun _ _=>ho⟩ hg
theorem Ev.i{β : Type}{c:Prop}[Decidable c]{f g:Nat->Option β}{v : β}(hf:c->Ev f v)(hg:¬ c->Ev g v):Ev (fun k=>if c then f k else g k) v:=by
 by_cases h:c
 ·simpa only [if_pos h] using hf h
 ·simpa only [if_neg h] using hg h
theorem Ev.t{β : Type}{c:Prop}[Decidable c]{f g:Nat->Option β}{v : β}(h:c)(hf:Ev f v):Ev (fun k=>if c then f k else g k) v:=Ev.i (fun _=>hf) fun n=>absurd h n
theorem Ev.n{β : Type}{c:Prop}[Decidable c]{f g:Nat->Option β}{v : β}(h:¬ c)(hg:Ev g v):Ev (fun k=>if c then f k else g k) v:=Ev.i (fun n=>absurd n h) fun _=>hg
theorem Ev.one{α : Type}{f:Nat->Option α}{v : α}(hf:Ev f v):∃ k,f k=some v:=by
 obtain ⟨K,hK⟩:=hf
 exact ⟨K,hK _ (by omega)⟩
def eno:Bool->Int
 | true=>0
 | false=>1
def Ht{β : Type}(f:Nat->Option β)(P : β->Prop):Prop:=∃ v,Ev f v/\P v
theorem Ht.c{β : Type}{v : β}{P : β->Prop}(h:P v):Ht (fun _=>some v) P:=⟨v,.c v,h⟩
theorem Ht.s{β : Type}{f g:Nat->Option β}{P : β->Prop}(h:∀ k,f (k+1)=g k):Ht g P->Ht f P:=fun ⟨v,e,p⟩=>⟨v,.s h e,p⟩
theorem Ht.b{α β : Type}{f:Nat->Option α}{g:Nat->α->Option β}{Q : α->Prop}{P : β->Prop}: Ht f Q->(∀ a,Q a->Ht (fun k=>g k a) P)->Ht (fun k=>(f k).bind (g k)) P:=fun ⟨a,e,q⟩ h=>by
 obtain ⟨v,e2,p⟩:=h a q
 exact ⟨v,.b e e2,p⟩
theorem Ht.e{α β : Type}{f:Nat->Option α}{g:Nat->α->Option β}{a : α}{P : β->Prop}(e:Ev f a):Ht (fun k=>g k a) P->Ht (fun k=>(f k).bind (g k)) P:=fun ⟨v,e2,p⟩=>⟨v,.b e e2,p⟩
theorem Ht.o{α β : Type}{o:Option α}{g:Nat->α->Option β}{a : α}{P : β->Prop}(e:o=some a):Ht (fun k=>g k a) P->Ht (fun k=>o.bind (g k)) P:=fun ⟨v,e2,p⟩=>⟨v,.b0 e e2,p⟩
theorem Ht.i{β : Type}{c:Prop}[Decidable c]{f g:Nat->Option β}{P : β->Prop}(hf:c->Ht f P)(hg:¬ c->Ht g P):Ht (fun k=>if c then f k else g k) P:=by
 by_cases h:c
 ·simpa only [if_pos h] using hf h
 ·simpa only [if_neg h] using hg h
theorem Ht.t{β : Type}{c:Prop}[Decidable c]{f g:Nat->Option β}{P : β->Prop}(h:c)(hf:Ht f P):Ht (fun k=>if c then f k else g k) P:=.i (fun _=>hf) fun n=>absurd h n
theorem Ht.n{β : Type}{c:Prop}[Decidable c]{f g:Nat->Option β}{P : β->Prop}(h:¬ c)(hg:Ht g P):Ht (fun k=>if c then f k else g k) P:=.i (fun n=>absurd n h) fun _=>hg
theorem Ht.m{β : Type}{f:Nat->Option β}{P Q : β->Prop}(h:∀ v,P v->Q v):Ht f P->Ht f Q:=fun ⟨v,e,p⟩=>⟨v,e,h v p⟩
namespace Topo
theorem tin(x a b:Int):qCQ.f x a b=some (decide (a<=x/\x<=b)):=by
 unfold qCQ.f
 by_cases h:x>=a
 ·rw [if_pos h]
  congr 1
  simp only [decide_eq_decide]
  omega
 ·rw [if_neg h,dF (by omega)]
def okN(n:qA):Prop:=(1<=n.f0/\n.f0<=999)/\(1<=n.f1/\n.f1<=9)/\(1<=n.f2/\n.f2<=9)/\0<=n.f3/\n.f3<=65536
instance (n:qA):Decidable (okN n):=inferInstanceAs (Decidable (_/\_))
def rise:Int->List qA->Bool
 | _,[]=>true
 | p,n :: l=>decide (okN n/\p<n.f0)&&rise n.f0 l
def pre(l:List qA)(i:Nat):Int:=if i=0 then 0 else (nth qA.z l (w64 ((i:Int) - 1))).f0
theorem qHG(l:List qA)(i:Nat)(h:i<l.length)(hl:l.length<4611686018427387904):pre l (i+1)=l[i].f0:=by
 unfold pre
 rw [if_neg (by omega),w64p (i+1) (by omega) (by omega),show i+1 - 1=i by omega,nth_get _ _ _ h]
def Nodes(l:List qA):Prop:=l.length<=12/\rise 0 l=true
instance (l:List qA):Decidable (Nodes l):=inferInstanceAs (Decidable (_/\_))
theorem qJH(l:List qA)(hl:l.length<4611686018427387904):∀(d i:Nat),i+d=l.length->Ev (fun k=>qAU.l9 k l (i:Int)) (eno (rise (pre l i) (l.drop i))):=by
 intro d
 induction d with
 | zero =>
  intro i hi
  refine .s (qAU.l9_s · _ _) (.n (by omega) (.cv ?_))
  rw [List.drop_eq_nil_of_le (by omega)]
  rfl
 | succ d ih =>
  intro i hi
  have h1:i<l.length:=by omega
  refine .s (qAU.l9_s · _ _) (.t (by omega) (.t (by omega) ?_))
  have ih:=ih (i+1) (by omega)
  rw [qHG l i h1 hl]at ih
  rw [List.drop_eq_getElem_cons h1,nth_get _ _ _ h1]
  have hj:∀ b:Bool,(b=true↔¬ (okN l[i]/\pre l i<l[i].f0))->Ev (fun k=>qAU.j49 k l (i:Int) b) (eno (rise (pre l i) (l[i] :: l.drop (i+1)))):=by
   intro b hb
   refine .s (qAU.j49_s · _ _ _) ?_
   simp only [rise]
   by_cases h:okN l[i]/\pre l i<l[i].f0
   ·refine .n (fun e=>(hb.1 e) h) ?_
    rw [w64n i (by omega),dT h,Bool.true_and]
    exact ih
   ·refine .t (hb.2 h) (.cv ?_)
    rw [dF h,Bool.false_and]
    rfl
  clear ih
  have hp0:i=0->pre l i=0:=fun e=>if_pos e
  have hp1:i≠0->(nth qA.z l (w64 ((i:Int) - 1))).f0=pre l i:=fun e=>(if_neg e).symm
  have hw:i≠0->w64 ((i:Int) - 1)=((i - 1:Nat):Int):=fun e=>w64p i (by omega) (by omega)
  unfold okN at hj
  generalize hv:eno (rise (pre l i) (l[i] :: l.drop (i+1)))=v at hj ⊢
  clear hv
  generalize pre l i=p at *
  generalize (nth qA.z l (w64 ((i:Int) - 1))).f0=q at *
  generalize l[i]=n at *
  repeat' (first | refine Ev.b0 (tin _ _ _) ?_ | refine Ev.i (fun _=>?_) fun _=>?_)
  all_goals simp only [decide_eq_true_eq]at *
  all_goals first
   | exact hj _ (by simp only [decide_eq_true_eq,Bool.false_eq_true,true_iff,false_iff]; omega)
   | (exfalso; omega)
theorem check'(l:List qA):Ev (fun k=>qAU.f k l) (eno (decide (Nodes l))):=by
 unfold qAU.f
 refine .i (fun h=>.cv ?_) fun h=>(qJH l (by omega) l.length 0 (by omega)).v ?_
 ·rw [dF (fun n:Nodes l=>by have:=n.1; omega)]
  rfl
 ·rw [show pre l 0=0 from rfl,List.drop_zero]
  congr 1
  rw [Bool.eq_iff_iff,decide_eq_true_eq]
  exact ⟨fun h0=>⟨by omega,h0⟩,fun n=>n.2⟩
theorem check(l:List qA)(_:l.length<4611686018427387904):Ev (fun k=>qAU.f k l) (eno (decide (Nodes l))):=check' l
theorem qKU(l:List qA)(hl:l.length<4611686018427387904):∀(d i:Nat),i+d=l.length->Ev (fun k=>qn.l5 k l (i:Int)) (rise (pre l i) (l.drop i)&&decide (l.length<=12)):=by
 intro d
 induction d with
 | zero =>
  intro i hi
  refine .s (qn.l5_s · _ _) (.n (by omega) (.cv ?_))
  rw [List.drop_eq_nil_of_le (by omega)]
  simp only [rise,Bool.true_and,decide_eq_decide]
  omega
 | succ d ih =>
  intro i hi
  have h1:i<l.length:=by omega
  refine .s (qn.l5_s · _ _) (.t (by omega) (.t (by omega) ?_))
  have ih:=ih (i+1) (by omega)
  rw [qHG l i h1 hl]at ih
  rw [List.drop_eq_getElem_cons h1,nth_get _ _ _ h1]
  have hj:∀ b:Bool,(b=true↔¬ (okN l[i]/\pre l i<l[i].f0))->Ev (fun k=>qn.j37 k l (i:Int) b) (rise (pre l i) (l[i] :: l.drop (i+1))&&decide (l.length<=12)):=by
   intro b hb
   refine .s (qn.j37_s · _ _ _) ?_
   simp only [rise]
   by_cases h:okN l[i]/\pre l i<l[i].f0
   ·refine .n (fun e=>(hb.1 e) h) ?_
    rw [w64n i (by omega),dT h,Bool.true_and]
    exact ih
   ·refine .t (hb.2 h) (.cv ?_)
    rw [dF h,Bool.false_and,Bool.false_and]
  clear ih
  have hp0:i=0->pre l i=0:=fun e=>if_pos e
  have hp1:i≠0->(nth qA.z l (w64 ((i:Int) - 1))).f0=pre l i:=fun e=>(if_neg e).symm
  have hw:i≠0->w64 ((i:Int) - 1)=((i - 1:Nat):Int):=fun e=>w64p i (by omega) (by omega)
  unfold okN at hj
  generalize hv:(rise (pre l i) (l[i] :: l.drop (i+1))&&decide (l.length<=12))=v at hj ⊢
  clear hv
  generalize pre l i=p at *
  generalize (nth qA.z l (w64 ((i:Int) - 1))).f0=q at *
  generalize l[i]=n at *
  repeat' (first | refine Ev.i (fun _=>?_) fun _=>?_)
  all_goals first
   | exact hj _ (by simp only [decide_eq_true_eq,Bool.false_eq_true,true_iff,false_iff]; omega)
   | (exfalso; omega)
theorem may(l:List qA)(hl:l.length<4611686018427387904):Ev (fun k=>qn.f k l) (decide (Nodes l)):=by
 unfold qn.f
 refine (qKU l hl l.length 0 (by omega)).v ?_
 rw [show pre l 0=0 from rfl,List.drop_zero,Bool.eq_iff_iff,Bool.and_eq_true,decide_eq_true_eq,decide_eq_true_eq]
 exact And.comm
theorem qJI(l:List Int)(v:Int)(hl:l.length<4611686018427387904):∀(d i:Nat),i+d=l.length->∃ x,Ev (fun k=>qAO.l5 k l v (i:Int)) x/\(0<=x↔v ∈ l.drop i):=by
 intro d
 induction d with
 | zero =>
  intro i hi
  refine ⟨-1,.s (qAO.l5_s · _ _ _) (.n (by omega) (.c _)),?_⟩
  rw [List.drop_eq_nil_of_le (by omega)]
  simp
 | succ d ih =>
  intro i hi
  have h1:i<l.length:=by omega
  obtain ⟨x,hx,hm⟩:=ih (i+1) (by omega)
  by_cases h:v=l[i]
  ·refine ⟨i,.s (qAO.l5_s · _ _ _) (.t (by omega) (.t (by omega) (.t (by rw [nth_get _ _ _ h1]; exact h) (.c _)))),?_⟩
   rw [List.drop_eq_getElem_cons h1]
   exact ⟨fun _=>List.mem_cons.2 (.inl h),fun _=>by omega⟩
  ·refine ⟨x,.s (qAO.l5_s · _ _ _) (.t (by omega) (.t (by omega) (.n (by rw [nth_get _ _ _ h1]; exact h) ?_))),?_⟩
   ·rw [w64n i (by omega)]
    exact hx
   ·rw [List.drop_eq_getElem_cons h1,hm]
    exact ⟨fun m=>List.mem_cons.2 (.inr m),fun m=>(List.mem_cons.1 m).resolve_left h⟩
theorem contains(l:List Int)(v:Int)(hl:l.length<4611686018427387904):Ev (fun k=>qAG.f k l v) (decide (v ∈ l)):=by
 obtain ⟨x,hx,hm⟩:=qJI l v hl l.length 0 (by omega)
 unfold qAG.f qAO.f
 refine .b hx (.cv ?_)
 rw [decide_eq_decide]
 exact hm
end Topo
namespace Draw
theorem u64n(n:Nat)(h:n<18446744073709551616):IntKind.u64.wrap (n:Int)=n:=by rw [IntKind.wrap_u64]; omega
theorem qGf(a b:Nat)(ha:a<18446744073709551616)(hb:b<18446744073709551616):IntKind.u64.wrap (((BitVec.ofInt 64 (a:Int) ^^^ BitVec.ofInt 64 (b:Int)).toNat:Int))=((a ^^^ b:Nat):Int):=by
 have h:(BitVec.ofInt 64 (a:Int) ^^^ BitVec.ofInt 64 (b:Int)).toNat=a ^^^ b:=by
  rw [BitVec.toNat_xor,BitVec.ofInt_natCast,BitVec.ofInt_natCast,BitVec.toNat_ofNat,BitVec.toNat_ofNat,Nat.mod_eq_of_lt (by omega),Nat.mod_eq_of_lt (by omega)]
 rw [h,u64n _ (Mixn.xor_lt ha hb)]
theorem sh_i(x:Nat)(hx:x<18446744073709551616):IntKind.u64.wrap (((BitVec.ofInt 64 (x:Int) ^^^ BitVec.ofInt 64 ((x:Int).fdiv 4294967296)).toNat:Int))=((Mixn.sh x:Nat):Int):=by
 have e:(x:Int).fdiv 4294967296=((x / 4294967296:Nat):Int):=by rw [Int.fdiv_eq_ediv_of_nonneg _ (by omega)]; omega
 rw [e,qGf _ _ hx (by omega)]
 rfl
theorem mf_i(n:Nat):IntKind.u64.wrap ((n:Int) * 15485907386658061715)=((Mixn.mf n:Nat):Int):=by
 rw [IntKind.wrap_u64]
 rfl
theorem mix(x:Nat)(hx:x<18446744073709551616):Ev (fun k=>qBr.f k (x:Int)) ((Mixn.mix x:Nat):Int):=by
 unfold qBr.f
 refine .s (qBr.l6_s · _ _) (.t (by omega) ?_)
 rw [sh_i x hx,mf_i]
 refine .s (qBr.l6_s · _ _) (.t (by decide) ?_)
 rw [sh_i _ (Mixn.mf_lt _),mf_i]
 refine .s (qBr.l6_s · _ _) (.n (by decide) (.cv ?_))
 rw [sh_i _ (Mixn.mf_lt _)]
 rfl
theorem qJk(s n:Nat)(hs:s<18446744073709551616)(hn:n<18446744073709551616):IntKind.u64.wrap ((IntKind.u64.wrap (((BitVec.ofInt 64 (s:Int) ^^^ BitVec.ofInt 64 (n:Int)).toNat:Int)))+11400714819323198485)=((((s ^^^ n)+11400714819323198485) % 18446744073709551616:Nat):Int):=by
 rw [qGf _ _ hs hn,IntKind.wrap_u64]
 rfl
def ofN(l:List Nat):List Int:=l.map Int.ofNat
theorem qII(l:List Nat)(i:Nat)(h:i<(ofN l).length):(ofN l)[i]=((l[i]'(by simpa [ofN] using h):Nat):Int):=by simp [ofN]
theorem qJJ(l:List Nat)(hl:∀ x ∈ l,x<18446744073709551616)(hn:l.length<4611686018427387904):∀(d i s:Nat),i+d=l.length->s<18446744073709551616->Ev (fun k=>qBb.l10 k (ofN l) (s:Int) (i:Int)) (((l.drop i).foldl Mixn.step s:Nat):Int):=by
 have hlen:(ofN l).length=l.length:=List.length_map ..
 intro d
 induction d with
 | zero =>
  intro i s hi hs
  refine .s (qBb.l10_s · _ _ _) (.n (by omega) (.cv ?_))
  rw [List.drop_eq_nil_of_le (by omega)]
  rfl
 | succ d ih =>
  intro i s hi hs
  have h1:i<l.length:=by omega
  refine .s (qBb.l10_s · _ _ _) (.t (by omega) (.t (by omega) ?_))
  rw [nth_get _ _ _ (by omega),qII,qJk s _ hs (hl _ (gM h1)),w64n i (by omega),List.drop_eq_getElem_cons h1]
  exact .b (mix _ (Nat.mod_lt _ (by decide))) (ih (i+1) _ (by omega) (Mixn.step_lt _ _))
theorem fold(s:Nat)(hs:s<18446744073709551616)(l:List Nat)(hl:∀ x ∈ l,x<18446744073709551616)(hn:l.length<4611686018427387904):Ev (fun k=>qBb.f k (s:Int) (ofN l)) ((Mixn.fold s l:Nat):Int):=by
 unfold qBb.f
 exact .b (mix s hs) (qJJ l hl hn l.length 0 _ (by omega) (Mixn.mix_lt _))
theorem qJl(z:Nat)(hz:z<=2147483648):IntKind.u64.wrap (Int.tdiv (IntKind.u64.wrap ((z:Int) * (z:Int))) 2147483648)=((z * z / 2147483648:Nat):Int)/\z * z / 2147483648<=2147483648:=by
 have h1:z * z<=2147483648 * 2147483648:=Nat.mul_le_mul hz hz
 have h2:(2147483648:Nat) * 2147483648=4611686018427387904:=by decide
 rw [h2]at h1
 have e:(z:Int) * (z:Int)=((z * z:Nat):Int):=by rw [Int.natCast_mul]
 have h3:z * z / 2147483648<=2147483648:=by omega
 rw [e,u64n _ (by omega),Int.tdiv_eq_ediv_of_nonneg (Int.natCast_nonneg _)]
 have e2:((z * z:Nat):Int) / 2147483648=((z * z / 2147483648:Nat):Int):=by rw [Int.natCast_ediv]; rfl
 rw [e2,u64n _ (by omega)]
 exact ⟨rfl,h3⟩
theorem p16(i:Nat)(h:i<=16):2 ^ i<=65536:=Nat.le_trans (Nat.pow_le_pow_right (by decide) h) (by decide)
theorem qJK(c:Nat)(hc:c<=17):∀(d z f i:Nat),i+d=16->z<=2147483648->f<2 ^ i->Ev (fun k=>qAS.l31 k (c:Int) (z:Int) (f:Int) (i:Int)) ((c * 65536+Negn.bitsOf d z f:Nat):Int):=by
 intro d
 induction d with
 | zero =>
  intro z f i hi hz hf
  have hp:=p16 i (by omega)
  refine .s (qAS.l31_s · _ _ _ _) (.n (by omega) (.cv ?_))
  rw [qCk (n:=(c:Int) * 65536) (by omega) (by omega),qCk (by omega) (by omega)]
  rfl
 | succ d ih =>
  intro z f i hi hz hf
  have hp:=p16 i (by omega)
  have hp2:2 ^ (i+1)=2 * 2 ^ i:=by rw [Nat.pow_succ,Nat.mul_comm]
  obtain ⟨e1,h1⟩:=qJl z hz
  have w2:w64 ((f:Int) * 2)=((2 * f:Nat):Int):=by rw [qCk (by omega) (by omega)]; omega
  have w3:w64 (((2 * f:Nat):Int)+1)=((2 * f+1:Nat):Int):=w64n _ (by omega)
  refine .s (qAS.l31_s · _ _ _ _) (.t (by omega) ?_)
  rw [e1,w2,w3,w64n i (by omega),Negn.bitsOf]
  clear w2 w3 e1
  generalize z * z / 2147483648=y at *
  by_cases cy:y<=1073741824
  ·have w4:IntKind.u64.wrap ((y:Int) * 2)=((2 * y:Nat):Int):=by rw [IntKind.wrap_u64]; omega
   rw [if_pos cy]
   refine .t (by omega) ?_
   rw [w4]
   exact ih (2 * y) (2 * f+1) (i+1) (by omega) (by omega) (by omega)
  ·rw [if_neg cy]
   exact .n (by omega) (ih y (2 * f) (i+1) (by omega) (by omega) (by omega))
theorem qJL:∀(d u c:Nat),32768<u * 2 ^ d->u<=65536->c+d<=16->Ev (fun k=>qAS.l17 k (u:Int) (c:Int)) ((c * 65536+Negn.cst (d+1) u:Nat):Int):=by
 have base:∀(u c n:Nat),32768<u->u<=65536->c<=16->Ev (fun k=>qAS.l17 k (u:Int) (c:Int)) ((c * 65536+Negn.cst (n+1) u:Nat):Int):=by
  intro u c n h h1 hc
  have w1:IntKind.u64.wrap (IntKind.u64.wrap (u:Int) * 32768)=((u * 32768:Nat):Int):=by rw [u64n _ (by omega),IntKind.wrap_u64]; omega
  refine .s (qAS.l17_s · _ _) (.n (by omega) ?_)
  rw [w1,Negn.cst_succ,if_neg (by omega)]
  exact qJK c (by omega) 16 (u * 32768) 0 0 (by omega) (by omega) (by decide)
 intro d
 induction d with
 | zero =>
  intro u c h h1 hc
  rw [Nat.pow_zero,Nat.mul_one]at h
  exact base u c 0 h h1 (by omega)
 | succ d ih =>
  intro u c h h1 hc
  by_cases cu:u<=32768
  ·have h2:u * 2 ^ (d+1)=2 * u * 2 ^ d:=by rw [Nat.pow_succ,Nat.mul_comm (2 ^ d) 2,← Nat.mul_assoc,Nat.mul_comm u 2]
   have w1:w64 ((u:Int) * 2)=((2 * u:Nat):Int):=by rw [qCk (by omega) (by omega)]; omega
   refine .s (qAS.l17_s · _ _) (.t (by omega) ?_)
   rw [w1,w64n c (by omega),Negn.cst_succ,if_pos cu]
   have ih:=ih (2 * u) (c+1) (by omega) (by omega) (by omega)
   generalize Negn.cst (d+1) (2 * u)=y at *
   exact ih.v (congrArg Int.ofNat (by omega))
  ·exact base u c (d+1) (by omega) h1 (by omega)
def costI(a:Int):Int:=if 1<=a/\a<=65536 then ((Negn.cost a.toNat:Nat):Int) else 0
theorem cost(a:Int):Ev (fun k=>qAS.f k a) (costI a):=by
 have hbad:¬ (1<=a/\a<=65536)->Ev (fun k=>qAS.j6 k a true) (costI a):=fun h=>.s (qAS.j6_s · _ _) (.t rfl (.cv (if_neg h).symm))
 unfold qAS.f
 refine .i (fun h=>hbad (by omega)) fun h=>?_
 by_cases h2:a>65536
 ·rw [dT h2]
  exact hbad (by omega)
 ·rw [dF h2]
  obtain ⟨u,rfl⟩:∃ u:Nat,a=u:=⟨a.toNat,by omega⟩
  refine .s (qAS.j6_s · _ _) (.n (by decide) ((qJL 16 u 0 (by omega) (by omega) (by omega)).v ?_))
  rw [costI,if_pos ⟨by omega,by omega⟩,tN,Nat.zero_mul,Nat.zero_add]
  rfl
def un(a:Int):Nat:=(IntKind.u64.wrap a).toNat
theorem un_eq(a:Int):IntKind.u64.wrap a=(un a:Int)/\un a<18446744073709551616:=by
 unfold un
 rw [IntKind.wrap_u64]
 omega
def dc(key:Nat)(id:Int):Int:=costI (1+((Mixn.fold key [un id] / 281474976710656:Nat):Int))
theorem qEN(key:Nat)(id:Int):0<=dc key id/\dc key id<=1179648:=by
 unfold dc costI
 split
 ·exact ⟨by omega,by have:=Negn.cost_le (1+((Mixn.fold key [un id] / 281474976710656:Nat):Int)).toNat; omega⟩
 ·omega
theorem fold_lt(key:Nat)(n:Nat):Mixn.fold key [n] < 18446744073709551616:=by
 unfold Mixn.fold
 rw [List.foldl_cons,List.foldl_nil]
 exact Mixn.step_lt _ _
theorem dcost(key:Nat)(hkey:key<18446744073709551616)(id:Int):Ev (fun k=>qCJ.f k (key:Int) id) (dc key id):=by
 have hlt:=fold_lt key (un id)
 have h1:=fold key hkey [un id] (fun x hx=>by rw [List.mem_singleton.1 hx]; exact (un_eq id).2) (by simp)
 unfold qCJ.f
 rw [(un_eq id).1]
 refine .b h1 ?_
 have e:((Mixn.fold key [un id]:Nat):Int).fdiv 281474976710656=((Mixn.fold key [un id] / 281474976710656:Nat):Int):=by rw [Int.fdiv_eq_ediv_of_nonneg _ (by omega)]; omega
 rw [e,qCk (n:=((Mixn.fold key [un id] / 281474976710656:Nat):Int)) (by omega) (by omega),qCk (by omega) (by omega)]
 exact .b (cost _) (.c _)
theorem nin(x:Int):qBq.f x=some (decide (0<=x/\x<=2147483647)):=by
 unfold qBq.f
 by_cases h:x>=0
 ·rw [if_pos h]
  congr 1
  rw [decide_eq_decide]
  omega
 ·rw [if_neg h,dF (by omega)]
theorem qFe{a b:Int}(h0:0<=a)(h1:a<=1179648)(h2:0<=b)(h3:b<=65536):w64 (a * b)=a * b:=by
 have h4:0<=a * b:=Int.mul_nonneg h0 h2
 have h5:a * b<=1179648 * 65536:=Int.mul_le_mul h1 h3 h2 (by omega)
 generalize a * b=p at h4 h5 ⊢
 exact qCk (by omega) (by omega)
theorem better{a b c d:Int}(ha:0<=a/\a<=1179648)(hb:1<=b/\b<=65536)(hc:0<=c/\c<=1179648)(hd:1<=d/\d<=65536):qBc.f a b c d=some (decide (a * d<c * b)):=by
 unfold qBc.f
 rw [nin,nin,nin,nin,dT (show 0<=a/\a<=2147483647 by omega),dT (show 0<=b/\b<=2147483647 by omega),dT (show 0<=c/\c<=2147483647 by omega),dT (show 0<=d/\d<=2147483647 by omega)]
 simp only [Option.bind_some,if_true]
 rw [if_pos (by omega),if_pos (by omega),qFe ha.1 ha.2 (by omega) hd.2,qFe hc.1 hc.2 (by omega) hb.2]
def cmpD(key:Nat)(x y:qB):Int:=if dc key x.f0 * y.f1<dc key y.f0 * x.f1 then -1 else if dc key y.f0 * x.f1<dc key x.f0 * y.f1 then 1 else x.f0 - y.f0
def fineC(x:qB):Prop:=(0<=x.f0/\x.f0<=2147483647)/\1<=x.f1/\x.f1<=65536
theorem compare(key:Nat)(hkey:key<18446744073709551616)(x y:qB)(hx:fineC x)(hy:fineC y):Ev (fun k=>qBu.f k (key:Int) x y) (cmpD key x y):=by
 unfold qBu.f cmpD
 refine .b (dcost key hkey _) (.b (dcost key hkey _) ?_)
 have bx:=qEN key x.f0
 have bY:=qEN key y.f0
 have e1:=better bx hx.2 bY hy.2
 have e2:=better bY hy.2 bx hx.2
 have hx1:=hx.1
 have hy1:=hy.1
 refine .b0 e1 ?_
 by_cases h1:dc key x.f0 * y.f1<dc key y.f0 * x.f1
 ·rw [if_pos h1]
  exact .t (dT h1) (.c _)
 ·rw [if_neg h1]
  refine .n (by simpa using h1) (.b0 e2 ?_)
  by_cases h2:dc key y.f0 * x.f1<dc key x.f0 * y.f1
  ·rw [if_pos h2]
   exact .t (dT h2) (.c _)
  ·rw [if_neg h2]
   exact .n (by simpa using h2) (.cv (qCk (by omega) (by omega)))
theorem qJM{a b c d e f:Int}(hb:0<b)(hd:0<d)(hf:0<f)(h1:a * d<=c * b)(h2:c * f<=e * d):a * f<=e * b:=by
 have h3:=Int.mul_le_mul_of_nonneg_right h1 (Int.le_of_lt hf)
 have h4:=Int.mul_le_mul_of_nonneg_right h2 (Int.le_of_lt hb)
 refine Int.le_of_mul_le_mul_right (a:=d) ?_ hd
 rw [Int.mul_right_comm a f d,Int.mul_right_comm e b d]
 rw [Int.mul_right_comm c b f]at h3
 exact Int.le_trans h3 h4
theorem qDr{a b c d e f:Int}(hb:0<b)(hd:0<d)(hf:0<f)(h1:a * d<c * b)(h2:c * f<=e * d):a * f<e * b:=by
 have h3:=Int.mul_lt_mul_of_pos_right h1 hf
 have h4:=Int.mul_le_mul_of_nonneg_right h2 (Int.le_of_lt hb)
 refine Int.lt_of_mul_lt_mul_right (a:=d) ?_ (Int.le_of_lt hd)
 rw [Int.mul_right_comm a f d,Int.mul_right_comm e b d]
 rw [Int.mul_right_comm c b f]at h3
 exact Int.lt_of_lt_of_le h3 h4
theorem qEw{a b c d e f:Int}(hb:0<b)(hd:0<d)(hf:0<f)(h1:a * d<=c * b)(h2:c * f<e * d):a * f<e * b:=by
 have h3:=Int.mul_le_mul_of_nonneg_right h1 (Int.le_of_lt hf)
 have h4:=Int.mul_lt_mul_of_pos_right h2 hb
 refine Int.lt_of_mul_lt_mul_right (a:=d) ?_ (Int.le_of_lt hd)
 rw [Int.mul_right_comm a f d,Int.mul_right_comm e b d]
 rw [Int.mul_right_comm c b f]at h3
 exact Int.lt_of_le_of_lt h3 h4
def ltD(key:Nat)(x y:qB):Prop:=dc key x.f0 * y.f1<dc key y.f0 * x.f1\/(dc key x.f0 * y.f1<=dc key y.f0 * x.f1/\x.f0<y.f0)
theorem qKA(key:Nat)(x y:qB):cmpD key x y<0↔ltD key x y:=by
 unfold cmpD ltD
 generalize dc key x.f0 * y.f1=a
 generalize dc key y.f0 * x.f1=b
 by_cases h1:a<b
 ·rw [if_pos h1]
  exact ⟨fun _=>.inl h1,fun _=>by omega⟩
 ·rw [if_neg h1]
  by_cases h2:b<a
  ·rw [if_pos h2]
   exact ⟨fun h=>by omega,fun h=>by omega⟩
  ·rw [if_neg h2]
   exact ⟨fun h=>.inr ⟨by omega,by omega⟩,fun h=>by omega⟩
theorem qDg(key:Nat)(x:qB):¬ ltD key x x:=fun h=>by
 unfold ltD at h
 omega
theorem qDO{key:Nat}{x y z:qB}(hx:fineC x)(hy:fineC y)(hz:fineC z)(h1:ltD key x y)(h2:ltD key y z):ltD key x z:=by
 have b1:0<x.f1:=by have:=hx.2; omega
 have b2:0<y.f1:=by have:=hy.2; omega
 have b3:0<z.f1:=by have:=hz.2; omega
 rcases h1 with h1 | ⟨h1,i1⟩
 ·rcases h2 with h2 | ⟨h2,i2⟩
  ·exact .inl (qDr b1 b2 b3 h1 (Int.le_of_lt h2))
  ·exact .inl (qDr b1 b2 b3 h1 h2)
 ·rcases h2 with h2 | ⟨h2,i2⟩
  ·exact .inl (qEw b1 b2 b3 h1 h2)
  ·exact .inr ⟨qJM b1 b2 b3 h1 h2,Int.lt_trans i1 i2⟩
theorem qDs(key:Nat)(x y:qB)(h:x.f0≠y.f0):ltD key x y\/ltD key y x:=by
 unfold ltD
 omega
theorem qJm{α β : Type}(f:Nat->α->Option β)(v : α->β):∀ l:List α,(∀ x ∈ l,Ev (fun k=>f k x) (v x))->∃ K,∀ k,K<=k->∀ x ∈ l,f k x=some (v x)
 | [],_=>⟨0,fun _ _ _ h=>nomatch h⟩
 | x :: l,h=>by
  obtain ⟨K,hK⟩:=h x List.mem_cons_self
  obtain ⟨L,hL⟩:=qJm f v l fun y m=>h y (List.mem_cons_of_mem _ m)
  refine ⟨K+L,fun k hk y hy=>?_⟩
  rcases List.mem_cons.1 hy with rfl | hy
  ·exact hK k (by omega)
  ·exact hL k (by omega) y hy
def fineL(l:List qB):Prop:=(∀ x ∈ l,fineC x)/\∀ x ∈ l,∀ y ∈ l,x.f0=y.f0->x=y
instance (key:Nat) (x y:qB):Decidable (ltD key x y):=inferInstanceAs (Decidable (_\/_))
def ltB(key:Nat)(x y:qB):Bool:=decide (ltD key x y)
theorem qDt{α : Type}(f g : α->α->Bool)(x : α):∀ l:List α,(∀ y ∈ l,f x y=g x y)->insertL f x l=insertL g x l
 | [],_=>rfl
 | y :: r,h=>by
  rw [insertL,insertL,h y List.mem_cons_self,qDt f g x r (fun z m=>h z (List.mem_cons_of_mem _ m))]
theorem qEb{α : Type}(f g : α->α->Bool):∀ l:List α,(∀ x ∈ l,∀ y ∈ l,f x y=g x y)->sortL f l=sortL g l
 | [],_=>rfl
 | x :: r,h=>by
  have ih:=qEb f g r fun a ha b hb=>h a (List.mem_cons_of_mem _ ha) b (List.mem_cons_of_mem _ hb)
  rw [sortL,sortL,ih]
  exact qDt f g x _ fun y hy=>h x List.mem_cons_self y (List.mem_cons_of_mem _ ((qDI _ _).1 hy))
set_option maxHeartbeats 4000000 in
theorem sorts(key:Nat)(hkey:key<18446744073709551616)(l:List qB)(hf:fineL l)(hl:l.length<=1000000):Ev (fun k=>qb.f k l (key:Int)) (sortL (ltB key) l):=by
 have hc:∀ p ∈ l.flatMap fun x=>l.map fun y=>(x,y),Ev (fun k=>qb.cmp k (key:Int) p.1 p.2) (cmpD key p.1 p.2):=by
  intro p hp
  obtain ⟨x,hx,hp⟩:=List.mem_flatMap.1 hp
  obtain ⟨y,hy,rfl⟩:=List.mem_map.1 hp
  unfold qb.cmp qCB.f
  exact .b (compare key hkey x y (hf.1 x hx) (hf.1 y hy)) (.c _)
 obtain ⟨K,hK⟩:=qJm (fun k (p:qB × qB)=>qb.cmp k (key:Int) p.1 p.2) (fun p=>cmpD key p.1 p.2) _ hc
 refine ⟨K,fun k hk=>?_⟩
 have hK:∀ x ∈ l,∀ y ∈ l,qb.cmp k (key:Int) x y=some (cmpD key x y):=by
  intro x hx y hy
  have hm:(x,y) ∈ l.flatMap (fun x=>l.map fun y=>(x,y)):=List.mem_flatMap.2 ⟨x,hx,List.mem_map.2 ⟨y,hy,rfl⟩⟩
  have h:=hK k hk (x,y) hm
  dsimp only at h
  exact h
 have hlt:∀ x ∈ l,∀ y ∈ l,ltO (qb.cmp k (key:Int)) x y=ltB key x y:=by
  intro x hx y hy
  unfold ltO ltB
  rw [hK x hx y hy,Option.getD_some,decide_eq_decide]
  exact qKA key x y
 have hok:okSort (qb.cmp k (key:Int)) l=true:=?_
 ·show sortO (qb.cmp k (key:Int)) l=_
  unfold sortO
  rw [if_pos ⟨hok,hl⟩,qEb _ _ l hlt]
 unfold okSort
 simp only [Bool.and_eq_true,List.all_eq_true]
 refine ⟨⟨⟨?_,?_⟩,?_⟩,?_⟩
 ·intro x hx y hy
  rw [hK x hx y hy]
  rfl
 ·intro x hx
  rw [hlt x hx x hx,ltB,dF (qDg key x)]
  rfl
 ·intro x hx y hy z hz
  rw [hlt x hx y hy,hlt y hy z hz,hlt x hx z hz]
  unfold ltB
  by_cases h1:ltD key x y
  ·by_cases h2:ltD key y z
   ·simp [h1,h2,qDO (hf.1 x hx) (hf.1 y hy) (hf.1 z hz) h1 h2]
   ·simp [h1,h2]
  ·by_cases h2:ltD key y z
   ·simp [h1,h2]
   ·have h3:¬ ltD key x z:=by
     intro h3
     by_cases hxy:x.f0=y.f0
     ·exact h2 (hf.2 x hx y hy hxy ▸ h3)
     ·rcases qDs key x y hxy with h | h
      ·exact h1 h
      ·exact h2 (qDO (hf.1 y hy) (hf.1 x hx) (hf.1 z hz) h h3)
    simp [h1,h2,h3]
 ·intro x hx y hy
  rw [hlt x hx y hy,hlt y hy x hx]
  unfold ltB
  by_cases hxy:x.f0=y.f0
  ·simp [hf.2 x hx y hy hxy]
  ·rcases qDs key x y hxy with h | h
   ·simp [h]
   ·simp [h]
structure Chs (l:List qB):Prop where
 len:l.length<=64
 ok:∀ x ∈ l,(0<=x.f0/\x.f0<=2147483647)/\0<=x.f1/\x.f1<=65536
 up:l.Pairwise fun x y=>x.f0<y.f0
theorem qIJ(l:List qB)(h:Chs l):∀(d i:Nat),i+d=l.length->Ev (fun k=>qAy.l9 k l (i:Int)) 0:=by
 have hl:=h.len
 intro d
 induction d with
 | zero=>exact fun i hi=>.s (qAy.l9_s · _ _) (.n (by omega) (.c _))
 | succ d ih =>
  intro i hi
  have h1:i<l.length:=by omega
  have hok:=h.ok _ (gM h1)
  have hj:Ev (fun k=>qAy.j37 k l (i:Int) false) 0:=by
   refine .s (qAy.j37_s · _ _ _) (.n (by decide) ?_)
   rw [w64n i (by omega)]
   exact ih (i+1) (by omega)
  refine .s (qAy.l9_s · _ _) (.t (by omega) (.t (by omega) ?_))
  rw [nth_get _ _ _ h1]
  refine .n (by omega) (.n (by omega) (.n (by omega) (.n (by omega) (.i (fun h0=>?_) fun _=>hj))))
  rw [w64p i (by omega) (by omega)]
  refine .t (by omega) ?_
  rw [nth_get _ _ _ (by omega),dF]
  ·exact hj
  ·have:=List.pairwise_iff_getElem.1 h.up (i - 1) i (by omega) h1 (by omega)
   omega
theorem dcheck(l:List qB)(h:Chs l):Ev (fun k=>qAy.f k l) 0:=by
 have hl:=h.len
 unfold qAy.f
 exact .n (by omega) (qIJ l h l.length 0 (by omega))
def heavy(l:List qB):List qB:=l.filter fun x => !(x.f1 == 0)
theorem qEA{l:List qB}(h:Chs l):fineL (heavy l):=by
 refine ⟨fun x hx=>?_,fun x hx y hy e=>?_⟩
 ·obtain ⟨h1,h2⟩:=List.mem_filter.1 hx
  have:=h.ok x h1
  have h3:x.f1≠0:=by simpa using h2
  exact ⟨this.1,by omega,this.2.2⟩
 ·have hx:=(List.mem_filter.1 hx).1
  have hy:=(List.mem_filter.1 hy).1
  obtain ⟨i,hi,rfl⟩:=List.getElem_of_mem hx
  obtain ⟨j,hj,rfl⟩:=List.getElem_of_mem hy
  have hup:=List.pairwise_iff_getElem.1 h.up
  rcases Nat.lt_trichotomy i j with c | c | c
  ·have:=hup i j hi hj c
   omega
  ·subst c; rfl
  ·have:=hup j i hj hi c
   omega
theorem index0(l:List qB)(hl:l.length<=64):∀(d i:Nat),i+d=l.length->heavy (l.take i)=l.take i->(heavy l=l/\Ev (fun k=>qL.l5 k l (i:Int)) (-1))\/∃ n:Nat,n<l.length/\heavy (l.take n)=l.take n/\(∀ h:n<l.length,l[n].f1=0)/\Ev (fun k=>qL.l5 k l (i:Int)) (n:Int):=by
 intro d
 induction d with
 | zero =>
  intro i hi ht
  rw [List.take_of_length_le (by omega)]at ht
  exact .inl ⟨ht,.s (qL.l5_s · _ _) (.n (by omega) (.c _))⟩
 | succ d ih =>
  intro i hi ht
  have h1:i<l.length:=by omega
  by_cases h0:l[i].f1=0
  ·refine .inr ⟨i,h1,ht,fun _=>h0,.s (qL.l5_s · _ _) (.t (by omega) (.t (by omega) ?_))⟩
   rw [nth_get _ _ _ h1]
   exact .b0 (a:=true) (congrArg some (by simpa using h0)) (.t rfl (.c _))
  ·have hs:Ev (fun k=>qL.l5 k l ((i+1:Nat):Int))=fun v=>Ev (fun k=>qL.l5 k l ((i+1:Nat):Int)) v:=rfl
   have go:∀ v,Ev (fun k=>qL.l5 k l ((i+1:Nat):Int)) v->Ev (fun k=>qL.l5 k l (i:Int)) v:=by
    intro v hv
    refine .s (qL.l5_s · _ _) (.t (by omega) (.t (by omega) ?_))
    rw [nth_get _ _ _ h1,w64n i (by omega)]
    exact .b0 (a:=false) (congrArg some (by simpa using h0)) (.n (by decide) hv)
   have ht':heavy (l.take (i+1))=l.take (i+1):=by
    rw [List.take_add_one,List.getElem?_eq_getElem h1,Option.toList_some]
    unfold heavy at ht ⊢
    rw [List.filter_append,ht]
    simp [h0]
   rcases ih (i+1) (by omega) ht' with ⟨a,b⟩ | ⟨n,a,b,c,e⟩
   ·exact .inl ⟨a,go _ b⟩
   ·exact .inr ⟨n,a,b,c,go _ e⟩
theorem qHe(l:List qB)(hl:l.length<=64):∀(d i n:Nat)(q:List qB),i+d=l.length->n<i->q.length=l.length->q.take n=heavy (l.take i)->q.drop i=l.drop i->Ev (fun k=>qO.l15 k l q (n:Int) (i:Int)) (heavy l):=by
 intro d
 induction d with
 | zero =>
  intro i n q hi hn hq ht hd
  refine .s (qO.l15_s · _ _ _ _) (.n (by omega) (.t (by omega) (.cv ?_)))
  rw [List.take_of_length_le (by omega:l.length<=i)]at ht
  rw [← ht]
  have hlen:(q.take n).length=n:=by rw [List.length_take]; omega
  simp only [cutl,tN,Int.toNat_zero,List.drop_zero]
  rw [List.take_append_of_le_length (by omega),List.take_of_length_le (by omega)]
 | succ d ih =>
  intro i n q hi hn hq ht hd
  have h1:i<l.length:=by omega
  have h2:i<q.length:=by omega
  have hd2:q[i]=l[i]/\q.drop (i+1)=l.drop (i+1):=by
   rw [List.drop_eq_getElem_cons h1,List.drop_eq_getElem_cons h2]at hd
   exact ⟨(List.cons.inj hd).1,(List.cons.inj hd).2⟩
  have hh:heavy (l.take (i+1))=heavy (l.take i)++(if l[i].f1=0 then [] else [l[i]]):=by
   rw [List.take_add_one,List.getElem?_eq_getElem h1,Option.toList_some]
   unfold heavy
   rw [List.filter_append]
   by_cases c:l[i].f1=0
   ·simp [c]
   ·simp [c]
  refine .s (qO.l15_s · _ _ _ _) (.t (by omega) (.t (by omega) ?_))
  rw [nth_get _ _ _ h2,hd2.1,w64n i (by omega),w64n n (by omega)]
  by_cases h0:l[i].f1=0
  ·refine .b0 (a:=true) (congrArg some (by simpa using h0)) (.t rfl (ih (i+1) n q (by omega) (by omega) hq ?_ hd2.2))
   rw [hh,if_pos h0,List.append_nil,ht]
  ·refine .b0 (a:=false) (congrArg some (by simpa using h0)) (.n (by decide) (.t (by omega) (ih (i+1) (n+1) _ (by omega) (by omega) (by rw [List.length_set]; exact hq) ?_ ?_)))
   ·rw [hh,if_neg h0,← ht,tN,List.take_add_one,List.take_set_of_le (by omega),List.getElem?_set_self (by omega)]
    rfl
   ·rw [tN,List.drop_set_of_lt (by omega)]
    exact hd2.2
theorem delete(l:List qB)(hl:l.length<=64):Ev (fun k=>qO.f k l) (heavy l):=by
 unfold qO.f qL.f
 rcases index0 l hl l.length 0 (by omega) rfl with ⟨a,b⟩ | ⟨n,a,b,c,e⟩
 ·exact .b b (.t rfl (.cv a.symm))
 ·refine .b e (.n (by omega) ?_)
  rw [w64n n (by omega)]
  refine qHe l hl (l.length - (n+1)) (n+1) n l (by omega) (by omega) rfl ?_ rfl
  rw [List.take_add_one,List.getElem?_eq_getElem a,Option.toList_some,← b]
  unfold heavy
  rw [List.filter_append,List.filter_filter]
  simp [c a]
def ord(key:Nat)(l:List qB):List qB:=sortL (ltB key) (heavy l)
theorem qIK(t22 t33:List qB)(he:t33.length=t22.length)(hl:t22.length<=64):∀(d i:Nat),i+d=t22.length->Ev (fun k=>qBW.l44 k t22 t33 ((t33.take i).map fun x=>x.f0) (i:Int)) (t33.map fun x=>x.f0):=by
 intro d
 induction d with
 | zero =>
  intro i hi
  refine .s (qBW.l44_s · _ _ _ _) (.n (by omega) (.cv ?_))
  rw [List.take_of_length_le (by omega)]
 | succ d ih =>
  intro i hi
  have h1:i<t33.length:=by omega
  refine .s (qBW.l44_s · _ _ _ _) (.t (by omega) (.t (by omega) (.t (by rw [List.length_map,List.length_take]; omega) ?_)))
  rw [nth_get _ _ _ h1,w64n i (by omega)]
  have ih:=ih (i+1) (by omega)
  rw [List.take_add_one,List.getElem?_eq_getElem h1,Option.toList_some,List.map_append]at ih
  exact ih
theorem order(key:Nat)(hkey:key<18446744073709551616)(l:List qB)(h:Chs l):Ev (fun k=>qBW.f k (key:Int) l) ((ord key l).map fun x=>x.f0):=by
 have hl:=h.len
 have hh:(heavy l).length<=l.length:=List.length_filter_le _ _
 unfold qBW.f
 refine .b (dcheck l h) (.t rfl (.b0 (a:=l) ?_ (.b (delete l hl) (.b (sorts key hkey _ (qEA h) (by omega)) ?_))))
 ·unfold qAk.f
  rw [if_pos]
  ·rfl
  ·simp only [List.length_nil]
   omega
 ·exact qIK _ _ (qCz _ _) (by omega) (heavy l).length 0 (by omega)
def isBest(key:Nat)(l:List qB)(m:qB):Prop:=m ∈ heavy l/\∀ y ∈ heavy l,y=m\/ltD key m y
theorem qHf(l:List qB)(x:qB):heavy (l++[x])=heavy l++(if x.f1=0 then [] else [x]):=by
 unfold heavy
 rw [List.filter_append]
 by_cases c:x.f1=0
 ·simp [c]
 ·simp [c]
theorem qFG(l:List qB)(i:Nat)(h:i<l.length):heavy (l.take (i+1))=heavy (l.take i)++(if l[i].f1=0 then [] else [l[i]]):=by
 rw [List.take_add_one,List.getElem?_eq_getElem h,Option.toList_some,qHf]
theorem qEL(l:List qB)(p:qB->Bool):heavy (l.filter p)=(heavy l).filter p:=by
 unfold heavy
 rw [List.filter_filter,List.filter_filter]
 congr 1
 funext x
 exact Bool.and_comm _ _
theorem qFf:∀(l:List qB)(m:qB),l.Pairwise (fun x y=>x.f0<y.f0)->m ∈ l->l.Perm (m :: l.filter fun x => !(x.f0 == m.f0))
 | [],_,_,h=>nomatch h
 | x :: r,m,hp,h=>by
  obtain ⟨h1,h2⟩:=List.pairwise_cons.1 hp
  rcases List.mem_cons.1 h with rfl | h
  ·rw [List.filter_cons_of_neg (by simp)]
   have e:r.filter (fun x => !(x.f0 == m.f0))=r:=List.filter_eq_self.2 fun y hy=>by have:=h1 y hy; simp; omega
   rw [e]
  ·have hlt:=h1 m h
   rw [List.filter_cons_of_pos (by simp; omega)]
   exact ((qFf r m h2 h).cons x).trans (List.Perm.swap m x _)
theorem heavy_up{l:List qB}(h:Chs l):(heavy l).Pairwise (fun x y=>x.f0<y.f0):=h.up.filter _
theorem qJn(key:Nat)(l:List qB)(hf:fineL l):SWOn (fun x=>x ∈ l) (ltB key):=by
 refine ⟨fun x hx=>dF (qDg key x),fun x y z hx hy hz h1 h2=>dT (qDO (hf.1 x hx) (hf.1 y hy) (hf.1 z hz) (oT h1) (oT h2)),fun x y z hx hy hz h1 h2=>dF fun h3=>?_⟩
 have h1:=of_decide_eq_false h1
 have h2:=of_decide_eq_false h2
 by_cases hxy:x.f0=y.f0
 ·exact h2 (hf.2 x hx y hy hxy ▸ h3)
 ·rcases qDs key x y hxy with h | h
  ·exact h1 h
  ·exact h2 (qDO (hf.1 y hy) (hf.1 x hx) (hf.1 z hz) h h3)
theorem qHg(key:Nat){l:List qB}(h:Chs l){m:qB}(hb:isBest key l m):ord key l=m :: ord key (l.filter fun x => !(x.f0 == m.f0)):=by
 have hf:=qEA h
 unfold ord
 rw [qEL]
 have hp:=qFf (heavy l) m (heavy_up h) hb.1
 have hsub:∀ y ∈ (heavy l).filter fun x => !(x.f0 == m.f0),y ∈ heavy l:=fun y hy=>(List.mem_filter.1 hy).1
 refine List.Perm.eq_of_pairwise (le:=fun a b=>ltB key b a=false) ?_ (qCx (qJn key _ hf) _ fun y hy=>hy) (List.pairwise_cons.2 ⟨fun y hy=>?_,?_⟩) ?_
 ·intro a b ha hb' h1 h2
  have ha:a ∈ heavy l:=(qDI _ _).1 ha
  have hb2:b ∈ heavy l:=by
   rcases List.mem_cons.1 hb' with rfl | hb'
   ·exact hb.1
   ·exact hsub _ ((qDI _ _).1 hb')
  by_cases e:a.f0=b.f0
  ·exact hf.2 a ha b hb2 e
  ·rcases qDs key a b e with c | c
   ·exact absurd c (of_decide_eq_false h2)
   ·exact absurd c (of_decide_eq_false h1)
 ·have hy:=hsub _ ((qDI _ _).1 hy)
  refine dF fun c=>?_
  rcases hb.2 y hy with rfl | d
  ·exact qDg key _ c
  ·exact qDg key _ (qDO (hf.1 m hb.1) (hf.1 y hy) (hf.1 m hb.1) d c)
 ·exact qCx (qJn key _ hf) _ hsub
 ·exact (qCu _ _).trans (hp.trans ((qCu _ _).symm.cons m))
theorem Chs.filter{l:List qB}(h:Chs l)(p:qB->Bool):Chs (l.filter p) :=
 ⟨Nat.le_trans (List.length_filter_le _ _) h.len,fun x hx=>h.ok x (List.mem_filter.1 hx).1,h.up.filter _⟩
end Draw
namespace Topo
def weight(n:qA):Int:=if n.f5=true then n.f3 else 0
def addW(id w:Int):List qB->List qB
 | []=>[⟨id,w⟩]
 | c :: r=>if c.f0<id then c :: addW id w r else if c.f0=id then ⟨id,if c.f1+w<65536 then c.f1+w else 65536⟩ :: r else ⟨id,w⟩ :: c :: r
def wOne(is:qA->Bool)(of:qA->Int)(v:List qB)(n:qA):List qB:=if is n=true then addW (of n) (weight n) v else v
def wL(is:qA->Bool)(of:qA->Int)(l:List qA):List qB:=l.foldl (wOne is of) []
def posn(id:Int):List qB->Nat
 | []=>0
 | c :: r=>if c.f0<id then posn id r+1 else 0
theorem qGg(id:Int):∀ l:List qB,posn id l<=l.length
 | []=>Nat.le_refl _
 | c :: r=>by
  unfold posn
  have:=qGg id r
  rw [List.length_cons]
  split <;> omega
theorem qIL(id:Int):∀(l:List qB)(i:Nat)(h:i<l.length),i<posn id l->l[i].f0<id
 | [],_,h,_=>nomatch h
 | c :: r,i,h,hi=>by
  unfold posn at hi
  split at hi
  ·cases i with
   | zero=>assumption
   | succ i=>exact qIL id r i (by simpa using h) (by omega)
  ·omega
theorem qGh(id:Int):∀(l:List qB),l.Pairwise (fun x y=>x.f0<y.f0)->∀(i:Nat)(h:i<l.length),posn id l<=i->id<=l[i].f0
 | [],_,_,h,_=>nomatch h
 | c :: r,hp,i,h,hi=>by
  obtain ⟨h1,h2⟩:=List.pairwise_cons.1 hp
  unfold posn at hi
  split at hi
  ·cases i with
   | zero=>omega
   | succ i=>exact qGh id r h2 i (by simpa using h) (by omega)
  ·cases i with
   | zero=>rename_i hc; exact Int.not_lt.1 hc
   | succ i =>
    rename_i hc
    have hr:i<r.length:=by simpa using h
    have:=h1 _ (gM hr)
    show id<=r[i].f0
    omega
theorem cmpi(a b:Int):qBB.f a b=some (if a<b then -1 else if a>b then 1 else 0):=by
 unfold qBB.f qBa.f
 simp only [beq_self_eq_true,Bool.not_true,Option.bind_some,Bool.false_eq_true,if_false]
 by_cases h:a<b
 ·rw [if_pos h,if_pos h]
 ·rw [if_neg h,if_neg h]
  by_cases h2:a>b
  ·rw [if_pos h2,if_pos h2]
  ·rw [if_neg h2,if_neg h2]
theorem mid(a b:Nat)(h:a+b<4611686018427387904):w64 ((IntKind.u64.wrap (w64 ((a:Int)+b))).fdiv 2)=((a+b) / 2:Nat):=by
 have e:w64 ((a:Int)+b)=((a+b:Nat):Int):=by rw [qCk (by omega) (by omega)]; omega
 have e2:IntKind.u64.wrap ((a+b:Nat):Int)=((a+b:Nat):Int):=by rw [IntKind.wrap_u64]; omega
 rw [e,e2,Int.fdiv_eq_ediv_of_nonneg _ (by omega),qCk (by omega) (by omega)]
 omega
theorem qIM(l:List qB)(id:Int)(hl:l.length<1000000)(hp:l.Pairwise fun x y=>x.f0<y.f0):∀(d a b:Nat),b - a<=d->a<=posn id l->posn id l<=b->b<=l.length->Ev (fun k=>qJ.l7 k l id (a:Int) (b:Int)) ((posn id l:Int),match l[posn id l]? with
  | some c=>c.f0 == id
  | none=>false):=by
 intro d
 induction d with
 | zero =>
  intro a b hd h1 h2 h3
  obtain rfl:a=b:=by omega
  obtain rfl:a=posn id l:=by omega
  refine .s (qJ.l7_s · _ _ _ _) (.n (by omega) ?_)
  by_cases h4:posn id l<l.length
  ·refine .t (by omega) (.t (by omega) ?_)
   rw [nth_get _ _ _ h4,List.getElem?_eq_getElem h4]
   refine .b0 (a:=if l[posn id l].f0<id then -1 else if l[posn id l].f0>id then 1 else 0) ?_ (.cv ?_)
   ·unfold qBi.f
    rw [cmpi]
    rfl
   ·have:=qGh id l hp _ h4 (Nat.le_refl _)
    by_cases h5:l[posn id l].f0=id
    ·simp [h5]
    ·rw [if_neg (by omega),if_pos (by omega)]
     simp [h5]
  ·rw [List.getElem?_eq_none (by omega)]
   exact .n (by omega) (.c _)
 | succ d ih =>
  intro a b hd h1 h2 h3
  by_cases hab:a<b
  ·refine .s (qJ.l7_s · _ _ _ _) (.t (by omega) ?_)
   rw [mid a b (by omega)]
   have h4:(a+b) / 2<l.length:=by omega
   refine .t (by omega) ?_
   rw [nth_get _ _ _ h4]
   refine .b0 (a:=if l[(a+b) / 2].f0<id then -1 else if l[(a+b) / 2].f0>id then 1 else 0) ?_ ?_
   ·unfold qBi.f
    rw [cmpi]
    rfl
   ·by_cases h5:l[(a+b) / 2].f0<id
    ·rw [if_pos h5,w64n _ (by omega)]
     refine .t (by decide) (ih _ _ (by omega) ?_ h2 h3)
     rcases Nat.lt_or_ge ((a+b) / 2) (posn id l) with c | c
     ·omega
     ·have:=qGh id l hp _ h4 c
      omega
    ·rw [if_neg h5]
     refine .n (by split <;> decide) (ih _ _ (by omega) h1 ?_ (by omega))
     rcases Nat.lt_or_ge ((a+b) / 2) (posn id l) with c | c
     ·exact absurd (qIL id l _ h4 c) h5
     ·exact c
  ·exact ih a b (by omega) h1 h2 h3
theorem search(l:List qB)(id:Int)(hl:l.length<1000000)(hp:l.Pairwise fun x y=>x.f0<y.f0):Ev (fun k=>qJ.f k l id) ((posn id l:Int),match l[posn id l]? with
  | some c=>c.f0 == id
  | none=>false):=qIM l id hl hp l.length 0 l.length (by omega) (by omega) (qGg id l) (Nat.le_refl _)
theorem qHH(id w:Int):∀(l:List qB)(h:posn id l<l.length),l[posn id l].f0=id->addW id w l=l.set (posn id l) ⟨id,if l[posn id l].f1+w<65536 then l[posn id l].f1+w else 65536⟩
 | [],h,_=>nomatch h
 | c :: r,h,he=>by
  unfold addW
  by_cases hc:c.f0<id
  ·have e:posn id (c :: r)=posn id r+1:=by rw [posn,if_pos hc]
   have h':posn id r<r.length:=by rw [e,List.length_cons]at h; omega
   simp only [e,List.getElem_cons_succ]at he
   rw [if_pos hc,qHH id w r h' he]
   simp only [e,List.set_cons_succ,List.getElem_cons_succ]
  ·have e:posn id (c :: r)=0:=by rw [posn,if_neg hc]
   simp only [e,List.getElem_cons_zero]at he
   rw [if_neg hc,if_pos he]
   simp only [e,List.set_cons_zero,List.getElem_cons_zero]
theorem qHI(id w:Int):∀(l:List qB),(∀ h:posn id l<l.length,l[posn id l].f0≠id)->addW id w l=l.take (posn id l)++⟨id,w⟩ :: l.drop (posn id l)
 | [],_=>rfl
 | c :: r,he=>by
  unfold addW
  by_cases hc:c.f0<id
  ·have e:posn id (c :: r)=posn id r+1:=by rw [posn,if_pos hc]
   rw [if_pos hc,qHI id w r (fun h=>by have:=he (by rw [e,List.length_cons]; omega); simpa only [e,List.getElem_cons_succ] using this)]
   simp only [e,List.take_succ_cons,List.drop_succ_cons,List.cons_append]
  ·have e:posn id (c :: r)=0:=by rw [posn,if_neg hc]
   have:=he (by rw [e,List.length_cons]; omega)
   simp only [e,List.getElem_cons_zero]at this
   rw [if_neg hc,if_neg this]
   simp only [e,List.take_zero,List.drop_zero,List.nil_append]
theorem qHJ(id w:Int):∀ l:List qB,(addW id w l).length<=l.length+1
 | []=>Nat.le_refl _
 | c :: r=>by
  unfold addW
  have:=qHJ id w r
  split
  ·rw [List.length_cons,List.length_cons]; omega
  ·split <;> simp
theorem qHK(id w:Int):∀(l:List qB),l.Pairwise (fun x y=>x.f0<y.f0)->∀ c:qB,c ∈ addW id w l↔(c ∈ l/\c.f0≠id)\/(c.f0=id/\((∃ d ∈ l,d.f0=id/\c.f1=if d.f1+w<65536 then d.f1+w else 65536)\/((∀ d ∈ l,d.f0≠id)/\c.f1=w)))
 | [],_,c=>by
  unfold addW
  rw [List.mem_singleton]
  constructor
  ·rintro rfl
   exact .inr ⟨rfl,.inr ⟨(fun _ h=>nomatch h),rfl⟩⟩
  ·rintro (⟨h,_⟩ | ⟨h,(⟨_,h',_⟩ | ⟨_,h'⟩)⟩)
   ·exact nomatch h
   ·exact nomatch h'
   ·cases c; cases h; cases h'; rfl
 | x :: r,hp,c=>by
  obtain ⟨h1,h2⟩:=List.pairwise_cons.1 hp
  unfold addW
  by_cases hx:x.f0<id
  ·rw [if_pos hx,List.mem_cons,qHK id w r h2 c,List.mem_cons]
   constructor
   ·rintro (rfl | ⟨h,h'⟩ | ⟨h,(⟨d,q1,q2⟩ | ⟨q1,q2⟩)⟩)
    ·exact .inl ⟨.inl rfl,by omega⟩
    ·exact .inl ⟨.inr h,h'⟩
    ·exact .inr ⟨h,.inl ⟨d,List.mem_cons_of_mem _ q1,q2⟩⟩
    ·refine .inr ⟨h,.inr ⟨fun d hd=>?_,q2⟩⟩
     rcases List.mem_cons.1 hd with rfl | hd
     ·omega
     ·exact q1 d hd
   ·rintro (⟨h | h,h'⟩ | ⟨h,(⟨d,q1,q2⟩ | ⟨q1,q2⟩)⟩)
    ·exact .inl h
    ·exact .inr (.inl ⟨h,h'⟩)
    ·rcases List.mem_cons.1 q1 with rfl | q1
     ·have:=q2.1; omega
     ·exact .inr (.inr ⟨h,.inl ⟨d,q1,q2⟩⟩)
    ·exact .inr (.inr ⟨h,.inr ⟨fun d hd=>q1 d (List.mem_cons_of_mem _ hd),q2⟩⟩)
  ·rw [if_neg hx]
   by_cases he:x.f0=id
   ·rw [if_pos he,List.mem_cons,List.mem_cons]
    constructor
    ·rintro (rfl | h)
     ·exact .inr ⟨rfl,.inl ⟨x,List.mem_cons_self,he,rfl⟩⟩
     ·exact .inl ⟨.inr h,by have:=h1 c h; omega⟩
    ·rintro (⟨h | h,h'⟩ | ⟨h,(⟨d,q1,q2,q3⟩ | ⟨q1,q2⟩)⟩)
     ·exact absurd (h ▸ he) h'
     ·exact .inr h
     ·rcases List.mem_cons.1 q1 with rfl | q1
      ·left; cases c; cases h; cases q3; rfl
      ·have:=h1 d q1; omega
     ·exact absurd he (q1 x List.mem_cons_self)
   ·rw [if_neg he,List.mem_cons]
    constructor
    ·rintro (rfl | h)
     ·refine .inr ⟨rfl,.inr ⟨fun d hd=>?_,rfl⟩⟩
      rcases List.mem_cons.1 hd with rfl | hd
      ·exact he
      ·have:=h1 d hd; show d.f0≠id; omega
     ·refine .inl ⟨h,?_⟩
      rcases List.mem_cons.1 h with rfl | hd
      ·exact he
      ·have:=h1 c hd; omega
    ·rintro (⟨h,h'⟩ | ⟨h,(⟨d,q1,q2,q3⟩ | ⟨q1,q2⟩)⟩)
     ·exact .inr h
     ·rcases List.mem_cons.1 q1 with rfl | q1
      ·exact absurd q2 he
      ·have:=h1 d q1; omega
     ·left; cases c; cases h; cases q2; rfl
theorem qJN{id w:Int}{l:List qB}{c:qB}: ∀ _:c ∈ addW id w l,c.f0=id\/∃ d ∈ l,d.f0=c.f0:=by
 induction l with
 | nil=>intro h; rw [addW,List.mem_singleton]at h; exact .inl (h ▸ rfl)
 | cons x r ih =>
  intro h
  unfold addW at h
  split at h
  ·rcases List.mem_cons.1 h with rfl | h
   ·exact .inr ⟨c,List.mem_cons_self,rfl⟩
   ·rcases ih h with e | ⟨d,hd,e⟩
    ·exact .inl e
    ·exact .inr ⟨d,List.mem_cons_of_mem _ hd,e⟩
  ·split at h
   ·rcases List.mem_cons.1 h with rfl | h
    ·exact .inl rfl
    ·exact .inr ⟨c,List.mem_cons_of_mem _ h,rfl⟩
   ·rcases List.mem_cons.1 h with rfl | h
    ·exact .inl rfl
    ·exact .inr ⟨c,h,rfl⟩
theorem qIN(id w:Int):∀(l:List qB),l.Pairwise (fun x y=>x.f0<y.f0)->(addW id w l).Pairwise (fun x y=>x.f0<y.f0)
 | [],_=>List.pairwise_singleton _ _
 | x :: r,hp=>by
  obtain ⟨h1,h2⟩:=List.pairwise_cons.1 hp
  unfold addW
  by_cases hx:x.f0<id
  ·rw [if_pos hx]
   refine List.pairwise_cons.2 ⟨fun y hy=>?_,qIN id w r h2⟩
   rcases qJN hy with e | ⟨d,hd,e⟩
   ·omega
   ·have:=h1 d hd; omega
  ·rw [if_neg hx]
   by_cases he:x.f0=id
   ·rw [if_pos he]
    exact List.pairwise_cons.2 ⟨fun y hy=>by have:=h1 y hy; show id<y.f0; omega,h2⟩
   ·rw [if_neg he]
    refine List.pairwise_cons.2 ⟨fun y hy=>?_,hp⟩
    show id<y.f0
    rcases List.mem_cons.1 hy with rfl | hy
    ·omega
    ·have:=h1 y hy; omega
def wSum(is:qA->Bool)(of:qA->Int)(l:List qA)(id:Int):Int:=((l.filter fun n=>is n&&decide (of n=id)).map weight).sum
def wIs(is:qA->Bool)(of:qA->Int)(l:List qA)(id:Int):Prop:=∃ n ∈ l,is n=true/\of n=id
def cap(x:Int):Int:=if x<65536 then x else 65536
structure WOf (is:qA->Bool) (of:qA->Int) (l:List qA) (v:List qB):Prop where
 up:v.Pairwise fun x y=>x.f0<y.f0
 mem:∀ c,c ∈ v↔wIs is of l c.f0/\c.f1=cap (wSum is of l c.f0)
theorem up_ext{v w:List qB}(hv:v.Pairwise fun x y=>x.f0<y.f0)(hw:w.Pairwise fun x y=>x.f0<y.f0)(h:∀ c,c ∈ v↔c ∈ w):v=w:=by
 have hn:∀ u:List qB,u.Pairwise (fun x y=>x.f0<y.f0)->u.Nodup:=fun u hu=>hu.imp fun {a b} hab e=>by rw [e]at hab; omega
 refine List.Perm.eq_of_pairwise (le:=fun x y=>x.f0<y.f0) (fun a b _ _ h1 h2=>by omega) hv hw ?_
 exact (List.perm_ext_iff_of_nodup (hn v hv) (hn w hw)).2 h
theorem WOf.eq{is:qA->Bool}{of:qA->Int}{l:List qA}{v w:List qB}(hv:WOf is of l v)(hw:WOf is of l w):v=w :=
 up_ext hv.up hw.up fun c=>(hv.mem c).trans (hw.mem c).symm
def okW(n:qA):Prop:=0<=n.f3/\n.f3<=65536
theorem weight_ok{n:qA}(h:okW n):0<=weight n/\weight n<=65536:=by
 unfold weight okW at *
 split <;> omega
theorem qEc(is:qA->Bool)(of:qA->Int)(l:List qA)(n:qA)(id:Int):wSum is of (l++[n]) id=wSum is of l id+if is n=true/\of n=id then weight n else 0:=by
 unfold wSum
 rw [List.filter_append,List.map_append,List.sum_append]
 congr 1
 by_cases h1:is n=true
 ·by_cases h2:of n=id
  ·simp [h1,h2]
  ·simp [h1,h2]
 ·simp [h1]
theorem wSum_ge(is:qA->Bool)(of:qA->Int)(l:List qA)(id:Int)(h:∀ n ∈ l,okW n):0<=wSum is of l id/\wSum is of l id<=65536 * l.length:=by
 induction l with
 | nil=>exact ⟨Int.le_refl _,Int.le_refl _⟩
 | cons n l ih =>
  have ih:=ih fun m hm=>h m (List.mem_cons_of_mem _ hm)
  have hw:=weight_ok (h n List.mem_cons_self)
  unfold wSum at *
  rw [List.length_cons,List.filter_cons]
  split
  ·rw [List.map_cons,List.sum_cons]
   omega
  ·omega
theorem qHL(is:qA->Bool)(of:qA->Int)(l:List qA)(n:qA)(id:Int):wIs is of (l++[n]) id↔wIs is of l id\/(is n=true/\of n=id):=by
 unfold wIs
 constructor
 ·rintro ⟨m,hm,h⟩
  rcases List.mem_append.1 hm with hm | hm
  ·exact .inl ⟨m,hm,h⟩
  ·rw [List.mem_singleton.1 hm]at h
   exact .inr h
 ·rintro (⟨m,hm,h⟩ | h)
  ·exact ⟨m,List.mem_append.2 (.inl hm),h⟩
  ·exact ⟨n,List.mem_append.2 (.inr (List.mem_singleton.2 rfl)),h⟩
theorem wSum_none{is:qA->Bool}{of:qA->Int}{l:List qA}{id:Int}(h:¬ wIs is of l id):wSum is of l id=0:=by
 unfold wSum
 rw [List.filter_eq_nil_iff.2]
 ·rfl
 ·intro n hn hc
  rw [Bool.and_eq_true,decide_eq_true_eq]at hc
  exact h ⟨n,hn,hc⟩
theorem WOf.snoc{is:qA->Bool}{of:qA->Int}{l:List qA}{v:List qB}{n:qA}(hv:WOf is of l v)(hl:∀ n ∈ l,okW n)(hn:okW n):WOf is of (l++[n]) (wOne is of v n):=by
 have hw:=weight_ok hn
 unfold wOne
 by_cases hi:is n=true
 ·rw [if_pos hi]
  refine ⟨qIN _ _ _ hv.up,fun c=>?_⟩
  have h0:=wSum_ge is of l c.f0 hl
  rw [qHK _ _ _ hv.up,qHL,qEc,hv.mem]
  by_cases hc:of n=c.f0
  ·rw [if_pos ⟨hi,hc⟩]
   have key:(∃ d ∈ v,d.f0=of n/\c.f1=if d.f1+weight n<65536 then d.f1+weight n else 65536)↔wIs is of l c.f0/\c.f1=cap (wSum is of l c.f0+weight n):=by
    have e:∀ s:Int,0<=s->(if cap s+weight n<65536 then cap s+weight n else 65536)=cap (s+weight n):=by
     intro s hs
     unfold cap
     split <;> split <;> (try split) <;> omega
    constructor
    ·rintro ⟨d,hd,h1,h2⟩
     obtain ⟨h3,h4⟩:=(hv.mem d).1 hd
     have hdc:d.f0=c.f0:=h1.trans hc
     rw [hdc]at h3 h4
     rw [h4,e _ h0.1]at h2
     exact ⟨h3,h2⟩
    ·rintro ⟨h1,h2⟩
     refine ⟨⟨c.f0,cap (wSum is of l c.f0)⟩,(hv.mem _).2 ⟨h1,rfl⟩,hc.symm,?_⟩
     show c.f1=if cap (wSum is of l c.f0)+weight n<65536 then cap (wSum is of l c.f0)+weight n else 65536
     rw [e _ h0.1]
     exact h2
   have key2:(∀ d ∈ v,d.f0≠of n)↔¬ wIs is of l c.f0:=by
    constructor
    ·intro h h1
     exact h ⟨c.f0,cap (wSum is of l c.f0)⟩ ((hv.mem _).2 ⟨h1,rfl⟩) hc.symm
    ·intro h d hd e
     exact h (by have:=((hv.mem d).1 hd).1; rwa [e,hc]at this)
   rw [key,key2]
   constructor
   ·rintro (⟨_,h⟩ | ⟨_,(⟨h1,h2⟩ | ⟨h1,h2⟩)⟩)
    ·exact absurd hc.symm h
    ·exact ⟨.inl h1,h2⟩
    ·refine ⟨.inr ⟨hi,hc⟩,?_⟩
     rw [wSum_none h1,h2]
     unfold cap
     split <;> omega
   ·rintro ⟨_,h⟩
    refine .inr ⟨hc.symm,?_⟩
    by_cases h1:wIs is of l c.f0
    ·exact .inl ⟨h1,h⟩
    ·refine .inr ⟨h1,?_⟩
     rw [wSum_none h1]at h
     unfold cap at h
     rw [h]
     split <;> omega
  ·rw [if_neg fun h=>hc h.2,Int.add_zero]
   constructor
   ·rintro (⟨h,_⟩ | ⟨h,_⟩)
    ·exact ⟨.inl h.1,h.2⟩
    ·exact absurd h.symm hc
   ·rintro ⟨h | h,h'⟩
    ·exact .inl ⟨⟨h,h'⟩,fun e=>hc e.symm⟩
    ·exact absurd h.2 hc
 ·rw [if_neg hi]
  refine ⟨hv.up,fun c=>?_⟩
  rw [hv.mem,qHL,qEc,if_neg fun h=>hi h.1,Int.add_zero]
  constructor
  ·exact fun h=>⟨.inl h.1,h.2⟩
  ·rintro ⟨h | h,h'⟩
   ·exact ⟨h,h'⟩
   ·exact absurd h.1 hi
theorem WOf.nil(is:qA->Bool)(of:qA->Int):WOf is of [] []:=⟨List.Pairwise.nil,fun c=>⟨(fun h=>nomatch h),fun h=>by obtain ⟨⟨_,h,_⟩,_⟩:=h; exact nomatch h⟩⟩
theorem qGi{is:qA->Bool}{of:qA->Int}{l:List qA}(i:Nat)(h:i<l.length):wL is of (l.take (i+1))=wOne is of (wL is of (l.take i)) l[i]:=by
 unfold wL
 rw [← List.take_append_getElem h,List.foldl_append]
 rfl
theorem wL_of(is:qA->Bool)(of:qA->Int)(l:List qA)(hl:∀ n ∈ l,okW n):∀ i,i<=l.length->WOf is of (l.take i) (wL is of (l.take i))/\(wL is of (l.take i)).length<=i:=by
 intro i
 induction i with
 | zero=>exact fun _=>⟨.nil _ _,Nat.le_refl _⟩
 | succ i ih =>
  intro hi
  have h1:i<l.length:=by omega
  obtain ⟨ih,hlen⟩:=ih (by omega)
  rw [qGi i h1]
  refine ⟨?_,?_⟩
  ·rw [← List.take_append_getElem h1]
   exact ih.snoc (fun n hn=>hl n (List.mem_of_mem_take hn)) (hl _ (gM h1))
  ·unfold wOne
   have:=qHJ (of l[i]) (weight l[i]) (wL is of (l.take i))
   split <;> omega
theorem qEd {isO:qA->Option Bool} {ofO:qA->Option Int} {is:qA->Bool} {of:qA->Int} (his:∀ n,isO n=some (is n)) (hof:∀ n,ofO n=some (of n)) (l:List qA)
  (L:Nat->List qB->Int->Option (List qB)) (J:Nat->Int->Int × Bool->List qB->Option (List qB))
  (hL:∀ k acc x,L (k+1) acc x=(if x<(l.length:Int) then (if 0<=x/\x<(l.length:Int) then ((isO (⟨(nth qA.z l x).f0,(nth qA.z l x).f1,(nth qA.z l x).f2,(nth qA.z l x).f3,(nth qA.z l x).f4,(nth qA.z l x).f5⟩:qA)).bind fun t39=>(if t39=true then ((ofO (⟨(nth qA.z l x).f0,(nth qA.z l x).f1,(nth qA.z l x).f2,(nth qA.z l x).f3,(nth qA.z l x).f4,(nth qA.z l x).f5⟩:qA)).bind fun t44=>((qJ.f k acc t44).bind fun t47=>(if t47.2=true then (J k x t47 acc) else ((ofO (⟨(nth qA.z l x).f0,(nth qA.z l x).f1,(nth qA.z l x).f2,(nth qA.z l x).f3,(nth qA.z l x).f4,(nth qA.z l x).f5⟩:qA)).bind fun t53=>((qAA.f acc t47.1 [(⟨t53,0⟩:qB)]).bind fun t60=>(J k x t47 t60)))))) else (L k acc (w64 (x+1))))) else (none)) else (some acc)))
  (hJ:∀ k x t47 l70,J (k+1) x t47 l70=(if ((nth qA.z l x).f5)=true then (if 0<=t47.1/\t47.1<(l70.length:Int) then (L k (l70.set (t47.1).toNat (⟨(nth qB.z l70 t47.1).f0,(if (w64 ((nth qB.z l70 t47.1).f1+(nth qA.z l x).f3))<65536 then (w64 ((nth qB.z l70 t47.1).f1+(nth qA.z l x).f3)) else 65536)⟩:qB)) (w64 (x+1))) else (none)) else (L k l70 (w64 (x+1)))))
  (hl:l.length<=12) (hw:∀ n ∈ l,okW n):∀(d i:Nat),i+d=l.length->Ev (fun k=>L k (wL is of (l.take i)) (i:Int)) (wL is of l):=by
 intro d
 induction d with
 | zero =>
  intro i hi
  refine .s (fun k=>hL k _ _) (.n (by omega) (.cv ?_))
  rw [List.take_of_length_le (by omega)]
 | succ d ih =>
  intro i hi
  have h1:i<l.length:=by omega
  have ih:=ih (i+1) (by omega)
  obtain ⟨hW,hlen⟩:=wL_of is of l hw i (by omega)
  rw [qGi i h1]at ih
  have hn:=hw _ (gM h1)
  refine .s (fun k=>hL k _ _) (.t (by omega) (.t (by omega) ?_))
  rw [nth_get _ _ _ h1,w64n i (by omega)]
  generalize wL is of (l.take i)=v at hW hlen ih ⊢
  refine .b0 (his l[i]) ?_
  unfold wOne at ih
  by_cases hi1:is l[i]=true
  ·rw [if_pos hi1]at ih
   refine .t hi1 (.b0 (hof l[i]) (.b (search v (of l[i]) (by omega) hW.up) ?_))
   have hp:=qGg (of l[i]) v
   by_cases hf:∃ h:posn (of l[i]) v<v.length,v[posn (of l[i]) v].f0=of l[i]
   ·obtain ⟨hlt,he⟩:=hf
    rw [qHH _ _ v hlt he]at ih
    have hmem:=(hW.mem _).1 (gM hlt)
    have hs:=wSum_ge is of (l.take i) v[posn (of l[i]) v].f0 fun n hn=>hw n (List.mem_of_mem_take hn)
    have hb:0<=v[posn (of l[i]) v].f1/\v[posn (of l[i]) v].f1<=65536:=by
     have:=hmem.2
     unfold cap at this
     split at this <;> omega
    rw [List.getElem?_eq_getElem hlt]
    refine .t (by simpa using he) (.s (fun k=>hJ k _ _ _) ?_)
    dsimp only
    rw [nth_get _ _ _ h1,nth_get _ _ _ hlt,w64n i (by omega),tN]
    unfold weight at ih
    unfold okW at hn
    by_cases h5:l[i].f5=true
    ·rw [if_pos h5]at ih
     refine .t h5 (.t (by omega) ?_)
     rw [qCk (n:=v[posn (of l[i]) v].f1+l[i].f3) (by omega) (by omega)]
     simp only [he]
     exact ih
    ·rw [if_neg h5,Int.add_zero]at ih
     refine .n h5 ?_
     have e:v.set (posn (of l[i]) v) ⟨of l[i],if v[posn (of l[i]) v].f1<65536 then v[posn (of l[i]) v].f1 else 65536⟩=v:=by
      have:(⟨of l[i],if v[posn (of l[i]) v].f1<65536 then v[posn (of l[i]) v].f1 else 65536⟩:qB)=v[posn (of l[i]) v]:=by
       have e2:(if v[posn (of l[i]) v].f1<65536 then v[posn (of l[i]) v].f1 else 65536)=v[posn (of l[i]) v].f1:=by split <;> omega
       rw [e2]
       exact congrArg (fun z=>(⟨z,v[posn (of l[i]) v].f1⟩:qB)) he.symm
      rw [this,List.set_getElem_self]
     rw [e]at ih
     exact ih
   ·have hne:∀ h:posn (of l[i]) v<v.length,v[posn (of l[i]) v].f0≠of l[i]:=fun h e=>hf ⟨h,e⟩
    rw [qHI _ _ v hne]at ih
    refine .n ?_ (.b0 (hof l[i]) (.b0 (a:=v.take (posn (of l[i]) v)++(⟨of l[i],0⟩:qB) :: v.drop (posn (of l[i]) v)) ?_ (.s (fun k=>hJ k _ _ _) ?_)))
    ·by_cases h:posn (of l[i]) v<v.length
     ·rw [List.getElem?_eq_getElem h]
      simpa using hne h
     ·rw [List.getElem?_eq_none (by omega)]
      exact nF
    ·unfold qAA.f
     dsimp only
     rw [if_pos ⟨by omega,by omega,by omega⟩,tN]
    ·dsimp only
     have hq:posn (of l[i]) v<(v.take (posn (of l[i]) v)++(⟨of l[i],0⟩:qB) :: v.drop (posn (of l[i]) v)).length:=by
      rw [lA,List.length_take,List.length_cons,List.length_drop]
      omega
     have hg:(v.take (posn (of l[i]) v)++(⟨of l[i],0⟩:qB) :: v.drop (posn (of l[i]) v))[posn (of l[i]) v]=⟨of l[i],0⟩:=by
      rw [List.getElem_append_right (by rw [List.length_take]; omega)]
      simp only [List.length_take,Nat.min_eq_left hp,Nat.sub_self,List.getElem_cons_zero]
     rw [nth_get _ _ _ h1,nth_get _ _ _ hq,hg,w64n i (by omega),tN]
     unfold weight at ih
     unfold okW at hn
     by_cases h5:l[i].f5=true
     ·rw [if_pos h5]at ih
      refine .t h5 (.t (by omega) ?_)
      have e:(v.take (posn (of l[i]) v)++(⟨of l[i],0⟩:qB) :: v.drop (posn (of l[i]) v)).set (posn (of l[i]) v) (⟨of l[i],if w64 (0+l[i].f3)<65536 then w64 (0+l[i].f3) else 65536⟩:qB)=v.take (posn (of l[i]) v)++(⟨of l[i],l[i].f3⟩:qB) :: v.drop (posn (of l[i]) v):=by
       have e2:(if w64 (0+l[i].f3)<65536 then w64 (0+l[i].f3) else 65536)=l[i].f3:=by
        rw [qCk (by omega) (by omega)]
        split <;> omega
       rw [e2,List.set_append_right _ _ (by rw [List.length_take]; omega)]
       simp only [List.length_take,Nat.min_eq_left hp,Nat.sub_self,List.set_cons_zero]
      rw [e]
      exact ih
     ·rw [if_neg h5]at ih
      exact .n h5 ih
  ·rw [if_neg hi1]at ih
   exact .n hi1 ih
theorem qGj:∀(p:Int)(l:List qA),rise p l=true->(∀ n ∈ l,okN n)/\l.Pairwise (fun x y=>x.f0<y.f0)/\∀ n ∈ l,p<n.f0
 | p,[],_=>⟨(fun _ h=>nomatch h),List.Pairwise.nil,fun _ h=>nomatch h⟩
 | p,n :: l,h=>by
  rw [rise,Bool.and_eq_true,decide_eq_true_eq]at h
  obtain ⟨h1,h2,h3⟩:=qGj n.f0 l h.2
  refine ⟨fun m hm=>?_,List.pairwise_cons.2 ⟨h3,h2⟩,fun m hm=>?_⟩
  ·rcases List.mem_cons.1 hm with rfl | hm
   ·exact h.1.1
   ·exact h1 m hm
  ·rcases List.mem_cons.1 hm with rfl | hm
   ·exact h.1.2
   ·have:=h3 m hm; have:=h.1.2; omega
theorem Nodes.ok{l:List qA}(h:Nodes l):∀ n ∈ l,okN n:=(qGj 0 l h.2).1
theorem Nodes.up{l:List qA}(h:Nodes l):l.Pairwise (fun x y=>x.f0<y.f0):=(qGj 0 l h.2).2.1
theorem Nodes.okW{l:List qA}(h:Nodes l):∀ n ∈ l,okW n:=fun n hn=>(h.ok n hn).2.2.2
theorem wL_full(is:qA->Bool)(of:qA->Int){l:List qA}(h:Nodes l):WOf is of l (wL is of l)/\(wL is of l).length<=l.length:=by
 have:=wL_of is of l h.okW l.length (Nat.le_refl _)
 rwa [List.take_length]at this
theorem qKV{x:Int}(h:0<=x):0<=cap x/\cap x<=65536:=by
 unfold cap
 split <;> omega
theorem wL_chs(is:qA->Bool)(of:qA->Int){l:List qA}(h:Nodes l)(hof:∀ n,okN n->0<=of n/\of n<=999):Draw.Chs (wL is of l):=by
 obtain ⟨hW,hlen⟩:=wL_full is of h
 have hl:=h.1
 refine ⟨by omega,fun c hc=>?_,hW.up⟩
 obtain ⟨⟨n,hn,_,he⟩,h2⟩:=(hW.mem c).1 hc
 have:=hof n (h.ok n hn)
 have h3:=wSum_ge is of l c.f0 h.okW
 have h4:=qKV h3.1
 rw [h2]
 exact ⟨by omega,h4⟩
def isZ(_:qA):Bool:=true
def isR(z:Int)(n:qA):Bool:=n.f1 == z
def isL(z r:Int)(n:qA):Bool:=(z == 0||n.f1 == z)&&(r == 0||n.f2 == r)
def ofZ(n:qA):Int:=n.f1
def ofR(n:qA):Int:=n.f2
def ofL(n:qA):Int:=n.f0
theorem chk{l:List qA}(h:Nodes l):Ev (fun k=>qAU.f k l) 0:=(check l (by have:=h.1; omega)).v (by rw [dT h]; rfl)
theorem zones{l:List qA}(h:Nodes l):Ev (fun k=>qBy.f k l) (wL isZ ofZ l):=by
 have h2:=h.1
 unfold qBy.f qU.f
 refine .b (.b (chk h) (.t rfl ?_)) (.c _)
 exact qEd (isO:=qBz.f) (ofO:=qBl.f) (fun _=>rfl) (fun _=>rfl) l _ _ (fun k _ _=>qU.l19_s k l _ _) (fun k _ _ _=>qU.j72_s k l _ _ _) h.1 h.okW l.length 0 (by omega)
theorem racks{l:List qA}(h:Nodes l)(z:Int):Ev (fun k=>qCL.f k l z) (wL (isR z) ofR l):=by
 have h2:=h.1
 unfold qCL.f qV.f
 refine .b (.b (chk h) (.t rfl ?_)) (.c _)
 exact qEd (isO:=fun n=>qCA.f n z) (ofO:=qBm.f) (fun _=>rfl) (fun _=>rfl) l _ _ (fun k _ _=>qV.l19_s k l z _ _) (fun k _ _ _=>qV.j72_s k l z _ _ _) h.1 h.okW l.length 0 (by omega)
theorem isl(z r:Int)(n:qA):qBh.f n z r=some (isL z r n):=by
 unfold qBh.f isL
 by_cases h1:z=0
 ·by_cases h2:r=0
  ·simp [h1,h2]
  ·simp [h1,h2]
 ·by_cases h3:n.f1=z
  ·by_cases h2:r=0
   ·simp [h1,h2,h3]
   ·simp [h1,h2,h3]
  ·simp [h1,h3]
theorem leaves{l:List qA}(h:Nodes l)(z r:Int):Ev (fun k=>qCE.f k l z r) (wL (isL z r) ofL l):=by
 have h2:=h.1
 unfold qCE.f qR.f
 refine .b (.b (chk h) (.t rfl ?_)) (.c _)
 exact qEd (isO:=fun n=>qBh.f n z r) (ofO:=qBg.f) (isl z r) (fun _=>rfl) l _ _ (fun k _ _=>qR.l19_s k l z r _ _) (fun k _ _ _=>qR.j72_s k l z r _ _ _) h.1 h.okW l.length 0 (by omega)
end Topo
namespace Rule
theorem w64n(i:Nat)(h:i<9223372036854775807):w64 ((i:Int)+1)=((i+1:Nat):Int):=by rw [qCk (by omega) (by omega)]; omega
theorem nth_get{α : Type}(z : α)(l:List α)(i:Nat)(h:i<l.length):nth z l (i:Int)=l[i]:=by simp [nth,h]
def step(at_:Int)(s:qM):Option Int :=
 if s.f0=1 then (if at_ = -1/\s.f1=0/\s.f2=0 then some 0 else none)
 else if s.f0=3 then (if at_=3/\s.f1=0/\s.f2=0 then some (-1) else none)
 else if s.f0=2 then (if 0<=at_/\at_<s.f1/\s.f1<=3/\(s.f1=2->at_=1)/\1<=s.f2/\s.f2<=12 then some s.f1 else none)
 else none
theorem qKB{a b:Int}{s:qM}(ha : -1<=a)(h:step a s=some b): -1<=b:=by
 unfold step at h
 repeat' (split at h)
 all_goals first | (cases h; omega) | (cases h)
def goes:Int->List qM->Bool
 | _,[]=>true
 | a,s :: l=>match step a s with
  | some b=>goes b l
  | none=>false
def May(l:List qM):Prop:=(1<=l.length/\l.length<=8)/\goes (-1) l=true
instance (l:List qM):Decidable (May l):=inferInstanceAs (Decidable (_/\_))
theorem next(a:Int)(s:qM)(k:Nat)(ha : -1<=a):∃ b,qBV.f (k+1) a s=some (b,(step a s).isSome)/\∀ c,step a s=some c->b=c:=by
 unfold qBV.f step
 by_cases h1:s.f0=1
 ·simp only [if_pos h1]
  by_cases c1:a = -1
  ·by_cases c2:s.f1=0
   ·by_cases c3:s.f2=0
    ·exact ⟨0,by simp [c1,c2,c3],by simp [c1,c2,c3]⟩
    ·exact ⟨0,by simp [c1,c2,c3],by simp [c1,c2,c3]⟩
   ·exact ⟨0,by simp [c1,c2],by simp [c1,c2]⟩
  ·exact ⟨0,by simp [c1],by simp [c1]⟩
 ·simp only [if_neg h1]
  by_cases h3:s.f0=3
  ·simp only [if_pos h3]
   by_cases c1:a=3
   ·by_cases c2:s.f1=0
    ·by_cases c3:s.f2=0
     ·exact ⟨-1,by simp [c1,c2,c3],by simp [c1,c2,c3]⟩
     ·exact ⟨-1,by simp [c1,c2,c3],by simp [c1,c2,c3]⟩
    ·exact ⟨-1,by simp [c1,c2],by simp [c1,c2]⟩
   ·exact ⟨-1,by simp [c1],by simp [c1]⟩
  ·simp only [if_neg h3]
   by_cases h2:s.f0=2
   ·simp only [if_pos h2,qBV.j23_s]
    refine ⟨s.f1,?_,?_⟩
    ·by_cases c0:0<=a/\a<s.f1/\s.f1<=3/\(s.f1=2->a=1)/\1<=s.f2/\s.f2<=12
     ·rw [if_pos c0,if_pos (by omega),if_pos c0.2.2.1]
      have:(if s.f1=2 then (if a = -1 then (some (s.f1,false):Option (Int × Bool)) else (if (a == 1)=true then (if s.f2>=1 then some (s.f1,decide (s.f2<=12)) else some (s.f1,false)) else some (s.f1,false))) else (if a = -1 then some (s.f1,false) else (if true=true then (if s.f2>=1 then some (s.f1,decide (s.f2<=12)) else some (s.f1,false)) else some (s.f1,false))))=some (s.f1,true):=by
       obtain ⟨q1,q2,q3,q4,q5,q6⟩:=c0
       by_cases d:s.f1=2
       ·have:=q4 d
        simp [d,this,q5,q6]
       ·have:¬ a = -1:=by omega
        simp [d,this,q5,q6]
      exact this
     ·rw [if_neg c0]
      have key:∀ y:Bool,(y=true->¬ (0<=a/\1<=s.f2/\s.f2<=12))->(if a = -1 then (some (s.f1,false):Option (Int × Bool)) else (if y=true then (if s.f2>=1 then some (s.f1,decide (s.f2<=12)) else some (s.f1,false)) else some (s.f1,false)))=some (s.f1,false):=by
       intro y hy
       by_cases d:a = -1
       ·rw [if_pos d]
       ·rw [if_neg d]
        cases y with
        | false=>rfl
        | true =>
         rw [if_pos rfl]
         by_cases e1:s.f2>=1
         ·rw [if_pos e1,dF (fun e2=>hy rfl ⟨by omega,e1,e2⟩)]
         ·rw [if_neg e1]
      by_cases d1:s.f1>a
      ·rw [if_pos d1]
       by_cases d2:s.f1<=3
       ·rw [if_pos d2]
        by_cases d3:s.f1=2
        ·rw [if_pos d3]
         exact key _ fun hy hh=>c0 ⟨hh.1,d1,d2,fun _=>by simpa using hy,hh.2⟩
        ·rw [if_neg d3]
         simpa using key true fun _ hh=>c0 ⟨hh.1,d1,d2,fun e=>absurd e d3,hh.2⟩
       ·rw [if_neg d2]
        exact key _ fun hy=>by cases hy
      ·rw [if_neg d1]
       exact key _ fun hy=>by cases hy
    ·intro c hc
     split at hc
     ·exact Option.some.inj hc
     ·cases hc
   ·simp only [if_neg h2]
    exact ⟨-1,by simp,by simp⟩
theorem qIO(l:List qM)(hl:l.length<=1000):∀(d k i:Nat)(a:Int), -1<=a->i+d=l.length->d+1<k->qAt.l18 k l a (i:Int)=some (if goes a (l.drop i)=true then 0 else 1):=by
 intro d
 induction d with
 | zero =>
  intro k i a ha hi hk
  obtain ⟨k,rfl⟩:∃ m,k=m+1:=⟨k - 1,by omega⟩
  rw [qAt.l18_s,if_neg (by omega),List.drop_eq_nil_of_le (by omega)]
  rfl
 | succ d ih =>
  intro k i a ha hi hk
  obtain ⟨k,rfl⟩:∃ m,k=m+2:=⟨k - 2,by omega⟩
  have h1:i<l.length:=by omega
  rw [qAt.l18_s,if_pos (by omega),if_pos (by omega),nth_get _ _ _ h1,w64n i (by omega),List.drop_eq_getElem_cons h1]
  obtain ⟨b,hb,hc⟩:=next a (⟨l[i].f0,l[i].f1,l[i].f2⟩:qM) k ha
  rw [hb,Option.bind_some]
  dsimp only
  have hs:(⟨l[i].f0,l[i].f1,l[i].f2⟩:qM)=l[i]:=rfl
  rw [hs]at hc ⊢
  cases hst:step a l[i] with
  | none =>
   simp only [goes,hst,Option.isSome_none,Bool.false_eq_true,if_false]
  | some c =>
   obtain rfl:=hc c hst
   simp only [goes,hst,Option.isSome_some,if_true]
   exact ih (k+1) (i+1) b (qKB ha hst) (by omega) (by omega)
theorem check(l:List qM)(k:Nat)(hk:1100<k):qAt.f k l=some (if May l then 0 else 1):=by
 obtain ⟨k,rfl⟩:∃ m,k=m+1:=⟨k - 1,by omega⟩
 unfold qAt.f
 by_cases h0:(l.length:Int)=0
 ·rw [if_pos h0,qAt.j6_s,if_pos rfl,if_neg (fun h:May l=>by have:=h.1.1; omega)]
 ·rw [if_neg h0,qAt.j6_s]
  by_cases h8:(l.length:Int)>8
  ·rw [if_pos (dT h8),if_neg (fun h:May l=>by have:=h.1.2; omega)]
  ·rw [if_neg (by simpa using h8)]
   refine (qIO l (by omega) l.length k 0 (-1) (by omega) (by omega) (by omega)).trans ?_
   rw [List.drop_zero]
   by_cases h:goes (-1) l=true
   ·rw [if_pos h,if_pos (show May l from ⟨⟨by omega,by omega⟩,h⟩)]
   ·rw [if_neg h,if_neg (fun hh:May l=>h hh.2)]
theorem common(k:Nat)(n:Int):qBI.f (k+1) n=some (if 1<=n/\n<=3 then [(⟨1,0,0⟩:qM),⟨2,1,n⟩,⟨2,2,1⟩,⟨2,3,1⟩,⟨3,0,0⟩] else []):=by
 unfold qBI.f
 simp only [qBI.j6_s]
 by_cases h1:n<1
 ·rw [if_pos h1,if_pos trivial,if_neg (by omega)]
 ·rw [if_neg h1]
  by_cases h3:n>3
  ·rw [if_pos (dT h3),if_neg (by omega)]
  ·rw [if_neg (by simpa using h3),if_pos ⟨by omega,by omega⟩]
end Rule
namespace Place
def kids(l:List qA)(g:Int)(s:qM)(z r:Int):List Int :=
 (Draw.ord (Mixn.fold (Draw.un g) [Draw.un s.f1,Draw.un z,Draw.un r]) (if s.f1=1 then Topo.wL Topo.isZ Topo.ofZ l else if s.f1=2 then Topo.wL (Topo.isR z) Topo.ofR l else Topo.wL (Topo.isL z r) Topo.ofL l)).map fun x=>x.f0
def deeper(s:qM)(x:qd)(id:Int):qd:=if s.f1=1 then ⟨id,x.f1,x.f2⟩ else if s.f1=2 then ⟨x.f0,id,x.f2⟩ else ⟨x.f0,x.f1,id⟩
def chooseL(l:List qA)(g:Int)(s:qM)(x:qd):List qd:=((kids l g s x.f0 x.f1).take s.f2.toNat).map (deeper s x)
def emit(size:Int)(out:List Int)(x:qd):List Int:=if (out.length:Int)<size/\¬ x.f2 ∈ out then out++[x.f2] else out
def stepL(l:List qA)(g size:Int)(p:List qd × List Int)(s:qM):List qd × List Int :=
 if s.f0=1 then ([⟨0,0,0⟩],p.2) else if s.f0=2 then (p.1.flatMap (chooseL l g s),p.2) else ([],p.1.foldl (emit size) p.2)
def runL(l:List qA)(rule:List qM)(g size:Int):List Int:=(rule.foldl (stepL l g size) ([],[])).2
theorem fold_lt(s:Nat)(hs:s<18446744073709551616)(l:List Nat):Mixn.fold s l<18446744073709551616:=by
 unfold Mixn.fold
 have h0:=Mixn.mix_lt s
 generalize Mixn.mix s=x at h0 ⊢
 induction l generalizing x with
 | nil=>exact h0
 | cons a l ih=>exact ih _ (Mixn.step_lt _ _)
theorem qFg{l:List qA}(h:Topo.Nodes l)(g:Int)(s:qM)(z r:Int):(kids l g s z r).length<=12:=by
 have hl:=h.1
 unfold kids Draw.ord
 rw [List.length_map,qCz]
 refine Nat.le_trans (List.length_filter_le _ _) ?_
 split
 ·exact Nat.le_trans (Topo.wL_full _ _ h).2 hl
 ·split
  ·exact Nat.le_trans (Topo.wL_full _ _ h).2 hl
  ·exact Nat.le_trans (Topo.wL_full _ _ h).2 hl
theorem fold3(g a b c:Int):Ev (fun k=>qBb.f k (IntKind.u64.wrap g) [IntKind.u64.wrap a,IntKind.u64.wrap b,IntKind.u64.wrap c]) ((Mixn.fold (Draw.un g) [Draw.un a,Draw.un b,Draw.un c]:Nat):Int):=by
 have h:=Draw.fold (Draw.un g) (Draw.un_eq g).2 [Draw.un a,Draw.un b,Draw.un c] (fun x hx=>by
  simp only [List.mem_cons,List.not_mem_nil,or_false]at hx
  rcases hx with rfl | rfl | rfl <;> exact (Draw.un_eq _).2) (by simp)
 rw [(Draw.un_eq g).1,(Draw.un_eq a).1,(Draw.un_eq b).1,(Draw.un_eq c).1]
 exact h
theorem qEe{l:List qA}(h:Topo.Nodes l):Draw.Chs (Topo.wL Topo.isZ Topo.ofZ l):=Topo.wL_chs _ _ h fun n hn=>by unfold Topo.okN at hn; unfold Topo.ofZ; omega
theorem qGA{l:List qA}(h:Topo.Nodes l)(z:Int):Draw.Chs (Topo.wL (Topo.isR z) Topo.ofR l):=Topo.wL_chs _ _ h fun n hn=>by unfold Topo.okN at hn; unfold Topo.ofR; omega
theorem qFH{l:List qA}(h:Topo.Nodes l)(z r:Int):Draw.Chs (Topo.wL (Topo.isL z r) Topo.ofL l):=Topo.wL_chs _ _ h fun n hn=>by unfold Topo.okN at hn; unfold Topo.ofL; omega
theorem qHh(x:qd)(s:qM)(o:List Int)(n:Nat)(hn:n<=o.length)(ho:o.length<=12)(he:(if (o.length:Int)<s.f2 then (o.length:Int) else s.f2)=(n:Int)):∀(d i:Nat),i+d=n->Ev (fun k=>qAJ.l80 k x s o ((o.take i).map (deeper s x)) (i:Int)) ((o.take n).map (deeper s x)):=by
 have ec:cutl o 0 (n:Int)=o.take n:=by simp [cutl]
 have el:(o.take n).length=n:=by rw [List.length_take]; omega
 intro d
 induction d with
 | zero =>
  intro i hi
  refine .s (qAJ.l80_s · _ _ _ _ _) ?_
  rw [he,ec,el]
  refine .n (by omega) (.cv ?_)
  rw [show i=n by omega]
 | succ d ih =>
  intro i hi
  have ih:=ih (i+1) (by omega)
  have h1:i<o.length:=by omega
  have h2:i<(o.take n).length:=by omega
  refine .s (qAJ.l80_s · _ _ _ _ _) ?_
  rw [he,ec,el,nth_get _ _ _ h2,List.getElem_take]
  rw [← List.take_append_getElem h1,List.map_append,List.map_singleton]at ih
  unfold deeper at ih ⊢
  have hq:((o.take i).map (deeper s x)).length<=12:=by rw [List.length_map,List.length_take]; omega
  unfold deeper at hq
  refine .t (by omega) (.t (by omega) ?_)
  refine .i (fun c=>?_) fun c=>?_
  ·refine .s (qAJ.j110_s · _ _ _ _ _ _ _ _) (.t (by omega) ?_)
   rw [w64n i (by omega)]
   rwa [if_pos c]at ih
  ·rw [if_neg c]at ih
   refine .i (fun c=>?_) fun c=>?_
   ·refine .s (qAJ.j110_s · _ _ _ _ _ _ _ _) (.t (by omega) ?_)
    rw [w64n i (by omega)]
    rwa [if_pos c]at ih
   ·refine .s (qAJ.j110_s · _ _ _ _ _ _ _ _) (.t (by omega) ?_)
    rw [w64n i (by omega)]
    rwa [if_neg c]at ih
theorem choose{l:List qA}(h:Topo.Nodes l)(x:qd)(s:qM)(g:Int)(hs:1<=s.f2):Ev (fun k=>qAJ.f k l x s g) (chooseL l g s x):=by
 have hk:=qFg h g s x.f0 x.f1
 have hj:∀ c,Draw.Chs c->kids l g s x.f0 x.f1=(Draw.ord (Mixn.fold (Draw.un g) [Draw.un s.f1,Draw.un x.f0,Draw.un x.f1]) c).map (fun x=>x.f0)->Ev (fun k=>qAJ.j42 k x s g c) (chooseL l g s x):=by
  intro c hc e
  refine .s (qAJ.j42_s · _ _ _ _) (.b (fold3 g s.f1 x.f0 x.f1) (.b (Draw.order _ (fold_lt _ (Draw.un_eq g).2 _) c hc) ?_))
  rw [← e]
  unfold chooseL
  generalize kids l g s x.f0 x.f1=o at hk ⊢
  have he:(if (o.length:Int)<s.f2 then (o.length:Int) else s.f2)=((min s.f2.toNat o.length:Nat):Int):=by
   split <;> omega
  rw [he]
  refine .t (by omega) ?_
  have:=qHh x s o (min s.f2.toNat o.length) (by omega) hk he (min s.f2.toNat o.length) 0 (by omega)
  rw [← List.take_eq_take_min]at this
  exact this
 unfold qAJ.f
 have hz:=qEe h
 have hr:=qGA h x.f0
 have hv:=qFH h x.f0 x.f1
 unfold kids at hj
 refine .i (fun c=>.b (Topo.zones h) (hj _ hz (by rw [if_pos c]))) fun c=>.i (fun c2=>.b (Topo.racks h _) (hj _ hr (by rw [if_neg c,if_pos c2]))) fun c2=>.b (Topo.leaves h _ _) (hj _ hv (by rw [if_neg c,if_neg c2]))
theorem qIP{a:Int}{s:qM}{r:List qM}(h:Rule.goes a (s :: r)=true):∃ b,Rule.goes b r=true/\((s.f0=1/\a = -1/\b=0)\/(s.f0=2/\(1<=s.f1/\s.f1<=3)/\(1<=s.f2/\s.f2<=12)/\b=s.f1/\0<=a)\/(s.f0=3/\b = -1/\a=3)):=by
 unfold Rule.goes at h
 split at h
 ·rename_i b hb
  refine ⟨b,h,?_⟩
  unfold Rule.step at hb
  by_cases c1:s.f0=1
  ·rw [if_pos c1]at hb
   split at hb
   ·cases hb; exact .inl ⟨c1,by omega,rfl⟩
   ·cases hb
  ·rw [if_neg c1]at hb
   by_cases c3:s.f0=3
   ·rw [if_pos c3]at hb
    split at hb
    ·cases hb; exact .inr (.inr ⟨c3,rfl,by omega⟩)
    ·cases hb
   ·rw [if_neg c3]at hb
    split at hb
    ·split at hb
     ·cases hb; exact .inr (.inl ⟨by assumption,by omega,by omega,rfl,by omega⟩)
     ·cases hb
    ·cases hb
 ·cases h
theorem qDu{α β : Type}(f : α->List β)(hf:∀ x,(f x).length<=12):∀ l:List α,(l.flatMap f).length<=12 * l.length
 | []=>Nat.le_refl _
 | x :: l=>by
  have:=qDu f hf l
  have:=hf x
  rw [List.flatMap_cons,lA,List.length_cons]
  omega
theorem qDJ{l:List qA}(h:Topo.Nodes l)(g:Int)(s:qM)(x:qd):(chooseL l g s x).length<=12:=by
 unfold chooseL
 rw [List.length_map,List.length_take]
 have:=qFg h g s x.f0 x.f1
 omega
theorem qGB{α β : Type}(f : α->List β)(l:List α)(i:Nat)(h:i<l.length):(l.take (i+1)).flatMap f=(l.take i).flatMap f++f l[i]:=by
 rw [← List.take_append_getElem h,List.flatMap_append]
 simp
theorem qKC {l:List qA} (h:Topo.Nodes l) (rule:List qM) (g size:Int) (hand:List qd) (out:List Int) (i:Nat) (hi:i<rule.length) (hs:1<=rule[i].f2) (hh:hand.length<=429981696) {v:List Int × Int}
  (hv:Ev (fun k=>qAD.l38 k l rule g size (hand.flatMap (chooseL l g rule[i])) out (w64 ((i:Int)+1))) v):∀(d j:Nat),j+d=hand.length->Ev (fun k=>qAD.l73 k l rule g size hand out (i:Int) ((hand.take j).flatMap (chooseL l g rule[i])) (j:Int)) v:=by
 intro d
 induction d with
 | zero =>
  intro j hj
  refine .s (qAD.l73_s · _ _ _ _ _ _ _ _ _) (.n (by omega) ?_)
  rw [List.take_of_length_le (by omega)]
  exact hv
 | succ d ih =>
  intro j hj
  have h1:j<hand.length:=by omega
  have ih:=ih (j+1) (by omega)
  rw [qGB _ _ _ h1]at ih
  have hlen:=qDu (chooseL l g rule[i]) (qDJ h g rule[i]) (hand.take j)
  have hlen2:=qDJ h g rule[i] hand[j]
  rw [List.length_take]at hlen
  refine .s (qAD.l73_s · _ _ _ _ _ _ _ _ _) (.t (by omega) (.t (by omega) ?_))
  rw [nth_get _ _ _ h1,nth_get _ _ _ hi,w64n j (by omega)]
  exact .b (choose h hand[j] rule[i] g hs) (.t (by omega) ih)
theorem qDv(size:Int)(hand:List qd):∀ out:List Int,(out.length:Int)<=size->((hand.foldl (emit size) out).length:Int)<=size:=by
 induction hand with
 | nil=>exact fun _ h=>h
 | cons x r ih =>
  intro out h
  refine ih _ ?_
  unfold emit
  split
  ·rw [lA,List.length_singleton]; omega
  ·exact h
theorem qFI{α β : Type}(f : β->α->β)(b : β)(l:List α)(i:Nat)(h:i<l.length):(l.take (i+1)).foldl f b=f ((l.take i).foldl f b) l[i]:=by
 rw [← List.take_append_getElem h,List.foldl_append]
 rfl
theorem qJO (l:List qA) (rule:List qM) (g size:Int) (hz:size<=3) (hand:List qd) (out:List Int) (ho:(out.length:Int)<=size) (i:Nat) (hh:hand.length<=429981696) {v:List Int × Int}
  (hv:Ev (fun k=>qAD.l38 k l rule g size [] (hand.foldl (emit size) out) (w64 ((i:Int)+1))) v):∀(d j:Nat),j+d=hand.length->Ev (fun k=>qAD.l111 k l rule g size hand (i:Int) ((hand.take j).foldl (emit size) out) (j:Int)) v:=by
 intro d
 induction d with
 | zero =>
  intro j hj
  refine .s (qAD.l111_s · _ _ _ _ _ _ _ _) (.n (by omega) ?_)
  rw [List.take_of_length_le (by omega)]
  exact hv
 | succ d ih =>
  intro j hj
  have h1:j<hand.length:=by omega
  have ih:=ih (j+1) (by omega)
  rw [qFI _ _ _ _ h1]at ih
  have hlen:=qDv size (hand.take j) out ho
  generalize (hand.take j).foldl (emit size) out=q at ih hlen ⊢
  have hj:∀ y:Bool,y=decide ((q.length:Int)<size/\¬ hand[j].f2 ∈ q)->Ev (fun k=>qAD.j135 k l rule g size hand (i:Int) q (j:Int) y) v:=by
   intro y hy
   subst hy
   refine .s (qAD.j135_s · _ _ _ _ _ _ _ _ _) ?_
   rw [nth_get _ _ _ h1,w64n j (by omega)]
   unfold emit at ih
   refine .i (fun c=>?_) fun c=>?_
   ·rw [if_pos (oT c)]at ih
    exact .t (by omega) ih
   ·rw [if_neg (fun e=>c (dT e))]at ih
    exact ih
  refine .s (qAD.l111_s · _ _ _ _ _ _ _ _) (.t (by omega) (.t (by omega) ?_))
  rw [nth_get _ _ _ h1]
  refine .i (fun c=>.b (Topo.contains q hand[j].f2 (by omega)) (hj _ ?_)) fun c=>hj _ ?_
  ·by_cases c2:hand[j].f2 ∈ q
   ·simp [c2]
   ·simp [c,c2]
  ·simp [c]
theorem qKD{l:List qA}(h:Topo.Nodes l)(rule:List qM)(hr:rule.length<=8)(g size:Int)(hz:size<=3):∀(d i:Nat)(hand:List qd)(out:List Int)(a:Int),i+d=rule.length->hand.length<=12 ^ i->(out.length:Int)<=size->Rule.goes a (rule.drop i)=true->Ev (fun k=>qAD.l38 k l rule g size hand out (i:Int)) (((rule.drop i).foldl (stepL l g size) (hand,out)).2,0):=by
 intro d
 induction d with
 | zero =>
  intro i hand out a hi _ _ _
  refine .s (qAD.l38_s · _ _ _ _ _ _ _) (.n (by omega) (.cv ?_))
  rw [List.drop_eq_nil_of_le (by omega)]
  rfl
 | succ d ih =>
  intro i hand out a hi hh ho hg
  have h1:i<rule.length:=by omega
  have hp:hand.length<=429981696:=Nat.le_trans hh (Nat.le_trans (Nat.pow_le_pow_right (by omega) (show i<=8 by omega)) (by decide))
  have h12:0<12 ^ i:=Nat.pow_pos (by omega)
  rw [List.drop_eq_getElem_cons h1]at hg ⊢
  obtain ⟨b,hb,hc⟩:=qIP hg
  rw [List.foldl_cons]
  refine .s (qAD.l38_s · _ _ _ _ _ _ _) (.t (by omega) (.t (by omega) ?_))
  rw [nth_get _ _ _ h1]
  rcases hc with ⟨c1,_,_⟩ | ⟨c1,c2,c3,_,_⟩ | ⟨c1,_,_⟩
  ·refine .t c1 ?_
   rw [w64n i (by omega),stepL,if_pos c1]
   exact ih (i+1) _ _ b (by omega) (by rw [Nat.pow_succ,List.length_singleton]; omega) ho hb
  ·refine .n (by omega) (.t c1 ?_)
   rw [stepL,if_neg (by omega),if_pos c1]
   refine qKC h rule g size hand out i h1 c3.1 hp ?_ hand.length 0 (by omega)
   rw [w64n i (by omega)]
   refine ih (i+1) _ _ b (by omega) ?_ ho hb
   have:=qDu (chooseL l g rule[i]) (qDJ h g rule[i]) hand
   rw [Nat.pow_succ]
   omega
  ·refine .n (by omega) (.n (by omega) ?_)
   rw [stepL,if_neg (by omega),if_neg (by omega)]
   refine qJO l rule g size hz hand out ho i hp ?_ hand.length 0 (by omega)
   rw [w64n i (by omega)]
   exact ih (i+1) _ _ b (by omega) (Nat.zero_le _) (qDv size hand out ho) hb
def mayRun(l:List qA)(rule:List qM)(g size:Int):Prop:=Topo.Nodes l/\Rule.May rule/\(0<=g/\g<8)/\1<=size/\size<=3
instance (l:List qA) (rule:List qM) (g size:Int):Decidable (mayRun l rule g size):=inferInstanceAs (Decidable (_/\_))
theorem run(l:List qA)(rule:List qM)(g size:Int):Ev (fun k=>qAD.f k l rule g size) (if mayRun l rule g size then (runL l rule g size,0) else ([],1)):=by
 have hc:Ev (fun k=>qAt.f k rule) (if Rule.May rule then 0 else 1):=⟨1101,fun k hk=>Rule.check rule k (by omega)⟩
 have hj:∀ y:Bool,y=decide (¬ (1<=size/\size<=3))->Topo.Nodes l->Rule.May rule->(0<=g/\g<8)->Ev (fun k=>qAD.j16 k l rule g size y) (if mayRun l rule g size then (runL l rule g size,0) else ([],1)):=by
  intro y hy h1 h2 h3
  subst hy
  refine .s (qAD.j16_s · _ _ _ _ _) ?_
  refine .i (fun c=>?_) fun c=>?_
  ·rw [if_neg (fun e=>oT c e.2.2.2)]
   exact .c _
  ·have c:1<=size/\size<=3:=Decidable.not_not.1 (fun e=>c (dT e))
   rw [if_pos ⟨h1,h2,h3,c⟩]
   exact qKD h1 rule h2.1.2 g size c.2 rule.length 0 [] [] (-1) (by omega) (Nat.zero_le _) (by have:=c.1; show ((0:Nat):Int)<=size; omega) h2.2
 have hn:¬ mayRun l rule g size->Ev (fun k=>qAD.j16 k l rule g size true) (if mayRun l rule g size then (runL l rule g size,0) else ([],1)):=by
  intro c
  rw [if_neg c]
  exact .s (qAD.j16_s · _ _ _ _ _) (.t rfl (.c _))
 unfold qAD.f
 refine .b (Topo.check' l) ?_
 by_cases h1:Topo.Nodes l
 ·rw [dT h1]
  refine .t rfl (.b hc ?_)
  by_cases h2:Rule.May rule
  ·rw [if_pos h2]
   refine .t rfl (.i (fun c=>hn fun e=>by have:=e.2.2.1; omega) fun c=>.i (fun c=>hn fun e=>by have:=e.2.2.1; omega) fun c2=>.i (fun c=>hn fun e=>by have:=e.2.2.2; omega) fun c3=>hj _ ?_ h1 h2 ⟨by omega,by omega⟩)
   rw [decide_eq_decide]
   omega
  ·rw [if_neg h2]
   exact .n (by decide) (hn fun e=>h2 e.2.1)
 ·rw [dF h1]
  exact .n (by decide) (hn fun e=>h1 e.1)
theorem qGC(l:List qA)(g size:Int):∀(rule:List qM)(p:List qd × List Int),(p.2.length:Int)<=size->((rule.foldl (stepL l g size) p).2.length:Int)<=size
 | [],_,h=>h
 | s :: r,p,h=>by
  refine qGC l g size r _ ?_
  unfold stepL
  split
  ·exact h
  ·split
   ·exact h
   ·exact qDv size _ _ h
theorem qKW(l:List qA)(rule:List qM)(g size:Int)(h:1<=size):((runL l rule g size).length:Int)<=size:=qGC l g size rule ([],[]) (by show ((0:Nat):Int)<=size; omega)
end Place
namespace Draw
theorem shift(x:Nat)(hx:x<18446744073709551616):qBA.f (x:Int)=some ((Mixn.sh x:Nat):Int):=by
 unfold qBA.f
 have e2:Int.tdiv (x:Int) 4294967296=((x / 4294967296:Nat):Int):=by rw [Int.tdiv_eq_ediv_of_nonneg (Int.natCast_nonneg _),Int.natCast_ediv]; rfl
 have e4:Int.tmod (x:Int) 4294967296=((x % 4294967296:Nat):Int):=by rw [Int.tmod_eq_emod_of_nonneg (Int.natCast_nonneg _),Int.natCast_emod]; rfl
 have hl:(x % 4294967296) ^^^ (x / 4294967296)<2 ^ 32:=Nat.xor_lt_two_pow (by omega) (by omega)
 rw [e2,u64n _ (by omega),e4,qGf _ _ (by omega) (by omega),Mixn.sh_split hx]
 congr 1
 generalize (x % 4294967296) ^^^ (x / 4294967296)=l at *
 have h6:x / 4294967296<4294967296:=by omega
 generalize x / 4294967296=h at *
 rw [IntKind.wrap_u64,IntKind.wrap_u64]
 omega
theorem refmix(x:Nat)(hx:x<18446744073709551616):qBO.f (x:Int)=some ((Mixn.mix x:Nat):Int):=by
 unfold qBO.f
 rw [shift x hx,Option.bind_some,mf_i,shift _ (Mixn.mf_lt _),Option.bind_some,mf_i,shift _ (Mixn.mf_lt _),Option.bind_some]
 rfl
theorem qGk(l:List Nat)(hl:∀ x ∈ l,x<18446744073709551616)(hn:l.length<4611686018427387904):∀(d i s:Nat),i+d=l.length->s<18446744073709551616->Ev (fun k=>qAT.l10 k (ofN l) (s:Int) (i:Int)) (((l.drop i).foldl Mixn.step s:Nat):Int):=by
 have hlen:(ofN l).length=l.length:=List.length_map ..
 intro d
 induction d with
 | zero =>
  intro i s hi hs
  refine .s (qAT.l10_s · _ _ _) (.n (by omega) (.cv ?_))
  rw [List.drop_eq_nil_of_le (by omega)]
  rfl
 | succ d ih =>
  intro i s hi hs
  have h1:i<l.length:=by omega
  refine .s (qAT.l10_s · _ _ _) (.t (by omega) (.t (by omega) ?_))
  rw [nth_get _ _ _ (by omega),qII,qJk s _ hs (hl _ (gM h1)),w64n i (by omega),List.drop_eq_getElem_cons h1]
  exact .b0 (refmix _ (Nat.mod_lt _ (by decide))) (ih (i+1) _ (by omega) (Mixn.step_lt _ _))
theorem reffold(s:Nat)(hs:s<18446744073709551616)(l:List Nat)(hl:∀ x ∈ l,x<18446744073709551616)(hn:l.length<4611686018427387904):Ev (fun k=>qAT.f k (s:Int) (ofN l)) ((Mixn.fold s l:Nat):Int):=by
 unfold qAT.f
 exact .b0 (refmix s hs) (qGk l hl hn l.length 0 _ (by omega) (Mixn.mix_lt _))
theorem qKE:∀(d z f i:Nat),i+d=16->z<=2147483648->f<2 ^ i->Ev (fun k=>ql.l27 k (z:Int) (f:Int) (i:Int)) ((Negn.bitsOf d z f:Nat):Int):=by
 intro d
 induction d with
 | zero=>exact fun z f i hi hz hf=>.s (ql.l27_s · _ _ _) (.n (by omega) (.c _))
 | succ d ih =>
  intro z f i hi hz hf
  have hp:=p16 i (by omega)
  have hp2:2 ^ (i+1)=2 * 2 ^ i:=by rw [Nat.pow_succ,Nat.mul_comm]
  obtain ⟨e1,h1⟩:=qJl z hz
  have w2:w64 (2 * (f:Int))=((2 * f:Nat):Int):=by rw [qCk (by omega) (by omega)]; omega
  have w3:w64 (((2 * f:Nat):Int)+1)=((2 * f+1:Nat):Int):=w64n _ (by omega)
  refine .s (ql.l27_s · _ _ _) (.t (by omega) ?_)
  rw [e1,w2,w3,w64n i (by omega),Negn.bitsOf]
  clear w2 w3 e1
  generalize z * z / 2147483648=y at *
  by_cases cy:y<=1073741824
  ·have w4:IntKind.u64.wrap (2 * (y:Int))=((2 * y:Nat):Int):=by rw [IntKind.wrap_u64]; omega
   rw [if_pos cy]
   refine .t (by omega) ?_
   rw [w4]
   exact ih (2 * y) (2 * f+1) (i+1) (by omega) (by omega) (by omega)
  ·rw [if_neg cy]
   exact .n (by omega) (ih y (2 * f) (i+1) (by omega) (by omega) (by omega))
theorem qGl:∀(d u:Nat),32768<u * 2 ^ d->1<=u->u<=65536->d<=16->Ev (fun k=>ql.f k (u:Int)) ((Negn.cst (d+1) u:Nat):Int):=by
 have start:∀(u:Nat)(v:Int),1<=u->u<=65536->Ev (fun k=>ql.j6 k (u:Int) false) v->Ev (fun k=>ql.f k (u:Int)) v:=by
  intro u v h1 h2 h
  refine .s (fun k=>by rw [ql.f]) (.n (by omega) ?_)
  rw [dF (by omega)]
  exact h
 have base:∀(u n:Nat),32768<u->u<=65536->Ev (fun k=>ql.f k (u:Int)) ((Negn.cst (n+1) u:Nat):Int):=by
  intro u n h h1
  have w1:IntKind.u64.wrap (IntKind.u64.wrap (u:Int) * 32768)=((u * 32768:Nat):Int):=by rw [u64n _ (by omega),IntKind.wrap_u64]; omega
  refine start u _ (by omega) h1 (.s (ql.j6_s · _ _) (.n (by decide) (.n (by omega) ?_)))
  rw [w1,Negn.cst_succ,if_neg (by omega)]
  exact qKE 16 (u * 32768) 0 0 (by omega) (by omega) (by decide)
 intro d
 induction d with
 | zero =>
  intro u h h0 h1 hd
  rw [Nat.pow_zero,Nat.mul_one]at h
  exact base u 0 h h1
 | succ d ih =>
  intro u h h0 h1 hd
  by_cases cu:u<=32768
  ·have h2:u * 2 ^ (d+1)=2 * u * 2 ^ d:=by rw [Nat.pow_succ,Nat.mul_comm (2 ^ d) 2,← Nat.mul_assoc,Nat.mul_comm u 2]
   have w1:w64 (2 * (u:Int))=((2 * u:Nat):Int):=by rw [qCk (by omega) (by omega)]; omega
   have hc:=Negn.cst_le (d+1) (2 * u)
   refine start u _ h0 h1 (.s (ql.j6_s · _ _) (.n (by decide) (.t (by omega) ?_)))
   rw [w1]
   refine .b (ih (2 * u) (by omega) (by omega) (by omega) (by omega)) (.cv ?_)
   have e:=Negn.cst_succ (d+1) u
   rw [if_pos cu]at e
   rw [e,qCk (by omega) (by omega)]
   omega
  ·exact base u (d+1) (by omega) h1
theorem refcost(a:Int):Ev (fun k=>ql.f k a) (costI a):=by
 by_cases h:1<=a/\a<=65536
 ·obtain ⟨u,rfl⟩:∃ u:Nat,a=u:=⟨a.toNat,by omega⟩
  rw [costI,if_pos h,tN]
  exact qGl 16 u (by omega) (by omega) (by omega) (by omega)
 ·have hbad:Ev (fun k=>ql.j6 k a true) (costI a):=.s (ql.j6_s · _ _) (.t rfl (.cv (if_neg h).symm))
  refine .s (fun k=>by rw [ql.f]) (.i (fun _=>hbad) fun h2=>?_)
  rw [dT (by omega)]
  exact hbad
theorem refdcost(key:Nat)(hkey:key<18446744073709551616)(id:Int):Ev (fun k=>qBJ.f k (key:Int) id) (dc key id):=by
 have hlt:=fold_lt key (un id)
 have h1:=reffold key hkey [un id] (fun x hx=>by rw [List.mem_singleton.1 hx]; exact (un_eq id).2) (by simp)
 unfold qBJ.f
 rw [(un_eq id).1]
 refine .b h1 ?_
 have e:IntKind.u64.wrap (((Mixn.fold key [un id]:Nat):Int).tdiv 281474976710656)=((Mixn.fold key [un id] / 281474976710656:Nat):Int):=by
  rw [Int.tdiv_eq_ediv_of_nonneg (by omega),IntKind.wrap_u64]
  omega
 rw [e,qCk (n:=((Mixn.fold key [un id] / 281474976710656:Nat):Int)) (by omega) (by omega),qCk (by omega) (by omega)]
 exact .b (refcost _) (.c _)
theorem qKF(key:Nat)(hkey:key<18446744073709551616)(l:List qB)(h:Chs l):∀(d i:Nat)(a:Int),i+d=l.length->((a = -1/\heavy (l.take i)=[])\/∃ n:Nat,n<i/\a=n/\∃ hn:n<l.length,isBest key (l.take i) l[n]) ->
  Ht (fun k=>qz.l7 k (key:Int) l a (i:Int)) (fun w=>(w=(0,false)/\heavy l=[])\/∃ m,isBest key l m/\w=(m.f0,true)):=by
 have hl:=h.len
 intro d
 induction d with
 | zero =>
  intro i a hi hI
  rw [List.take_of_length_le (by omega)]at hI
  refine .s (qz.l7_s · _ _ _ _) (.n (by omega) ?_)
  rcases hI with ⟨rfl,e⟩ | ⟨n,hn,rfl,hnl,hb⟩
  ·exact .t (by decide) (.c (.inl ⟨rfl,e⟩))
  ·refine .n (by omega) (.t (by omega) (.c (.inr ⟨_,hb,?_⟩)))
   rw [nth_get _ _ _ hnl]
 | succ d ih =>
  intro i a hi hI
  have h1:i<l.length:=by omega
  have hx:=h.ok _ (gM h1)
  have ih:=fun b=>ih (i+1) b (by omega)
  rw [qFG l i h1]at ih
  unfold isBest at ih
  rw [qFG l i h1]at ih
  refine .s (qz.l7_s · _ _ _ _) (.t (by omega) (.t (by omega) ?_))
  rw [nth_get _ _ _ h1,w64n i (by omega)]
  by_cases h0:l[i].f1=0
  ·refine .t h0 (ih a ?_)
   rw [if_pos h0,List.append_nil]
   rcases hI with ⟨e1,e2⟩ | ⟨n,hn,e1,hnl,hb⟩
   ·exact .inl ⟨e1,e2⟩
   ·exact .inr ⟨n,by omega,e1,hnl,hb⟩
  ·refine .n h0 ?_
   rw [if_neg h0]at ih
   rcases hI with ⟨rfl,e2⟩ | ⟨n,hn,rfl,hnl,hb⟩
   ·refine .t (by decide) (.s (qz.j45_s · _ _ _ _ _) (.t rfl ?_))
    rw [w64n i (by omega)]
    refine ih _ (.inr ⟨i,by omega,rfl,h1,?_⟩)
    rw [e2]
    exact ⟨by simp,fun y hy=>.inl (by simpa using hy)⟩
   ·have hy:=h.ok _ (gM hnl)
    have hyw:l[n].f1≠0:=by simpa using (List.mem_filter.1 hb.1).2
    have hup:l[n].f0<l[i].f0:=List.pairwise_iff_getElem.1 h.up n i hnl h1 hn
    have c1:=qEN key l[i].f0
    have c2:=qEN key l[n].f0
    refine .n (by omega) (.t (by omega) (.e (refdcost key hkey _) ?_))
    rw [nth_get _ _ _ hnl]
    refine .e (refdcost key hkey _) (.s (qz.j45_s · _ _ _ _ _) ?_)
    rw [qFe c1.1 c1.2 (by omega) (by omega),qFe c2.1 c2.2 (by omega) (by omega),w64n i (by omega)]
    have fi:fineC l[i]:=⟨hx.1,by omega,hx.2.2⟩
    have fn:fineC l[n]:=⟨hy.1,by omega,hy.2.2⟩
    have hsub:∀ z ∈ heavy (l.take i),fineC z:=fun z hz=>(qEA h).1 z (List.mem_filter.2 ⟨List.mem_of_mem_take (List.mem_filter.1 hz).1,(List.mem_filter.1 hz).2⟩)
    refine .i (fun hlt=>ih _ (.inr ⟨i,by omega,rfl,h1,by simp,fun z hz=>?_⟩)) fun hlt=>ih _ (.inr ⟨n,by omega,rfl,hnl,List.mem_append.2 (.inl hb.1),fun z hz=>?_⟩)
    ·have hlt:ltD key l[i] l[n]:=.inl (oT hlt)
     rcases List.mem_append.1 hz with hz | hz
     ·rcases hb.2 z hz with rfl | h3
      ·exact .inr hlt
      ·exact .inr (qDO fi fn (hsub z hz) hlt h3)
     ·exact .inl (by simpa using hz)
    ·have hlt:¬ (dc key l[i].f0 * l[n].f1<dc key l[n].f0 * l[i].f1):=fun e=>hlt (dT e)
     rcases List.mem_append.1 hz with hz | hz
     ·exact hb.2 z hz
     ·obtain rfl:z=l[i]:=by simpa using hz
      exact .inr (Or.inr ⟨Int.not_lt.1 hlt,hup⟩)
theorem qGm(l:List qB)(id:Int)(hl:l.length<=64):∀(d i:Nat),i+d=l.length->Ev (fun k=>qAQ.l14 k l id ((l.take i).filter fun x => !(x.f0 == id)) (i:Int)) (l.filter fun x => !(x.f0 == id)):=by
 intro d
 induction d with
 | zero =>
  intro i hi
  refine .s (qAQ.l14_s · _ _ _ _) (.n (by omega) (.cv ?_))
  rw [List.take_of_length_le (by omega)]
 | succ d ih =>
  intro i hi
  have h1:i<l.length:=by omega
  have ih:=ih (i+1) (by omega)
  have hlen:((l.take i).filter fun x => !(x.f0 == id)).length<=i:=Nat.le_trans (List.length_filter_le _ _) (by rw [List.length_take]; omega)
  rw [← List.take_append_getElem h1,List.filter_append]at ih
  refine .s (qAQ.l14_s · _ _ _ _) (.t (by omega) (.t (by omega) ?_))
  rw [nth_get _ _ _ h1,w64n i (by omega)]
  refine .i (fun c=>?_) fun c=>.t (by omega) ?_
  ·simpa [c] using ih
  ·simpa [c] using ih
theorem without(l:List qB)(id:Int)(hl:l.length<=64):Ev (fun k=>qAQ.f k l id) (l.filter fun x => !(x.f0 == id)):=qGm l id hl l.length 0 (by omega)
theorem qGD(key:Nat)(hkey:key<18446744073709551616)(l0:List qB)(hl0:l0.length<=64):∀(d i:Nat)(l:List qB)(o:List Int),i+d=l0.length->o.length<=i->Chs l->(heavy l).length<=d->Ev (fun k=>qAc.l20 k (key:Int) l0 l o (i:Int)) (o++(ord key l).map fun x=>x.f0):=by
 intro d
 induction d with
 | zero =>
  intro i l o hi ho h hd
  refine .s (qAc.l20_s · _ _ _ _ _) (.n (by omega) (.cv ?_))
  have:ord key l=[]:=List.length_eq_zero_iff.1 (by unfold ord; rw [qCz]; omega)
  rw [this,List.map_nil,List.append_nil]
 | succ d ih =>
  intro i l o hi ho h hd
  obtain ⟨w,hw,hP⟩:=qKF key hkey l h l.length 0 (-1) (by omega) (.inl ⟨rfl,rfl⟩)
  refine .s (qAc.l20_s · _ _ _ _ _) (.t (by omega) (.b (a:=w) ?_ ?_))
  ·exact hw
  ·rcases hP with ⟨rfl,e⟩ | ⟨m,hm,rfl⟩
   ·refine .n (by decide) (.cv ?_)
    unfold ord
    rw [e]
    exact (List.append_nil _).symm
   ·refine .t rfl (.t (by omega) (.b (without l m.f0 h.len) ?_))
    rw [w64n i (by omega)]
    have hlen:(heavy (l.filter fun x => !(x.f0 == m.f0))).length<=d:=by
     have:=(qFf (heavy l) m (heavy_up h) hm.1).length_eq
     rw [qEL]
     rw [List.length_cons]at this
     omega
    refine (ih (i+1) _ (o++[m.f0]) (by omega) (by rw [lA,List.length_singleton]; omega) (h.filter _) hlen).v ?_
    rw [qHg key h hm,List.map_cons,List.append_assoc]
    rfl
theorem reforder(key:Nat)(hkey:key<18446744073709551616)(l:List qB)(h:Chs l):Ev (fun k=>qAc.f k (key:Int) l) ((ord key l).map fun x=>x.f0):=by
 have hl:=h.len
 have:=qGD key hkey l h.len l.length 0 l [] (by omega) (by simp) h (List.length_filter_le _ _)
 exact this
end Draw
namespace Topo
theorem rweight(n:qA):qBE.f n=some (weight n):=by
 unfold qBE.f weight
 split <;> rfl
def wAny(is:qA->Bool)(of:qA->Int)(l:List qA)(id:Int):Bool:=l.any fun n=>is n&&decide (of n=id)
theorem qIQ{is:qA->Bool}{of:qA->Int}{l:List qA}{id:Int}: wAny is of l id=true↔wIs is of l id:=by
 unfold wAny wIs
 simp [List.any_eq_true]
theorem qIR(is:qA->Bool)(of:qA->Int)(l:List qA)(n:qA)(id:Int):wAny is of (l++[n]) id=(wAny is of l id||(is n&&decide (of n=id))):=by
 unfold wAny
 simp
theorem qJP (is:qA->Bool) (of:qA->Int) (l:List qA) (os:List Int) (h:Nodes l) (hos:os.length=l.length) (id:Int) (hid:∀ j (h1:j<os.length) (h2:j<l.length),os[j]=id↔is l[j]=true/\of l[j]=id) (acc:List qB) {P:List qB->Prop}
  (hP:Ht (fun k=>qm.j57 k l os acc id (wAny is of l id) (cap (wSum is of l id))) P):∀(d j:Nat),j+d=l.length->Ht (fun k=>qm.l29 k l os acc id (wSum is of (l.take j) id) (wAny is of (l.take j) id) (j:Int)) P:=by
 have hl:=h.1
 intro d
 induction d with
 | zero =>
  intro j hj
  refine .s (qm.l29_s · _ _ _ _ _ _ _) (.n (by omega) ?_)
  rw [List.take_of_length_le (by omega)]
  unfold cap at hP
  refine .i (fun c=>?_) fun c=>?_
  ·rwa [if_neg (by omega)]at hP
  ·by_cases e:wSum is of l id<65536
   ·rwa [if_pos e]at hP
   ·rw [if_neg e]at hP
    rwa [show wSum is of l id=65536 by omega]
 | succ d ih =>
  intro j hj
  have h1:j<l.length:=by omega
  have h2:j<os.length:=by omega
  have ih:=ih (j+1) (by omega)
  have hs:=wSum_ge is of (l.take j) id fun n hn=>h.okW n (List.mem_of_mem_take hn)
  have hlt:(l.take j).length<=12:=by rw [List.length_take]; omega
  have hw:=weight_ok (h.okW _ (gM h1))
  rw [← List.take_append_getElem h1,qEc,qIR]at ih
  refine .s (qm.l29_s · _ _ _ _ _ _ _) (.t (by omega) (.t (by omega) ?_))
  rw [nth_get _ _ _ h1,nth_get _ _ _ h2,w64n j (by omega)]
  by_cases c:is l[j]=true/\of l[j]=id
  ·rw [if_pos c,c.1,dT c.2,Bool.true_and,Bool.or_true]at ih
   refine .t ((hid j h2 h1).2 c) (.t (by omega) (.o (rweight l[j]) ?_))
   rw [qCk (by omega) (by omega)]
   exact ih
  ·have e:(is l[j]&&decide (of l[j]=id))=false:=by
    by_cases c1:is l[j]=true
    ·rw [dF fun e=>c ⟨c1,e⟩,Bool.and_false]
    ·rw [eq_false_of_ne_true c1,Bool.false_and]
   rw [if_neg c,e,Int.add_zero,Bool.or_false]at ih
   exact .n (fun e=>c ((hid j h2 h1).1 e)) ih
theorem qJQ(is:qA->Bool)(of:qA->Int)(l:List qA)(os:List Int)(h:Nodes l)(hos:os.length=l.length)(hof:∀ n ∈ l,is n=true->of n<=999)(hid:∀(id:Nat),1<=id->∀ j (h1:j<os.length) (h2:j<l.length),os[j]=(id:Int)↔is l[j]=true/\of l[j]=(id:Int)):∀(d i:Nat)(acc:List qB),i+d=1000->1<=i->acc.length<i->acc.Pairwise (fun x y=>x.f0<y.f0)->(∀ c:qB,c ∈ acc↔c.f0<i/\wIs is of l c.f0/\c.f1=cap (wSum is of l c.f0)) ->
  Ht (fun k=>qm.l14 k l os acc (i:Int)) (WOf is of l):=by
 intro d
 induction d with
 | zero =>
  intro i acc hi h1 hlen hup hmem
  refine .s (qm.l14_s · _ _ _ _) (.n (by omega) (.c ⟨hup,fun c=>(hmem c).trans ⟨fun h=>h.2,fun h=>⟨?_,h⟩⟩⟩))
  obtain ⟨⟨n,hn,hi2,he⟩,_⟩:=h
  have:=hof n hn hi2
  omega
 | succ d ih =>
  intro i acc hi h1 hlen hup hmem
  refine .s (qm.l14_s · _ _ _ _) (.t (by omega) ?_)
  refine qJP is of l os h hos (i:Int) (hid i h1) acc ?_ l.length 0 (by omega)
  refine .s (qm.j57_s · _ _ _ _ _ _) ?_
  rw [w64n i (by omega)]
  refine .i (fun c=>?_) fun c=>?_
  ·have c:=qIQ.1 c
   refine .t (by omega) (ih (i+1) _ (by omega) (by omega) (by rw [lA,List.length_singleton]; omega) ?_ ?_)
   ·refine List.pairwise_append.2 ⟨hup,List.pairwise_singleton _ _,fun a ha b hb=>?_⟩
    rw [List.mem_singleton.1 hb]
    exact ((hmem a).1 ha).1
   ·intro x
    rw [List.mem_append,List.mem_singleton,hmem]
    constructor
    ·rintro (⟨a,b⟩ | rfl)
     ·exact ⟨by omega,b⟩
     ·exact ⟨by show (i:Int)<((i+1:Nat):Int); omega,c,rfl⟩
    ·rintro ⟨a,b,e⟩
     by_cases q:x.f0=i
     ·right
      rw [q]at e
      cases x; cases q; cases e; rfl
     ·exact .inl ⟨by omega,b,e⟩
  ·have c:¬ wIs is of l i:=fun e=>c (qIQ.2 e)
   refine ih (i+1) acc (by omega) (by omega) (by omega) hup fun x=>(hmem x).trans ⟨fun q=>⟨by omega,q.2⟩,fun q=>⟨?_,q.2⟩⟩
   have hne:x.f0≠i:=fun e=>c (e ▸ q.2.1)
   have:=q.1
   omega
theorem Ht.wof{is:qA->Bool}{of:qA->Int}{l:List qA}{f:Nat->Option (List qB)}(h:Nodes l)(hf:Ht f (WOf is of l)):Ev f (wL is of l):=by
 obtain ⟨v,e,p⟩:=hf
 exact e.v (p.eq (wL_full is of h).1)
theorem rsum(is:qA->Bool)(of:qA->Int)(l:List qA)(h:Nodes l)(hof:∀ n ∈ l,1<=of n/\of n<=999):Ev (fun k=>qm.f k l (l.map fun n=>if is n=true then of n else 0)) (wL is of l):=by
 refine Ht.wof h ?_
 refine qJQ is of l _ h (List.length_map ..) (fun n hn _=>(hof n hn).2) (fun id hid j h1 h2=>?_) 999 1 [] (by omega) (by omega) (by simp) List.Pairwise.nil ?_
 ·rw [List.getElem_map]
  split
  ·rename_i c
   exact ⟨fun e=>⟨c,e⟩,fun e=>e.2⟩
  ·rename_i c
   exact ⟨fun e=>by omega,fun e=>absurd e.1 c⟩
 ·intro c
  refine ⟨(fun h=>nomatch h),fun h0=>?_⟩
  obtain ⟨h1,⟨n,hn,_,he⟩,_⟩:=h0
  have:=(hof n hn).1
  omega
theorem qGE{l:List qA}(f:qA->Int)(i:Nat)(h1:i<l.length):((l.take i).map f++List.replicate (l.length - i) (0:Int)).set i (f l[i])=(l.take (i+1)).map f++List.replicate (l.length - (i+1)) 0:=by
 have e:l.length - i=(l.length - (i+1))+1:=by omega
 have e2:((l.take i).map f).length=i:=by rw [List.length_map,List.length_take]; omega
 rw [e,List.replicate_succ,List.set_append_right _ _ (by omega),e2,Nat.sub_self,List.set_cons_zero,← List.take_append_getElem h1,List.map_append,List.append_assoc]
 rfl
theorem qIS{l:List qA}(f:qA->Int)(i:Nat)(h1:i<l.length)(h:f l[i]=0):(l.take i).map f++List.replicate (l.length - i) (0:Int)=(l.take (i+1)).map f++List.replicate (l.length - (i+1)) 0:=by
 have e:l.length - i=(l.length - (i+1))+1:=by omega
 rw [e,List.replicate_succ,← List.take_append_getElem h1,List.map_append,List.append_assoc,List.map_singleton,h]
 rfl
theorem rzones{l:List qA}(h:Nodes l):Ev (fun k=>qAa.f k l) (wL isZ ofZ l):=by
 have hl:=h.1
 have go:∀(d i:Nat),i+d=l.length->Ev (fun k=>qAa.l12 k l ((l.take i).map (fun n=>if isZ n=true then ofZ n else 0)++List.replicate (l.length - i) (0:Int)) (i:Int)) (wL isZ ofZ l):=by
  intro d
  induction d with
  | zero =>
   intro i hi
   refine .s (qAa.l12_s · _ _ _) (.n (by omega) ?_)
   rw [List.take_of_length_le (by omega),show l.length - i=0 by omega,List.replicate_zero,List.append_nil]
   exact .b (rsum isZ ofZ l h fun n hn=>by have:=h.ok n hn; unfold okN at this; unfold ofZ; omega) (.c _)
  | succ d ih =>
   intro i hi
   have h1:i<l.length:=by omega
   have ih:=ih (i+1) (by omega)
   rw [← qGE _ i h1]at ih
   refine .s (qAa.l12_s · _ _ _) (.t (by omega) (.t (by omega) (.t (by rw [List.length_replicate]; omega) ?_)))
   rw [nth_get _ _ _ h1,w64n i (by omega)]
   exact ih
 unfold qAa.f
 refine .t (by omega) ?_
 exact go l.length 0 (by omega)
theorem rracks{l:List qA}(h:Nodes l)(z:Int):Ev (fun k=>qAV.f k l z) (wL (isR z) ofR l):=by
 have hl:=h.1
 have go:∀(d i:Nat),i+d=l.length->Ev (fun k=>qAV.l12 k l z ((l.take i).map (fun n=>if isR z n=true then ofR n else 0)++List.replicate (l.length - i) (0:Int)) (i:Int)) (wL (isR z) ofR l):=by
  intro d
  induction d with
  | zero =>
   intro i hi
   refine .s (qAV.l12_s · _ _ _ _) (.n (by omega) ?_)
   rw [List.take_of_length_le (by omega),show l.length - i=0 by omega,List.replicate_zero,List.append_nil]
   exact .b (rsum (isR z) ofR l h fun n hn=>by have:=h.ok n hn; unfold okN at this; unfold ofR; omega) (.c _)
  | succ d ih =>
   intro i hi
   have h1:i<l.length:=by omega
   have ih:=ih (i+1) (by omega)
   refine .s (qAV.l12_s · _ _ _ _) (.t (by omega) (.t (by omega) ?_))
   rw [nth_get _ _ _ h1,w64n i (by omega)]
   by_cases c:l[i].f1=z
   ·refine .t c (.t (by rw [List.length_replicate]; omega) ?_)
    rw [← qGE _ i h1,if_pos (show isR z l[i]=true by unfold isR; simpa using c)]at ih
    exact ih
   ·refine .n c ?_
    rw [← qIS _ i h1 (if_neg (by unfold isR; simpa using c))]at ih
    exact ih
 unfold qAV.f
 refine .t (by omega) ?_
 exact go l.length 0 (by omega)
theorem qGF(id w:Int):∀ l:List qB,(∀ c ∈ l,c.f0<id)->addW id w l=l++[⟨id,w⟩]
 | [],_=>rfl
 | c :: r,h=>by
  unfold addW
  rw [if_pos (h c List.mem_cons_self),qGF id w r (fun x hx=>h x (List.mem_cons_of_mem _ hx))]
  rfl
theorem rleaves{l:List qA}(h:Nodes l)(z r:Int):Ev (fun k=>qq.f k l z r) (wL (isL z r) ofL l):=by
 have hl:=h.1
 have go:∀(d i:Nat),i+d=l.length->Ev (fun k=>qq.l14 k l z r (wL (isL z r) ofL (l.take i)) (i:Int)) (wL (isL z r) ofL l):=by
  intro d
  induction d with
  | zero =>
   intro i hi
   refine .s (qq.l14_s · _ _ _ _ _) (.n (by omega) (.cv ?_))
   rw [List.take_of_length_le (by omega)]
  | succ d ih =>
   intro i hi
   have h1:i<l.length:=by omega
   have ih:=ih (i+1) (by omega)
   obtain ⟨hW,hlen⟩:=wL_of (isL z r) ofL l h.okW i (by omega)
   rw [qGi i h1]at ih
   have hlast:∀ c ∈ wL (isL z r) ofL (l.take i),c.f0<ofL l[i]:=by
    intro c hc
    obtain ⟨⟨n,hn,_,he⟩,_⟩:=(hW.mem c).1 hc
    rw [← he]
    obtain ⟨j,hj,rfl⟩:=List.getElem_of_mem hn
    rw [List.length_take]at hj
    rw [List.getElem_take]
    exact List.pairwise_iff_getElem.1 h.up j i (by omega) h1 (by omega)
   generalize wL (isL z r) ofL (l.take i)=v at hlen ih hlast ⊢
   have hj:∀ y:Bool,y=isL z r l[i]->Ev (fun k=>qq.j41 k l z r v (i:Int) y) (wL (isL z r) ofL l):=by
    intro y hy
    subst hy
    refine .s (qq.j41_s · _ _ _ _ _ _) ?_
    rw [nth_get _ _ _ h1,w64n i (by omega)]
    unfold wOne at ih
    refine .i (fun c=>?_) fun c=>?_
    ·rw [if_pos c,qGF _ _ _ hlast]at ih
     exact .t (by omega) (.b0 (rweight l[i]) (.t (by omega) ih))
    ·rw [if_neg c]at ih
     exact ih
   unfold isL at hj
   refine .s (qq.l14_s · _ _ _ _ _) (.t (by omega) ?_)
   rw [nth_get _ _ _ h1]
   refine .i (fun c1=>?_) fun c1=>?_
   ·refine .i (fun c2=>hj _ (by simp [c1,c2])) fun c2=>.t (by omega) (hj _ (by simp [c1,c2]))
   ·refine .t (by omega) (.i (fun c3=>?_) fun c3=>hj _ (by simp [c1,c3]))
    exact .i (fun c2=>hj _ (by simp [c1,c2,c3])) fun c2=>hj _ (by simp [c1,c2,c3])
 unfold qq.f
 exact go l.length 0 (by omega)
end Topo
namespace Place
theorem rfold3(g a b c:Int):Ev (fun k=>qAT.f k (IntKind.u64.wrap g) [IntKind.u64.wrap a,IntKind.u64.wrap b,IntKind.u64.wrap c]) ((Mixn.fold (Draw.un g) [Draw.un a,Draw.un b,Draw.un c]:Nat):Int):=by
 have h:=Draw.reffold (Draw.un g) (Draw.un_eq g).2 [Draw.un a,Draw.un b,Draw.un c] (fun x hx=>by
  simp only [List.mem_cons,List.not_mem_nil,or_false]at hx
  rcases hx with rfl | rfl | rfl <;> exact (Draw.un_eq _).2) (by simp)
 rw [(Draw.un_eq g).1,(Draw.un_eq a).1,(Draw.un_eq b).1,(Draw.un_eq c).1]
 exact h
def tr(x:qd):Ar3_i64:=⟨x.f0,x.f1,x.f2⟩
theorem qIT (l:List qA) (rule:List qM) (g size:Int) (hand:List Ar3_i64) (out:List Int) (i:Nat) (hi:i<rule.length) (hs:(1<=rule[i].f1/\rule[i].f1<=3)/\1<=rule[i].f2) (j:Nat) (x:qd) (hx:nth Ar3_i64.z hand (j:Int)=tr x) (o:List Int) (ho:o.length<=12) (base:List qd) (hb:base.length<=6000000000) {v:List Int}
  (hv:Ev (fun k=>qI.l78 k l rule g size hand (i:Int) out ((base++(o.take rule[i].f2.toNat).map (deeper rule[i] x)).map tr) (w64 ((j:Int)+1))) v):∀(d m:Nat),m+d=min rule[i].f2.toNat o.length->Ev (fun k=>qI.l212 k l rule g size hand (i:Int) out (j:Int) o ((base++(o.take m).map (deeper rule[i] x)).map tr) (m:Int)) v:=by
 intro d
 induction d with
 | zero =>
  intro m hm
  have hj:Ev (fun k=>qI.j220 k l rule g size hand (i:Int) out (j:Int) o ((base++(o.take m).map (deeper rule[i] x)).map tr) (m:Int) false) v:=by
   refine .s (qI.j220_s · _ _ _ _ _ _ _ _ _ _ _ _) (.n (by decide) ?_)
   rw [List.take_eq_take_min,← hm,Nat.add_zero]at hv
   exact hv
  refine .s (qI.l212_s · _ _ _ _ _ _ _ _ _ _ _) ?_
  rw [nth_get _ _ _ hi]
  refine .i (fun c=>?_) fun _=>hj
  rw [dF (by omega)]
  exact hj
 | succ d ih =>
  intro m hm
  have h1:m<o.length:=by omega
  have ih:=ih (m+1) (by omega)
  have hlen:((o.take m).map (deeper rule[i] x)).length<=12:=by rw [List.length_map,List.length_take]; omega
  have e0:(base++(o.take (m+1)).map (deeper rule[i] x)).map tr=(base++(o.take m).map (deeper rule[i] x)).map tr++[tr (deeper rule[i] x o[m])]:=by
   rw [← List.take_append_getElem h1]
   simp only [List.map_append,List.map_singleton,List.append_assoc]
  rw [e0]at ih
  have e:∀ a b c:Int,(⟨a,b,c⟩:Ar3_i64)=tr (deeper rule[i] x o[m])->Ev (fun k=>qI.j247 k l rule g size hand (i:Int) out (j:Int) o ((base++(o.take m).map (deeper rule[i] x)).map tr) (m:Int) a b c) v:=by
   intro a b c e
   refine .s (qI.j247_s · _ _ _ _ _ _ _ _ _ _ _ _ _ _) (.t ?_ ?_)
   ·rw [List.length_map,lA]
    omega
   ·rw [e,w64n m (by omega)]
    exact ih
  refine .s (qI.l212_s · _ _ _ _ _ _ _ _ _ _ _) (.t (by omega) (.s (qI.j220_s · _ _ _ _ _ _ _ _ _ _ _ _) ?_))
  rw [nth_get _ _ _ hi,nth_get _ _ _ h1,hx,qCk (n:=rule[i].f1 - 1) (by omega) (by omega)]
  refine .t (dT (by omega)) (.t (by omega) ?_)
  unfold deeper at e
  refine .i (fun c=>e _ _ _ ?_) fun c=>.i (fun c2=>e _ _ _ ?_) fun c2=>.t (by omega) (e _ _ _ ?_)
  ·rw [if_pos (by omega)]
   rfl
  ·rw [if_neg (by omega),if_pos (by omega)]
   rfl
  ·rw [if_neg (by omega),if_neg (by omega)]
   rfl
theorem qIU (l:List qA) (rule:List qM) (g size:Int) (hand:List Ar3_i64) (out:List Int) (more:List Ar3_i64) (i j:Nat) (x:qd) (hx:nth Ar3_i64.z hand (j:Int)=tr x) (ho:out.length<=3) {v:List Int}
  (hv:Ev (fun k=>qI.j123 k l rule g size hand (i:Int) out more (j:Int) (decide ((out.length:Int)<size/\¬ x.f2 ∈ out))) v):∀(d m:Nat),m+d=out.length->Ev (fun k=>qI.l104 k l rule g size hand (i:Int) out more (j:Int) (decide (x.f2 ∈ out.take m)) (m:Int)) v:=by
 intro d
 induction d with
 | zero =>
  intro m hm
  rw [List.take_of_length_le (by omega)]
  refine .s (qI.l104_s · _ _ _ _ _ _ _ _ _ _ _) (.n (by omega) (.i (fun c=>?_) fun c=>?_))
  ·rw [dF (fun e=>e.2 (oT c))]at hv
   exact hv
  ·have e:decide ((out.length:Int)<size/\¬ x.f2 ∈ out)=decide ((out.length:Int)<size):=by
    rw [decide_eq_decide]
    exact ⟨fun h=>h.1,fun h=>⟨h,fun q=>c (dT q)⟩⟩
   rwa [e]at hv
 | succ d ih =>
  intro m hm
  have h1:m<out.length:=by omega
  have ih:=ih (m+1) (by omega)
  refine .s (qI.l104_s · _ _ _ _ _ _ _ _ _ _ _) (.t (by omega) ?_)
  rw [w64n m (by omega),nth_get _ _ _ h1,hx]
  refine .i (fun c=>?_) fun c=>.t (by omega) ?_
  ·have c:=oT c
   rw [dT]at ih
   ·exact ih
   ·rw [← List.take_append_getElem h1]
    exact List.mem_append.2 (.inl c)
  ·have c:¬ x.f2 ∈ out.take m:=fun e=>c (dT e)
   have e:decide (x.f2 ∈ out.take (m+1))=(out[m] == (tr x).f2):=by
    rw [← List.take_append_getElem h1,Bool.eq_iff_iff,decide_eq_true_eq,beq_iff_eq,List.mem_append,List.mem_singleton]
    exact ⟨fun h=>(h.resolve_left c).symm,fun h=>.inr h.symm⟩
   rw [e]at ih
   exact ih
theorem qJR{l:List qA}(h:Topo.Nodes l)(rule:List qM)(hr:rule.length<=8)(g size:Int)(hz:size<=3):∀(d i:Nat)(hand:List qd)(out:List Int)(a:Int),i+d=rule.length->hand.length<=12 ^ i->(out.length:Int)<=size->Rule.goes a (rule.drop i)=true->(a = -1->hand=[])->Ev (fun k=>qI.l24 k l rule g size (hand.map tr) out (i:Int)) (((rule.drop i).foldl (stepL l g size) (hand,out)).2):=by
 intro d
 induction d with
 | zero =>
  intro i hand out a hi _ _ _ _
  refine .s (qI.l24_s · _ _ _ _ _ _ _) (.n (by omega) (.cv ?_))
  rw [List.drop_eq_nil_of_le (by omega)]
  rfl
 | succ d ih =>
  intro i hand out a hi hh ho hg ha
  have h1:i<rule.length:=by omega
  have hp:hand.length<=429981696:=Nat.le_trans hh (Nat.le_trans (Nat.pow_le_pow_right (by omega) (show i<=8 by omega)) (by decide))
  have h12:0<12 ^ i:=Nat.pow_pos (by omega)
  rw [List.drop_eq_getElem_cons h1]at hg ⊢
  obtain ⟨b,hb,hc⟩:=qIP hg
  rw [List.foldl_cons]
  have hml:(hand.map tr).length=hand.length:=List.length_map ..
  refine .s (qI.l24_s · _ _ _ _ _ _ _) (.t (by omega) (.t (by omega) ?_))
  rw [nth_get _ _ _ h1]
  rcases hc with ⟨c1,c2,c3⟩ | ⟨c1,c2,c3,c4,c5⟩ | ⟨c1,c2,c3⟩
  ·have e:=ha c2
   subst e
   refine .t c1 (.t (by decide) (.s (qI.j61_s · _ _ _ _ _ _ _ _) (.s (qI.l78_s · _ _ _ _ _ _ _ _ _) (.n (by decide) ?_))))
   rw [w64n i (by omega),stepL,if_pos c1]
   exact ih (i+1) [⟨0,0,0⟩] _ b (by omega) (by rw [Nat.pow_succ,List.length_singleton]; omega) ho hb fun e=>by omega
  ·refine .n (by omega) (.s (qI.j61_s · _ _ _ _ _ _ _ _) ?_)
   rw [stepL,if_neg (by omega),if_pos c1]
   have ih:=ih (i+1) (hand.flatMap (chooseL l g rule[i])) out b (by omega) (by
    have:=qDu (chooseL l g rule[i]) (qDJ h g rule[i]) hand
    rw [Nat.pow_succ]
    omega) ho hb fun e=>by omega
   have go:∀(d j:Nat),j+d=hand.length->Ev (fun k=>qI.l78 k l rule g size (hand.map tr) (i:Int) out (((hand.take j).flatMap (chooseL l g rule[i])).map tr) (j:Int)) (((rule.drop (i+1)).foldl (stepL l g size) (hand.flatMap (chooseL l g rule[i]),out)).2):=by
    intro d
    induction d with
    | zero =>
     intro j hj
     refine .s (qI.l78_s · _ _ _ _ _ _ _ _ _) (.n (by omega) ?_)
     rw [List.take_of_length_le (by omega),w64n i (by omega)]
     exact ih
    | succ d ih2 =>
     intro j hj
     have h2:j<hand.length:=by omega
     have h3:j<(hand.map tr).length:=by omega
     have ih2:=ih2 (j+1) (by omega)
     rw [qGB _ _ _ h2]at ih2
     have hlen:=qDu (chooseL l g rule[i]) (qDJ h g rule[i]) (hand.take j)
     rw [List.length_take]at hlen
     have hx:nth Ar3_i64.z (hand.map tr) (j:Int)=tr hand[j]:=by rw [nth_get _ _ _ h3,List.getElem_map]
     have hk:=qFg h g rule[i] hand[j].f0 hand[j].f1
     have fin:∀ c,Draw.Chs c->kids l g rule[i] hand[j].f0 hand[j].f1=(Draw.ord (Mixn.fold (Draw.un g) [Draw.un rule[i].f1,Draw.un hand[j].f0,Draw.un hand[j].f1]) c).map (fun x=>x.f0)->Ev (fun k=>qI.j183 k l rule g size (hand.map tr) (i:Int) out (((hand.take j).flatMap (chooseL l g rule[i])).map tr) (j:Int) c) (((rule.drop (i+1)).foldl (stepL l g size) (hand.flatMap (chooseL l g rule[i]),out)).2):=by
      intro c hc e
      refine .s (qI.j183_s · _ _ _ _ _ _ _ _ _ _) ?_
      rw [nth_get _ _ _ h1,hx]
      refine .b (rfold3 g rule[i].f1 hand[j].f0 hand[j].f1) (.b (Draw.reforder _ (fold_lt _ (Draw.un_eq g).2 _) c hc) ?_)
      rw [← e]
      unfold chooseL at ih2 ⊢
      have:=qIT l rule g size (hand.map tr) out i h1 ⟨c2,c3.1⟩ j hand[j] hx (kids l g rule[i] hand[j].f0 hand[j].f1) hk ((hand.take j).flatMap (chooseL l g rule[i])) (by omega) (v:=((rule.drop (i+1)).foldl (stepL l g size) (hand.flatMap (chooseL l g rule[i]),out)).2) (by rw [w64n j (by omega)]; exact ih2) (min rule[i].f2.toNat (kids l g rule[i] hand[j].f0 hand[j].f1).length) 0 (by omega)
      rw [List.take_zero,List.map_nil,List.append_nil]at this
      exact this
     refine .s (qI.l78_s · _ _ _ _ _ _ _ _ _) (.t (by omega) (.t (by omega) ?_))
     rw [nth_get _ _ _ h1,hx]
     have hz:=qEe h
     have hr:=qGA h hand[j].f0
     have hv:=qFH h hand[j].f0 hand[j].f1
     unfold kids at fin
     refine .n (by omega) (.b (Topo.rleaves h _ _) (.i (fun q=>.b (Topo.rzones h) (.s (qI.j162_s · _ _ _ _ _ _ _ _ _ _) ?_)) fun q=>.s (qI.j162_s · _ _ _ _ _ _ _ _ _ _) ?_))
     ·rw [nth_get _ _ _ h1,hx]
      exact .n (by omega) (fin _ hz (by rw [if_pos q]))
     ·rw [nth_get _ _ _ h1,hx]
      exact .i (fun q2=>.b (Topo.rracks h _) (fin _ hr (by rw [if_neg q,if_pos q2]; rfl))) fun q2=>fin _ hv (by rw [if_neg q,if_neg q2]; rfl)
   exact go hand.length 0 (by omega)
  ·refine .n (by omega) (.s (qI.j61_s · _ _ _ _ _ _ _ _) ?_)
   rw [stepL,if_neg (by omega),if_neg (by omega)]
   have ih:=ih (i+1) [] (hand.foldl (emit size) out) b (by omega) (Nat.zero_le _) (qDv size hand out ho) hb fun _=>rfl
   have go:∀(d j:Nat),j+d=hand.length->Ev (fun k=>qI.l78 k l rule g size (hand.map tr) (i:Int) ((hand.take j).foldl (emit size) out) [] (j:Int)) (((rule.drop (i+1)).foldl (stepL l g size) ([],hand.foldl (emit size) out)).2):=by
    intro d
    induction d with
    | zero =>
     intro j hj
     refine .s (qI.l78_s · _ _ _ _ _ _ _ _ _) (.n (by omega) ?_)
     rw [List.take_of_length_le (by omega),w64n i (by omega)]
     exact ih
    | succ d ih2 =>
     intro j hj
     have h2:j<hand.length:=by omega
     have h3:j<(hand.map tr).length:=by omega
     have ih2:=ih2 (j+1) (by omega)
     rw [qFI _ _ _ _ h2]at ih2
     have hlen:=qDv size (hand.take j) out ho
     have hx:nth Ar3_i64.z (hand.map tr) (j:Int)=tr hand[j]:=by rw [nth_get _ _ _ h3,List.getElem_map]
     generalize (hand.take j).foldl (emit size) out=q at ih2 hlen ⊢
     refine .s (qI.l78_s · _ _ _ _ _ _ _ _ _) (.t (by omega) (.t (by omega) ?_))
     rw [nth_get _ _ _ h1]
     refine .t c1 ?_
     refine qIU l rule g size (hand.map tr) q [] i j hand[j] hx (by omega) ?_ q.length 0 (by omega)
     refine .s (qI.j123_s · _ _ _ _ _ _ _ _ _ _) ?_
     rw [hx,w64n j (by omega)]
     unfold emit at ih2
     refine .i (fun c=>?_) fun c=>?_
     ·rw [if_pos (oT c)]at ih2
      exact .t (by omega) ih2
     ·rw [if_neg (fun e=>c (dT e))]at ih2
      exact ih2
   exact go hand.length 0 (by omega)
theorem rrun{l:List qA}{rule:List qM}{g size:Int}(h:mayRun l rule g size):Ev (fun k=>qI.f k l rule g size) (runL l rule g size):=by
 unfold qI.f
 exact qJR h.1 rule h.2.1.1.2 g size h.2.2.2.2 rule.length 0 [] [] (-1) (by omega) (Nat.zero_le _) (by have:=h.2.2.2.1; show ((0:Nat):Int)<=size; omega) h.2.1.2 fun _=>rfl
end Place
namespace Topo
def apartR(l:List qA):List Int->List Int->Bool
 | _,[]=>true
 | met,id :: r=>match l.find? (fun n=>decide (n.f0=id)) with
  | some n => !decide (n.f1 ∈ met)&&apartR l (met++[n.f1]) r
  | none=>false
def apartT(l:List qA):List Int->List Int->Bool
 | _,[]=>true
 | met,id :: r=>match l.find? (fun n=>decide (n.f0=id) && !decide (n.f1 ∈ met)) with
  | some n=>apartT l (met++[n.f1]) r
  | none=>false
theorem qIV (l:List qA) (ids met:List Int) (i:Nat) (w:Bool) (hl:l.length<4611686018427387904) (hm:met.length<1000000000000) (hi:i<ids.length) (hil:ids.length<4611686018427387904)
  (hs:∀ n,l.find? (fun n=>decide (n.f0=ids[i]) && !decide (n.f1 ∈ met))=some n->Ev (fun k=>qAX.l18 k l ids (met++[n.f1]) ((i+1:Nat):Int)) w)
  (hn:l.find? (fun n=>decide (n.f0=ids[i]) && !decide (n.f1 ∈ met))=none->w=false) :
  ∀(d j:Nat),j+d=l.length->(l.take j).find? (fun n=>decide (n.f0=ids[i]) && !decide (n.f1 ∈ met))=none->Ev (fun k=>qAX.l35 k l ids met (i:Int) (j:Int)) w:=by
 intro d
 induction d with
 | zero =>
  intro j hj ht
  refine .s (qAX.l35_s · _ _ _ _ _) (.n (by omega) (.cv ?_))
  rw [List.take_of_length_le (by omega)]at ht
  exact (hn ht).symm
 | succ d ih =>
  intro j hj ht
  have h1:j<l.length:=by omega
  refine .s (qAX.l35_s · _ _ _ _ _) (.t (by omega) (.t (by omega) ?_))
  have hb:∀ b:Bool,b=(decide (l[j].f0=ids[i]) && !decide (l[j].f1 ∈ met))->Ev (fun k=>qAX.j58 k l ids met (i:Int) (j:Int) b) w:=by
   intro b hb
   refine .s (qAX.j58_s · _ _ _ _ _ _) ?_
   cases b with
   | true =>
    refine .t rfl (.t (by omega) ?_)
    rw [nth_get _ _ _ h1,w64n i (by omega)]
    refine hs _ ?_
    have e:=congrArg (List.find? fun n=>decide (n.f0=ids[i]) && !decide (n.f1 ∈ met)) (List.take_append_drop j l)
    rw [← e,List.find?_append,ht,List.drop_eq_getElem_cons h1,List.find?_cons_of_pos (p:=fun n:qA=>decide (n.f0=ids[i]) && !decide (n.f1 ∈ met)) hb.symm]
    rfl
   | false =>
    refine .n (by decide) ?_
    rw [w64n j (by omega)]
    refine ih (j+1) (by omega) ?_
    rw [List.take_add_one,List.find?_append,ht,List.getElem?_eq_getElem h1]
    simp only [Option.toList_some,Option.none_or]
    rw [List.find?_cons_of_neg]
    ·rfl
    ·rw [← hb]; decide
  rw [nth_get _ _ _ h1,nth_get _ _ _ hi]
  by_cases h:l[j].f0=ids[i]
  ·refine .t h (.b (contains met _ (by omega)) (hb _ ?_))
   rw [dT h]; rfl
  ·refine .n h (hb _ ?_)
   rw [dF h]; rfl
theorem qIW(l:List qA)(ids:List Int)(hl:l.length<4611686018427387904)(hil:ids.length<500000000000):∀(d i:Nat)(met:List Int),i+d=ids.length->met.length=i->Ev (fun k=>qAX.l18 k l ids met (i:Int)) (apartT l met (ids.drop i)):=by
 intro d
 induction d with
 | zero =>
  intro i met hi hm
  refine .s (qAX.l18_s · _ _ _ _) (.n (by omega) (.cv ?_))
  rw [List.drop_eq_nil_of_le (by omega)]
  rfl
 | succ d ih =>
  intro i met hi hm
  have h1:i<ids.length:=by omega
  refine .s (qAX.l18_s · _ _ _ _) (.t (by omega) (.t (by omega) ?_))
  refine qIV l ids met i _ hl (by omega) h1 (by omega) ?_ ?_ l.length 0 (by omega) rfl
  ·intro n hn
   refine (ih (i+1) _ (by omega) (by simp [hm])).v ?_
   rw [List.drop_eq_getElem_cons h1,apartT,hn]
  ·intro hn
   rw [List.drop_eq_getElem_cons h1,apartT,hn]
theorem qIX:∀(p:Int)(l:List qA),rise p l=true->∀ n ∈ l,p<n.f0
 | _,[],_,_,h=>nomatch h
 | p,m :: l,h,n,hn=>by
  simp only [rise,Bool.and_eq_true,decide_eq_true_eq]at h
  rcases List.mem_cons.1 hn with rfl | hn
  ·exact h.1.2
  ·exact Int.lt_trans h.1.2 (qIX _ l h.2 n hn)
theorem qHM(id:Int)(met:List Int):∀(p:Int)(l:List qA),rise p l=true->l.find? (fun n=>decide (n.f0=id) && !decide (n.f1 ∈ met))=match l.find? (fun n=>decide (n.f0=id)) with
  | some n=>if n.f1 ∈ met then none else some n
  | none=>none
 | _,[],_=>rfl
 | p,m :: l,h=>by
  simp only [rise,Bool.and_eq_true,decide_eq_true_eq]at h
  by_cases hm:m.f0=id
  ·rw [List.find?_cons_of_pos (a:=m) (p:=fun n:qA=>decide (n.f0=id)) (by simpa using hm)]
   by_cases hz:m.f1 ∈ met
   ·simp only [hz,if_true]
    rw [List.find?_eq_none]
    intro n hn
    rcases List.mem_cons.1 hn with rfl | hn
    ·simp [hz]
    ·have:=qIX _ _ h.2 n hn
     have:¬ n.f0=id:=by omega
     simp [this]
   ·rw [List.find?_cons_of_pos (by simp [hm,hz])]
    simp only [hz,if_false]
  ·rw [List.find?_cons_of_neg (by simp [hm]),List.find?_cons_of_neg (by simpa using hm)]
   exact qHM id met _ l h.2
theorem qFJ(l:List qA)(h:rise 0 l=true):∀(ids met:List Int),apartT l met ids=apartR l met ids
 | [],_=>rfl
 | id :: r,met=>by
  rw [apartT,apartR,qHM id met 0 l h]
  cases l.find? (fun n=>decide (n.f0=id)) with
  | none=>rfl
  | some n =>
   by_cases hz:n.f1 ∈ met
   ·simp [hz]
   ·simp only [hz,if_false,decide_false,Bool.not_false,Bool.true_and]
    exact qFJ l h r _
theorem apart(l:List qA)(ids:List Int)(hl:l.length<4611686018427387904)(hil:ids.length<500000000000):Ev (fun k=>qAX.f k l ids) (decide (Nodes l)&&apartR l [] ids):=by
 unfold qAX.f
 refine .b (check l hl) ?_
 by_cases h:Nodes l
 ·rw [dT h]
  refine .t rfl ((qIW l ids hl hil ids.length 0 [] (by omega) rfl).v ?_)
  rw [List.drop_zero,qFJ l h.2,Bool.true_and]
 ·rw [dF h]
  exact .n (by decide) (.c _)
def find(l:List qA)(id:Int):qA × Bool:=match l.find? (fun n=>decide (n.f0=id)) with
 | some n=>(n,true)
 | none=>(⟨0,0,0,0,false,false⟩,false)
theorem qKG(l:List qA)(id:Int)(hl:l.length<4611686018427387904):∀(d i:Nat),i+d=l.length->Ev (fun k=>qAH.l7 k l id (i:Int)) (find (l.drop i) id):=by
 intro d
 induction d with
 | zero =>
  intro i hi
  refine .s (qAH.l7_s · _ _ _) (.n (by omega) (.cv ?_))
  rw [List.drop_eq_nil_of_le (by omega)]
  rfl
 | succ d ih =>
  intro i hi
  have h1:i<l.length:=by omega
  refine .s (qAH.l7_s · _ _ _) (.t (by omega) (.t (by omega) ?_))
  rw [List.drop_eq_getElem_cons h1,nth_get _ _ _ h1]
  by_cases h:l[i].f0=id
  ·refine .t h (.cv ?_)
   rw [find,List.find?_cons_of_pos (by simpa using h)]
  ·refine .n h ?_
   rw [w64n i (by omega)]
   refine (ih (i+1) (by omega)).v ?_
   rw [find,find,List.find?_cons_of_neg (by simpa using h)]
theorem reffind(l:List qA)(id:Int)(hl:l.length<4611686018427387904):Ev (fun k=>qAH.f k l id) (find l id):=by
 unfold qAH.f
 exact qKG l id hl l.length 0 (by omega)
def zn(l:List qA)(id:Int):Int:=(find l id).1.f1
theorem qIY(l:List qA)(ids:List Int)(i:Nat)(t:qA × Bool)(w:Bool)(hl:l.length<4611686018427387904)(hi:i<ids.length)(hil:ids.length<4611686018427387904):∀(d j:Nat),j+d=i ->
  (t.1.f1 ∈ ((ids.take i).drop j).map (zn l)->w=false)->(¬ t.1.f1 ∈ ((ids.take i).drop j).map (zn l)->Ev (fun k=>qp.l5 k l ids ((i+1:Nat):Int)) w) ->
  Ev (fun k=>qp.l31 k l ids (i:Int) t (j:Int)) w:=by
 intro d
 induction d with
 | zero =>
  intro j hj _ hn
  refine .s (qp.l31_s · _ _ _ _ _) (.n (by omega) ?_)
  rw [w64n i (by omega)]
  refine hn ?_
  rw [List.drop_eq_nil_of_le (by simp; omega)]
  simp
 | succ d ih =>
  intro j hj hy hn
  have h1:j<ids.length:=by omega
  have h2:j<(ids.take i).length:=by simp; omega
  rw [List.drop_eq_getElem_cons h2,List.getElem_take,List.map_cons,List.mem_cons]at hy hn
  refine .s (qp.l31_s · _ _ _ _ _) (.t (by omega) (.t (by omega) ?_))
  rw [nth_get _ _ _ h1]
  refine .b (reffind l _ hl) ?_
  by_cases h:t.1.f1=zn l ids[j]
  ·exact .t h (.cv (hy (.inl h)).symm)
  ·refine .n h ?_
   rw [w64n j (by omega)]
   exact ih (j+1) (by omega) (fun m=>hy (.inr m)) fun m=>hn fun o=>o.elim h m
theorem qJS(l:List qA)(ids:List Int)(hl:l.length<4611686018427387904)(hil:ids.length<500000000000):∀(d i:Nat),i+d=ids.length->Ev (fun k=>qp.l5 k l ids (i:Int)) (apartR l ((ids.take i).map (zn l)) (ids.drop i)):=by
 intro d
 induction d with
 | zero =>
  intro i hi
  refine .s (qp.l5_s · _ _ _) (.n (by omega) (.cv ?_))
  rw [List.drop_eq_nil_of_le (by omega)]
  rfl
 | succ d ih =>
  intro i hi
  have h1:i<ids.length:=by omega
  refine .s (qp.l5_s · _ _ _) (.t (by omega) (.t (by omega) ?_))
  rw [nth_get _ _ _ h1,List.drop_eq_getElem_cons h1,apartR]
  have ih:=ih (i+1) (by omega)
  rw [List.take_add_one,List.getElem?_eq_getElem h1,Option.toList_some,List.map_append,List.map_singleton]at ih
  refine .b (reffind l _ hl) ?_
  have e:zn l ids[i]=(find l ids[i]).1.f1:=rfl
  unfold find at e ⊢
  cases hf:l.find? (fun n=>decide (n.f0=ids[i])) with
  | none=>exact .n (by decide) (.c _)
  | some n =>
   rw [hf]at e
   rw [e]at ih
   refine .t rfl ?_
   refine qIY l ids i (n,true) _ hl h1 (by omega) i 0 (by omega) ?_ ?_
   ·intro h
    rw [List.drop_zero]at h
    show (!decide (n.f1 ∈ _)&&_)=false
    rw [dT h]
    rfl
   ·intro h
    rw [List.drop_zero]at h
    refine ih.v ?_
    show _=(!decide (n.f1 ∈ _)&&_)
    rw [dF h]
    rfl
theorem refapart(l:List qA)(ids:List Int)(hl:l.length<4611686018427387904)(hil:ids.length<500000000000):Ev (fun k=>qp.f k l ids) (apartR l [] ids):=by
 unfold qp.f
 exact qJS l ids hl hil ids.length 0 (by omega)
end Topo
namespace Place
theorem qHN{is:qA->Bool}{of:qA->Int}{l:List qA}{id:Int}(h:∀ n ∈ l,Topo.okW n):0<Topo.wSum is of l id↔∃ n ∈ l,is n=true/\of n=id/\0<Topo.weight n:=by
 induction l with
 | nil=>exact ⟨fun h=>absurd h (Int.lt_irrefl 0),fun h=>by obtain ⟨_,h,_⟩:=h; cases h⟩
 | cons n l ih =>
  have hl:∀ m ∈ l,Topo.okW m:=fun m hm=>h m (List.mem_cons_of_mem _ hm)
  have ih:=ih hl
  have h0:=(Topo.wSum_ge is of l id hl).1
  have hw:=(Topo.weight_ok (h n List.mem_cons_self)).1
  have e:Topo.wSum is of (n :: l) id=Topo.wSum is of l id+if is n=true/\of n=id then Topo.weight n else 0:=by
   unfold Topo.wSum
   rw [List.filter_cons]
   by_cases c:is n=true/\of n=id
   ·rw [if_pos (by simp [c]),if_pos c,List.map_cons,List.sum_cons]
    omega
   ·rw [if_neg (by simpa using c),if_neg c]
    omega
  rw [e]
  constructor
  ·intro hp
   by_cases c:is n=true/\of n=id
   ·rw [if_pos c]at hp
    by_cases hw0:0<Topo.weight n
    ·exact ⟨n,List.mem_cons_self,c.1,c.2,hw0⟩
    ·obtain ⟨m,hm,q⟩:=ih.1 (by omega)
     exact ⟨m,List.mem_cons_of_mem _ hm,q⟩
   ·rw [if_neg c]at hp
    obtain ⟨m,hm,q⟩:=ih.1 (by omega)
    exact ⟨m,List.mem_cons_of_mem _ hm,q⟩
  ·rintro ⟨m,hm,q1,q2,q3⟩
   rcases List.mem_cons.1 hm with rfl | hm
   ·rw [if_pos ⟨q1,q2⟩]
    omega
   ·have:=ih.2 ⟨m,hm,q1,q2,q3⟩
    split <;> omega
theorem qIZ{key:Nat}{c:List qB}{x:qB}: x ∈ Draw.ord key c↔x ∈ c/\x.f1≠0:=by
 unfold Draw.ord Draw.heavy
 rw [qDI,List.mem_filter]
 simp
theorem qGn{l:List qA}(h:Topo.Nodes l)(is:qA->Bool)(of:qA->Int)(key:Nat)(id:Int):id ∈ (Draw.ord key (Topo.wL is of l)).map (fun x=>x.f0)↔∃ n ∈ l,is n=true/\of n=id/\0<Topo.weight n:=by
 have hW:=(Topo.wL_full is of h).1
 have h0:=(Topo.wSum_ge is of l id h.okW).1
 rw [← qHN h.okW,List.mem_map]
 have hc:∀ x:Int,0<=x->(Topo.cap x≠0↔0<x):=by
  intro x hx
  unfold Topo.cap
  split <;> omega
 constructor
 ·rintro ⟨c,hc1,rfl⟩
  obtain ⟨h1,h2⟩:=qIZ.1 hc1
  rw [((hW.mem c).1 h1).2]at h2
  exact (hc _ h0).1 h2
 ·intro hp
  refine ⟨⟨id,Topo.cap (Topo.wSum is of l id)⟩,qIZ.2 ⟨(hW.mem _).2 ⟨?_,rfl⟩,(hc _ h0).2 hp⟩,rfl⟩
  obtain ⟨n,hn,q1,q2,_⟩:=(qHN h.okW).1 hp
  exact ⟨n,hn,q1,q2⟩
def st2(size:Int):qM:=⟨2,1,size⟩
def st3:qM:=⟨2,2,1⟩
def st4:qM:=⟨2,3,1⟩
def commonL(size:Int):List qM:=[⟨1,0,0⟩,st2 size,st3,st4,⟨3,0,0⟩]
def zonesOf(l:List qA)(g:Int):List Int:=(Draw.ord (Mixn.fold (Draw.un g) [Draw.un 1,Draw.un 0,Draw.un 0]) (Topo.wL Topo.isZ Topo.ofZ l)).map fun x=>x.f0
def pick(l:List qA)(g:Int)(z:Int):List qd:=(chooseL l g st3 ⟨z,0,0⟩).flatMap (chooseL l g st4)
def pk(l:List qA)(g:Int)(z:Int):Int:=((pick l g z).headD ⟨0,0,0⟩).f2
theorem qJT{l:List qA}(h:Topo.Nodes l)(g:Int){z:Int}(hz:1<=z)(hn:∃ n ∈ l,n.f1=z/\0<Topo.weight n):∃ n ∈ l,n.f1=z/\0<Topo.weight n/\∃ r,pick l g z=[⟨z,r,n.f0⟩]:=by
 obtain ⟨n,hn,h1,h2⟩:=hn
 have k3:kids l g st3 z 0=(Draw.ord (Mixn.fold (Draw.un g) [Draw.un 2,Draw.un z,Draw.un 0]) (Topo.wL (Topo.isR z) Topo.ofR l)).map (fun x=>x.f0):=rfl
 have m3:=qGn h (Topo.isR z) Topo.ofR (Mixn.fold (Draw.un g) [Draw.un 2,Draw.un z,Draw.un 0])
 rw [← k3]at m3
 have hr:=(m3 n.f2).2 ⟨n,hn,by unfold Topo.isR; simpa using h1,rfl,h2⟩
 generalize hk:kids l g st3 z 0=k at hr m3
 cases k with
 | nil=>cases hr
 | cons r rs =>
  obtain ⟨n2,hn2,i2,o2,w2⟩:=(m3 r).1 List.mem_cons_self
  have e3:chooseL l g st3 ⟨z,0,0⟩=[⟨z,r,0⟩]:=by
   unfold chooseL
   rw [show kids l g st3 (⟨z,0,0⟩:qd).f0 (⟨z,0,0⟩:qd).f1=r :: rs from hk]
   rfl
  have k4:kids l g st4 z r=(Draw.ord (Mixn.fold (Draw.un g) [Draw.un 3,Draw.un z,Draw.un r]) (Topo.wL (Topo.isL z r) Topo.ofL l)).map (fun x=>x.f0):=rfl
  have m4:=qGn h (Topo.isL z r) Topo.ofL (Mixn.fold (Draw.un g) [Draw.un 3,Draw.un z,Draw.un r])
  rw [← k4]at m4
  have i2:n2.f1=z:=by unfold Topo.isR at i2; simpa using i2
  have hf:=(m4 n2.f0).2 ⟨n2,hn2,by unfold Topo.isL; have:n2.f2=r:=o2; simp [i2,this],rfl,w2⟩
  generalize hk4:kids l g st4 z r=k4' at hf m4
  cases k4' with
  | nil=>cases hf
  | cons q qs =>
   obtain ⟨n3,hn3,i3,o3,w3⟩:=(m4 q).1 List.mem_cons_self
   have o3:n3.f0=q:=o3
   have i3:n3.f1=z:=by
    unfold Topo.isL at i3
    rw [Bool.and_eq_true,Bool.or_eq_true,beq_iff_eq,beq_iff_eq]at i3
    rcases i3.1 with c | c
    ·omega
    ·exact c
   refine ⟨n3,hn3,i3,w3,r,?_⟩
   unfold pick
   rw [e3,List.flatMap_cons,List.flatMap_nil,List.append_nil]
   unfold chooseL
   rw [show kids l g st4 (⟨z,r,0⟩:qd).f0 (⟨z,r,0⟩:qd).f1=q :: qs from hk4,o3]
   rfl
theorem qHO(size:Int):∀(hand:List qd)(out:List Int),((out.length+hand.length:Nat):Int)<=size->(hand.map fun x=>x.f2).Nodup->(∀ x ∈ hand,¬ x.f2 ∈ out)->hand.foldl (emit size) out=out++hand.map (fun x=>x.f2)
 | [],out,_,_,_=>(List.append_nil _).symm
 | x :: r,out,hl,hn,ho=>by
  rw [List.map_cons]at hn ⊢
  obtain ⟨h1,h2⟩:=List.nodup_cons.1 hn
  rw [List.length_cons]at hl
  rw [List.foldl_cons,emit,if_pos ⟨by omega,ho x List.mem_cons_self⟩,qHO size r (out++[x.f2]) (by rw [lA,List.length_singleton]; omega) h2,List.append_assoc]
  ·rfl
  ·intro y hy hm
   rcases List.mem_append.1 hm with hm | hm
   ·exact ho y (List.mem_cons_of_mem _ hy) hm
   ·exact h1 (List.mem_map.2 ⟨y,hy,List.mem_singleton.1 hm⟩)
theorem qJU{l:List qA}(h:Topo.Nodes l)(g:Int)(z:Int):z ∈ zonesOf l g↔∃ n ∈ l,n.f1=z/\0<Topo.weight n:=by
 unfold zonesOf
 rw [qGn h]
 exact ⟨fun ⟨n,hn,_,q1,q2⟩=>⟨n,hn,q1,q2⟩,fun ⟨n,hn,q1,q2⟩=>⟨n,hn,rfl,q1,q2⟩⟩
theorem zone_pk{l:List qA}(h:Topo.Nodes l)(g:Int){z:Int}(hz:z ∈ zonesOf l g):∃ n ∈ l,n.f1=z/\0<Topo.weight n/\pk l g z=n.f0/\∃ r,pick l g z=[⟨z,r,pk l g z⟩]:=by
 have hz':=(qJU h g z).1 hz
 have h1:1<=z:=by
  obtain ⟨n,hn,q,_⟩:=hz'
  have:=h.ok n hn
  unfold Topo.okN at this
  omega
 obtain ⟨n,hn,q1,q2,r,e⟩:=qJT h g h1 hz'
 have e2:pk l g z=n.f0:=by unfold pk; rw [e]; rfl
 exact ⟨n,hn,q1,q2,e2,r,e2 ▸ e⟩
theorem qIa{key:Nat}{c:List qB}(h:Draw.Chs c):((Draw.ord key c).map fun x=>x.f0).Nodup:=by
 have hp:((Draw.heavy c).map fun x=>x.f0).Nodup:=by
  unfold List.Nodup
  rw [List.pairwise_map]
  exact (Draw.heavy_up h).imp fun {a b} hab e=>by omega
 exact ((qCu _ _).map fun x:qB=>x.f0).nodup_iff.2 hp
theorem zones_nodup{l:List qA}(h:Topo.Nodes l)(g:Int):(zonesOf l g).Nodup:=qIa (qEe h)
theorem node_uniq{l:List qA}(h:Topo.Nodes l){a b:qA}(ha:a ∈ l)(hb:b ∈ l)(e:a.f0=b.f0):a=b:=by
 obtain ⟨i,hi,rfl⟩:=List.getElem_of_mem ha
 obtain ⟨j,hj,rfl⟩:=List.getElem_of_mem hb
 have hup:=List.pairwise_iff_getElem.1 h.up
 rcases Nat.lt_trichotomy i j with c | c | c
 ·have:=hup i j hi hj c; omega
 ·subst c; rfl
 ·have:=hup j i hj hi c; omega
theorem qDl{α β : Type}{f g : α->List β}: ∀ {l:List α},(∀ x ∈ l,f x=g x)->l.flatMap f=l.flatMap g
 | [],_=>rfl
 | x :: l,h=>by
  rw [List.flatMap_cons,List.flatMap_cons,h x List.mem_cons_self,qDl (fun y hy=>h y (List.mem_cons_of_mem _ hy))]
theorem qGo{α β : Type}(f : α->β)(l:List α):l.flatMap (fun x=>[f x])=l.map f:=by
 induction l with
 | nil=>rfl
 | cons x l ih=>rw [List.flatMap_cons,ih]; rfl
theorem qFK{l:List qA}(h:Topo.Nodes l)(g size:Int)(hs:1<=size/\size<=3):runL l (commonL size) g size=((zonesOf l g).take size.toNat).map (pk l g):=by
 have e:runL l (commonL size) g size=((((zonesOf l g).take size.toNat).map fun z=>(⟨z,0,0⟩:qd)).flatMap (chooseL l g st3) |>.flatMap (chooseL l g st4)).foldl (emit size) []:=by
  have e2:chooseL l g (st2 size) ⟨0,0,0⟩=((zonesOf l g).take size.toNat).map (fun z=>(⟨z,0,0⟩:qd)):=rfl
  have e1:runL l (commonL size) g size=((([⟨0,0,0⟩]:List qd).flatMap (chooseL l g (st2 size))).flatMap (chooseL l g st3) |>.flatMap (chooseL l g st4)).foldl (emit size) []:=rfl
  rw [e1,List.flatMap_cons,List.flatMap_nil,List.append_nil,e2]
 have hmem:∀ z ∈ (zonesOf l g).take size.toNat,z ∈ zonesOf l g:=fun z hz=>List.mem_of_mem_take hz
 have e3:((((zonesOf l g).take size.toNat).map fun z=>(⟨z,0,0⟩:qd)).flatMap (chooseL l g st3)).flatMap (chooseL l g st4)=((zonesOf l g).take size.toNat).map (fun z=>(pick l g z).headD ⟨0,0,0⟩):=by
  rw [List.flatMap_assoc,List.flatMap_map,← qGo]
  refine qDl fun z hz=>?_
  obtain ⟨n,_,_,_,_,r,e⟩:=zone_pk h g (hmem z hz)
  show pick l g z=[(pick l g z).headD ⟨0,0,0⟩]
  rw [e]
  rfl
 have hmap:∀ L:List Int,(L.map fun z=>(pick l g z).headD ⟨0,0,0⟩).map (fun x=>x.f2)=L.map (pk l g):=fun L=>by rw [List.map_map]; rfl
 rw [e,e3,qHO,List.nil_append,hmap]
 ·rw [List.length_map,List.length_take,List.length_nil]
  omega
 ·rw [hmap]
  have hnd:((zonesOf l g).take size.toNat).Nodup:=(zones_nodup h g).sublist (List.take_sublist _ _)
  unfold List.Nodup
  rw [List.pairwise_map]
  refine List.Pairwise.imp_of_mem ?_ hnd
  intro a b ha hb hab e
  obtain ⟨n,hn,q1,_,q2,_⟩:=zone_pk h g (hmem a ha)
  obtain ⟨n',hn',q1',_,q2',_⟩:=zone_pk h g (hmem b hb)
  have:n=n':=node_uniq h hn hn' (by omega)
  subst this
  exact hab (by omega)
 ·intro x _ hx
  cases hx
theorem qFL{size:Int}(hs:1<=size/\size<=3):Rule.May (commonL size):=by
 have:size=1\/size=2\/size=3:=by omega
 rcases this with rfl | rfl | rfl <;> decide
def ofCommon(l:List qA)(g size:Int):List Int:=if Topo.Nodes l/\(0<=g/\g<8)/\1<=size/\size<=3 then ((zonesOf l g).take size.toNat).map (pk l g) else []
theorem of_(l:List qA)(g size:Int):Ev (fun k=>qCM.f k l g size) (ofCommon l g size):=by
 unfold qCM.f
 have hc:Ev (fun k=>qBI.f k size) (if 1<=size/\size<=3 then commonL size else []):=⟨1,fun k hk=>by
  obtain ⟨k,rfl⟩:∃ m,k=m+1:=⟨k - 1,by omega⟩
  exact Rule.common k size⟩
 refine .b hc (.b (run l _ g size) (.cv ?_))
 unfold ofCommon
 by_cases c:Topo.Nodes l/\(0<=g/\g<8)/\1<=size/\size<=3
 ·rw [if_pos c,if_pos c.2.2,if_pos ⟨c.1,qFL c.2.2,c.2.1,c.2.2⟩]
  exact qFK c.1 g size c.2.2
 ·rw [if_neg c,if_neg]
  ·exact fun m=>c ⟨m.1,m.2.2.1,m.2.2.2⟩
theorem rof(l:List qA)(g size:Int)(hl:l.length<4611686018427387904):Ev (fun k=>qAd.f k l g size) (ofCommon l g size):=by
 have hn:¬ (Topo.Nodes l/\(0<=g/\g<8)/\1<=size/\size<=3)->Ev (fun k=>qAd.j12 k l g size true) (ofCommon l g size):=by
  intro c
  unfold ofCommon
  rw [if_neg c]
  exact .s (qAd.j12_s · _ _ _ _) (.t rfl (.c _))
 unfold qAd.f
 refine .b (Topo.may l hl) ?_
 by_cases h:Topo.Nodes l
 ·rw [dT h]
  refine .t rfl (.i (fun c=>hn fun e=>by have:=e.2.1; omega) fun c=>.i (fun c=>hn fun e=>by have:=e.2.1; omega) fun c2=>.i (fun c=>hn fun e=>by have:=e.2.2; omega) fun c3=>?_)
  by_cases c4:size>3
  ·rw [dT c4]
   exact hn fun e=>by have:=e.2.2; omega
  ·rw [dF c4]
   have hs:1<=size/\size<=3:=⟨by omega,by omega⟩
   have hc:qBT.f size=some (commonL size):=rfl
   refine .s (qAd.j12_s · _ _ _ _) (.n (by decide) (.b0 hc (.b (rrun ⟨h,qFL hs,⟨by omega,by omega⟩,hs⟩) (.cv ?_))))
   unfold ofCommon
   rw [if_pos ⟨h,⟨by omega,by omega⟩,hs⟩]
   exact qFK h g size hs
 ·rw [dF h]
  exact .n (by decide) (hn fun e=>h e.1)
theorem find_node{l:List qA}(h:Topo.Nodes l){n:qA}(hn:n ∈ l):l.find? (fun m=>decide (m.f0=n.f0))=some n:=by
 cases hf:l.find? (fun m=>decide (m.f0=n.f0)) with
 | none =>
  have:=List.find?_eq_none.1 hf n hn
  simp at this
 | some m =>
  have h1:=List.find?_some hf
  have h2:=List.mem_of_find?_eq_some hf
  rw [node_uniq h h2 hn (oT h1)]
end Place
end Go.Proofs.YthgfhlbjkmjlpaaGreat.GD
