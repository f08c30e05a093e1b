import Derived.Test.YtpohepinmjmbkaaGreatMXoMapsTrails
import Derived.Test.YtpohepinmjmbkaaGreatMixn
import Derived.Test.YtpohepinmjmbkaaGreatNegn
namespace Go.Proofs.YtpohepinmjmbkaaGreat.MX
open Go Go.RowKit Go.Proofs.YtpohepinmjmbkaaGreat Go.Proofs.YtpohepinmjmbkaaGreat.Sl
set_option linter.unusedVariables false
set_option linter.unusedSimpArgs false
theorem dT{p:Prop}[Decidable p](h:p):decide p=true:=_root_.decide_eq_true h
theorem dF{p:Prop}[Decidable p](h:¬ p):decide p=false:=_root_.decide_eq_false h
theorem oT{p:Prop}[Decidable p](h:decide p=true):p:=_root_.of_decide_eq_true h
theorem gM{α : Type}{l:List α}{n:Nat}(h:n<l.length):l[n] ∈ l:=List.getElem_mem h
theorem tN(n:Nat):(n:Int).toNat=n:=Int.toNat_natCast n
theorem lA{α : Type}{a b:List α}: (a++b).length=a.length+b.length:=List.length_append
theorem w64n(i:Nat)(h:i<9223372036854775807):w64 ((i:Int)+1)=((i+1:Nat):Int):=by rw [qBj (by omega) (by omega)]; omega
theorem w64p(i:Nat)(h:i<9223372036854775807)(h0:0<i):w64 ((i:Int) - 1)=((i - 1:Nat):Int):=by rw [qBj (by omega) (by omega)]; omega
theorem nth_get{α : Type}(z : α)(l:List α)(i:Nat)(h:i<l.length):nth z l (i:Int)=l[i]:=by simp [nth,h]
def Ev{β : Type}(f:Nat→Option β)(v : β):Prop:=∃ K,∀ k,K≤k→f k=some v
theorem Ev.c{β : Type}(v : β):Ev (fun _=>some v) v:=⟨0,fun _ _=>rfl⟩
theorem Ev.cv{β : Type}{v w : β}(h:v=w):Ev (fun _=>some v) w:=⟨0,fun _ _=>congrArg some h⟩
theorem Ev.v{β : Type}{f:Nat→Option β}{v w : β}(h:Ev f v)(e:v=w):Ev f w:=e ▸ h
theorem Ev.s{β : Type}{f g:Nat→Option β}{v : β}(h:∀ k,f (k+1)=g k)(hg:Ev g v):Ev f v:=by
 obtain ⟨K,hK⟩:=hg
 refine ⟨K+1,fun k hk=>?_⟩
 obtain ⟨k,rfl⟩:∃ m,k=m+1:=⟨k - 1,by omega⟩
 rw [h]
 exact hK k (by omega)
theorem Ev.b{α β : Type}{f:Nat→Option α}{g:Nat→α→Option β}{a : α}{v : β}(hf:Ev f a)(hg:Ev (fun k=>g k a) v):Ev (fun k=>(f k).bind (g k)) v:=by
 obtain ⟨K,hK⟩:=hf
 obtain ⟨L,hL⟩:=hg
 refine ⟨K+L,fun k hk=>?_⟩
 show (f k).bind (g k)=some v
 rw [hK k (by omega),Option.bind_some]
 exact hL k (by omega)
theorem Ev.b0{α β : Type}{o:Option α}{g:Nat→α→Option β}{a : α}{v : β}(ho:o=some a)(hg:Ev (fun k=>g k a) v):Ev (fun k=>o.bind (g k)) v:=Ev.b ⟨0,fun _ _=>ho⟩ hg
theorem Ev.i{β : Type}{c:Prop}[Decidable c]{f g:Nat→Option β}{v : β}(hf:c→Ev f v)(hg:¬ c→Ev g v):Ev (fun k=>if c then f k else g k) v:=by
 by_cases h:c
 ·simpa only [if_pos h] using hf h
 ·simpa only [if_neg h] using hg h
theorem Ev.t{β : Type}{c:Prop}[Decidable c]{f g:Nat→Option β}{v : β}(h:c)(hf:Ev f v):Ev (fun k=>if c then f k else g k) v:=Ev.i (fun _=>hf) (fun n=>absurd h n)
theorem Ev.n{β : Type}{c:Prop}[Decidable c]{f g:Nat→Option β}{v : β}(h:¬ c)(hg:Ev g v):Ev (fun k=>if c then f k else g k) v:=Ev.i (fun n=>absurd n h) (fun _=>hg)
theorem Ev.one{α : Type}{f:Nat→Option α}{v : α}(hf:Ev f v):∃ k,f k=some v:=by
 obtain ⟨K,hK⟩:=hf
 exact ⟨K,hK _ (by omega)⟩
def eno:Bool→Int
 | true=>0
 | false=>1
def Ht{β : Type}(f:Nat→Option β)(P : β→Prop):Prop:=∃ v,Ev f v∧P v
theorem Ht.c{β : Type}{v : β}{P : β→Prop}(h:P v):Ht (fun _=>some v) P:=⟨v,.c v,h⟩
theorem Ht.s{β : Type}{f g:Nat→Option β}{P : β→Prop}(h:∀ k,f (k+1)=g k):Ht g P→Ht f P:=fun ⟨v,e,p⟩=>⟨v,.s h e,p⟩
theorem Ht.b{α β : Type}{f:Nat→Option α}{g:Nat→α→Option β}{Q : α→Prop}{P : β→Prop}: Ht f Q→(∀ a,Q a→Ht (fun k=>g k a) P)→Ht (fun k=>(f k).bind (g k)) P:=fun ⟨a,e,q⟩ h=>by
 obtain ⟨v,e2,p⟩:=h a q
 exact ⟨v,.b e e2,p⟩
theorem Ht.e{α β : Type}{f:Nat→Option α}{g:Nat→α→Option β}{a : α}{P : β→Prop}(e:Ev f a):Ht (fun k=>g k a) P→Ht (fun k=>(f k).bind (g k)) P:=fun ⟨v,e2,p⟩=>⟨v,.b e e2,p⟩
theorem Ht.o{α β : Type}{o:Option α}{g:Nat→α→Option β}{a : α}{P : β→Prop}(e:o=some a):Ht (fun k=>g k a) P→Ht (fun k=>o.bind (g k)) P:=fun ⟨v,e2,p⟩=>⟨v,.b0 e e2,p⟩
theorem Ht.i{β : Type}{c:Prop}[Decidable c]{f g:Nat→Option β}{P : β→Prop}(hf:c→Ht f P)(hg:¬ c→Ht g P):Ht (fun k=>if c then f k else g k) P:=by
 by_cases h:c
 ·simpa only [if_pos h] using hf h
 ·simpa only [if_neg h] using hg h
theorem Ht.t{β : Type}{c:Prop}[Decidable c]{f g:Nat→Option β}{P : β→Prop}(h:c)(hf:Ht f P):Ht (fun k=>if c then f k else g k) P:=.i (fun _=>hf) (fun n=>absurd h n)
theorem Ht.n{β : Type}{c:Prop}[Decidable c]{f g:Nat→Option β}{P : β→Prop}(h:¬ c)(hg:Ht g P):Ht (fun k=>if c then f k else g k) P:=.i (fun n=>absurd n h) (fun _=>hg)
namespace Topo
theorem tin(x a b:Int):qBN.f x a b=some (decide (a≤x∧x≤b)):=by
 unfold qBN.f
 by_cases h:x≥a
 ·rw [if_pos h]
  congr 1
  simp only [decide_eq_decide]
  omega
 ·rw [if_neg h,dF (by omega)]
def okN(n:qA):Prop:=(1≤n.f0∧n.f0≤999)∧(1≤n.f1∧n.f1≤9)∧(1≤n.f2∧n.f2≤9)∧0≤n.f3∧n.f3≤65536
instance (n:qA):Decidable (okN n):=inferInstanceAs (Decidable (_∧_))
def rise:Int→List qA→Bool
 | _,[]=>true
 | p,n :: l=>decide (okN n∧p<n.f0)&&rise n.f0 l
def pre(l:List qA)(i:Nat):Int:=if i=0 then 0 else (nth qA.z l (w64 ((i:Int) - 1))).f0
theorem qES(l:List qA)(i:Nat)(h:i<l.length)(hl:l.length<4611686018427387904):pre l (i+1)=l[i].f0:=by
 unfold pre
 rw [if_neg (by omega),w64p (i+1) (by omega) (by omega),show i+1 - 1=i by omega,nth_get _ _ _ h]
def Nodes(l:List qA):Prop:=l.length≤12∧rise 0 l=true
instance (l:List qA):Decidable (Nodes l):=inferInstanceAs (Decidable (_∧_))
theorem qGK(l:List qA)(hl:l.length<4611686018427387904):∀(d i:Nat),i+d=l.length→Ev (fun k=>qz.l9 k l (i:Int)) (eno (rise (pre l i) (l.drop i))):=by
 intro d
 induction d with
 | zero =>
  intro i hi
  refine .s (qz.l9_s · _ _) (.n (by omega) (.cv ?_))
  rw [List.drop_eq_nil_of_le (by omega)]
  rfl
 | succ d ih =>
  intro i hi
  have h1:i<l.length:=by omega
  refine .s (qz.l9_s · _ _) (.t (by omega) (.t (by omega) ?_))
  have ih:=ih (i+1) (by omega)
  rw [qES l i h1 hl]at ih
  rw [List.drop_eq_getElem_cons h1,nth_get _ _ _ h1]
  have hj:∀ b:Bool,(b=true↔¬ (okN l[i]∧pre l i<l[i].f0))→Ev (fun k=>qz.j49 k l (i:Int) b) (eno (rise (pre l i) (l[i] :: l.drop (i+1)))):=by
   intro b hb
   refine .s (qz.j49_s · _ _ _) ?_
   simp only [rise]
   by_cases h:okN l[i]∧pre l i<l[i].f0
   ·refine .n (fun e=>(hb.1 e) h) ?_
    rw [w64n i (by omega),dT h,Bool.true_and]
    exact ih
   ·refine .t (hb.2 h) (.cv ?_)
    rw [dF h,Bool.false_and]
    rfl
  clear ih
  have hp0:i=0→pre l i=0:=fun e=>if_pos e
  have hp1:i≠0→(nth qA.z l (w64 ((i:Int) - 1))).f0=pre l i:=fun e=>(if_neg e).symm
  have hw:i≠0→w64 ((i:Int) - 1)=((i - 1:Nat):Int):=fun e=>w64p i (by omega) (by omega)
  unfold okN at hj
  generalize hv:eno (rise (pre l i) (l[i] :: l.drop (i+1)))=v at hj ⊢
  clear hv
  generalize pre l i=p at *
  generalize (nth qA.z l (w64 ((i:Int) - 1))).f0=q at *
  generalize l[i]=n at *
  repeat' (first | refine Ev.b0 (tin _ _ _) ?_ | refine Ev.i (fun _=>?_) (fun _=>?_))
  all_goals simp only [decide_eq_true_eq]at *
  all_goals first
   | exact hj _ (by simp only [decide_eq_true_eq,Bool.false_eq_true,true_iff,false_iff]; omega)
   | (exfalso; omega)
theorem check'(l:List qA):Ev (fun k=>qz.f k l) (eno (decide (Nodes l))):=by
 unfold qz.f
 refine .i (fun h=>.cv ?_) (fun h=>(qGK l (by omega) l.length 0 (by omega)).v ?_)
 ·rw [dF (fun n:Nodes l=>by have:=n.1; omega)]
  rfl
 ·rw [show pre l 0=0 from rfl,List.drop_zero]
  congr 1
  rw [Bool.eq_iff_iff,decide_eq_true_eq]
  exact ⟨fun h0=>⟨by omega,h0⟩,fun n=>n.2⟩
theorem check(l:List qA)(_:l.length<4611686018427387904):Ev (fun k=>qz.f k l) (eno (decide (Nodes l))):=check' l
theorem qHM(l:List qA)(hl:l.length<4611686018427387904):∀(d i:Nat),i+d=l.length→Ev (fun k=>qh.l5 k l (i:Int)) (rise (pre l i) (l.drop i)&&decide (l.length≤12)):=by
 intro d
 induction d with
 | zero =>
  intro i hi
  refine .s (qh.l5_s · _ _) (.n (by omega) (.cv ?_))
  rw [List.drop_eq_nil_of_le (by omega)]
  simp only [rise,Bool.true_and,decide_eq_decide]
  omega
 | succ d ih =>
  intro i hi
  have h1:i<l.length:=by omega
  refine .s (qh.l5_s · _ _) (.t (by omega) (.t (by omega) ?_))
  have ih:=ih (i+1) (by omega)
  rw [qES l i h1 hl]at ih
  rw [List.drop_eq_getElem_cons h1,nth_get _ _ _ h1]
  have hj:∀ b:Bool,(b=true↔¬ (okN l[i]∧pre l i<l[i].f0))→Ev (fun k=>qh.j37 k l (i:Int) b) (rise (pre l i) (l[i] :: l.drop (i+1))&&decide (l.length≤12)):=by
   intro b hb
   refine .s (qh.j37_s · _ _ _) ?_
   simp only [rise]
   by_cases h:okN l[i]∧pre l i<l[i].f0
   ·refine .n (fun e=>(hb.1 e) h) ?_
    rw [w64n i (by omega),dT h,Bool.true_and]
    exact ih
   ·refine .t (hb.2 h) (.cv ?_)
    rw [dF h,Bool.false_and,Bool.false_and]
  clear ih
  have hp0:i=0→pre l i=0:=fun e=>if_pos e
  have hp1:i≠0→(nth qA.z l (w64 ((i:Int) - 1))).f0=pre l i:=fun e=>(if_neg e).symm
  have hw:i≠0→w64 ((i:Int) - 1)=((i - 1:Nat):Int):=fun e=>w64p i (by omega) (by omega)
  unfold okN at hj
  generalize hv:(rise (pre l i) (l[i] :: l.drop (i+1))&&decide (l.length≤12))=v at hj ⊢
  clear hv
  generalize pre l i=p at *
  generalize (nth qA.z l (w64 ((i:Int) - 1))).f0=q at *
  generalize l[i]=n at *
  repeat' (first | refine Ev.i (fun _=>?_) (fun _=>?_))
  all_goals first
   | exact hj _ (by simp only [decide_eq_true_eq,Bool.false_eq_true,true_iff,false_iff]; omega)
   | (exfalso; omega)
theorem may(l:List qA)(hl:l.length<4611686018427387904):Ev (fun k=>qh.f k l) (decide (Nodes l)):=by
 unfold qh.f
 refine (qHM l hl l.length 0 (by omega)).v ?_
 rw [show pre l 0=0 from rfl,List.drop_zero,Bool.eq_iff_iff,Bool.and_eq_true,decide_eq_true_eq,decide_eq_true_eq]
 exact And.comm
theorem qGL(l:List Int)(v:Int)(hl:l.length<4611686018427387904):∀(d i:Nat),i+d=l.length→∃ x,Ev (fun k=>qv.l5 k l v (i:Int)) x∧(0≤x↔v ∈ l.drop i):=by
 intro d
 induction d with
 | zero =>
  intro i hi
  refine ⟨-1,.s (qv.l5_s · _ _ _) (.n (by omega) (.c _)),?_⟩
  rw [List.drop_eq_nil_of_le (by omega)]
  simp
 | succ d ih =>
  intro i hi
  have h1:i<l.length:=by omega
  obtain ⟨x,hx,hm⟩:=ih (i+1) (by omega)
  by_cases h:v=l[i]
  ·refine ⟨i,.s (qv.l5_s · _ _ _) (.t (by omega) (.t (by omega) (.t (by rw [nth_get _ _ _ h1]; exact h) (.c _)))),?_⟩
   rw [List.drop_eq_getElem_cons h1]
   exact ⟨fun _=>List.mem_cons.2 (.inl h),fun _=>by omega⟩
  ·refine ⟨x,.s (qv.l5_s · _ _ _) (.t (by omega) (.t (by omega) (.n (by rw [nth_get _ _ _ h1]; exact h) ?_))),?_⟩
   ·rw [w64n i (by omega)]
    exact hx
   ·rw [List.drop_eq_getElem_cons h1,hm]
    exact ⟨fun m=>List.mem_cons.2 (.inr m),fun m=>(List.mem_cons.1 m).resolve_left h⟩
theorem contains(l:List Int)(v:Int)(hl:l.length<4611686018427387904):Ev (fun k=>qAB.f k l v) (decide (v ∈ l)):=by
 obtain ⟨x,hx,hm⟩:=qGL l v hl l.length 0 (by omega)
 unfold qAB.f qv.f
 refine .b hx (.cv ?_)
 rw [decide_eq_decide]
 exact hm
end Topo
namespace Draw
theorem u64n(n:Nat)(h:n<18446744073709551616):IntKind.u64.wrap (n:Int)=n:=by rw [IntKind.wrap_u64]; omega
theorem qFU(a b:Nat)(ha:a<18446744073709551616)(hb:b<18446744073709551616):IntKind.u64.wrap (((BitVec.ofInt 64 (a:Int) ^^^ BitVec.ofInt 64 (b:Int)).toNat:Int))=((a ^^^ b:Nat):Int):=by
 have h:(BitVec.ofInt 64 (a:Int) ^^^ BitVec.ofInt 64 (b:Int)).toNat=a ^^^ b:=by
  rw [BitVec.toNat_xor,BitVec.ofInt_natCast,BitVec.ofInt_natCast,BitVec.toNat_ofNat,BitVec.toNat_ofNat,Nat.mod_eq_of_lt (by omega),Nat.mod_eq_of_lt (by omega)]
 rw [h,u64n _ (Mixn.xor_lt ha hb)]
theorem sh_i(x:Nat)(hx:x<18446744073709551616):IntKind.u64.wrap (((BitVec.ofInt 64 (x:Int) ^^^ BitVec.ofInt 64 ((x:Int).fdiv 4294967296)).toNat:Int))=((Mixn.sh x:Nat):Int):=by
 have e:(x:Int).fdiv 4294967296=((x / 4294967296:Nat):Int):=by rw [Int.fdiv_eq_ediv_of_nonneg _ (by omega)]; omega
 rw [e,qFU _ _ hx (by omega)]
 rfl
theorem mf_i(n:Nat):IntKind.u64.wrap ((n:Int) * 15485907386658061715)=((Mixn.mf n:Nat):Int):=by
 rw [IntKind.wrap_u64]
 rfl
theorem mix(x:Nat)(hx:x<18446744073709551616):Ev (fun k=>qAu.f k (x:Int)) ((Mixn.mix x:Nat):Int):=by
 unfold qAu.f
 refine .s (qAu.l6_s · _ _) (.t (by omega) ?_)
 rw [sh_i x hx,mf_i]
 refine .s (qAu.l6_s · _ _) (.t (by decide) ?_)
 rw [sh_i _ (Mixn.mf_lt _),mf_i]
 refine .s (qAu.l6_s · _ _) (.n (by decide) (.cv ?_))
 rw [sh_i _ (Mixn.mf_lt _)]
 rfl
theorem qHN(s n:Nat)(hs:s<18446744073709551616)(hn:n<18446744073709551616):IntKind.u64.wrap ((IntKind.u64.wrap (((BitVec.ofInt 64 (s:Int) ^^^ BitVec.ofInt 64 (n:Int)).toNat:Int)))+11400714819323198485)=((((s ^^^ n)+11400714819323198485) % 18446744073709551616:Nat):Int):=by
 rw [qFU _ _ hs hn,IntKind.wrap_u64]
 rfl
def ofN(l:List Nat):List Int:=l.map Int.ofNat
theorem qGt(l:List Nat)(i:Nat)(h:i<(ofN l).length):(ofN l)[i]=((l[i]'(by simpa [ofN] using h):Nat):Int):=by simp [ofN]
theorem qGM(l:List Nat)(hl:∀ x ∈ l,x<18446744073709551616)(hn:l.length<4611686018427387904):∀(d i s:Nat),i+d=l.length→s<18446744073709551616→Ev (fun k=>qAg.l10 k (ofN l) (s:Int) (i:Int)) (((l.drop i).foldl Mixn.step s:Nat):Int):=by
 have hlen:(ofN l).length=l.length:=List.length_map ..
 intro d
 induction d with
 | zero =>
  intro i s hi hs
  refine .s (qAg.l10_s · _ _ _) (.n (by omega) (.cv ?_))
  rw [List.drop_eq_nil_of_le (by omega)]
  rfl
 | succ d ih =>
  intro i s hi hs
  have h1:i<l.length:=by omega
  refine .s (qAg.l10_s · _ _ _) (.t (by omega) (.t (by omega) ?_))
  rw [nth_get _ _ _ (by omega),qGt,qHN s _ hs (hl _ (gM h1)),w64n i (by omega),List.drop_eq_getElem_cons h1]
  exact .b (mix _ (Nat.mod_lt _ (by decide))) (ih (i+1) _ (by omega) (Mixn.step_lt _ _))
theorem fold(s:Nat)(hs:s<18446744073709551616)(l:List Nat)(hl:∀ x ∈ l,x<18446744073709551616)(hn:l.length<4611686018427387904):Ev (fun k=>qAg.f k (s:Int) (ofN l)) ((Mixn.fold s l:Nat):Int):=by
 unfold qAg.f
 exact .b (mix s hs) (qGM l hl hn l.length 0 _ (by omega) (Mixn.mix_lt _))
theorem qHO(z:Nat)(hz:z≤2147483648):IntKind.u64.wrap (Int.tdiv (IntKind.u64.wrap ((z:Int) * (z:Int))) 2147483648)=((z * z / 2147483648:Nat):Int)∧z * z / 2147483648≤2147483648:=by
 have h1:z * z≤2147483648 * 2147483648:=Nat.mul_le_mul hz hz
 have h2:(2147483648:Nat) * 2147483648=4611686018427387904:=by decide
 rw [h2]at h1
 have e:(z:Int) * (z:Int)=((z * z:Nat):Int):=by rw [Int.natCast_mul]
 have h3:z * z / 2147483648≤2147483648:=by omega
 rw [e,u64n _ (by omega),Int.tdiv_eq_ediv_of_nonneg (Int.natCast_nonneg _)]
 have e2:((z * z:Nat):Int) / 2147483648=((z * z / 2147483648:Nat):Int):=by rw [Int.natCast_ediv]; rfl
 rw [e2,u64n _ (by omega)]
 exact ⟨rfl,h3⟩
theorem p16(i:Nat)(h:i≤16):2 ^ i≤65536:=Nat.le_trans (Nat.pow_le_pow_right (by decide) h) (by decide)
theorem qGN(c:Nat)(hc:c≤17):∀(d z f i:Nat),i+d=16→z≤2147483648→f<2 ^ i→Ev (fun k=>qx.l31 k (c:Int) (z:Int) (f:Int) (i:Int)) ((c * 65536+Negn.bitsOf d z f:Nat):Int):=by
 intro d
 induction d with
 | zero =>
  intro z f i hi hz hf
  have hp:=p16 i (by omega)
  refine .s (qx.l31_s · _ _ _ _) (.n (by omega) (.cv ?_))
  rw [qBj (n:=(c:Int) * 65536) (by omega) (by omega),qBj (by omega) (by omega)]
  rfl
 | succ d ih =>
  intro z f i hi hz hf
  have hp:=p16 i (by omega)
  have hp2:2 ^ (i+1)=2 * 2 ^ i:=by rw [Nat.pow_succ,Nat.mul_comm]
  obtain ⟨e1,h1⟩:=qHO z hz
  have w2:w64 ((f:Int) * 2)=((2 * f:Nat):Int):=by rw [qBj (by omega) (by omega)]; omega
  have w3:w64 (((2 * f:Nat):Int)+1)=((2 * f+1:Nat):Int):=w64n _ (by omega)
  refine .s (qx.l31_s · _ _ _ _) (.t (by omega) ?_)
  rw [e1,w2,w3,w64n i (by omega),Negn.bitsOf]
  clear w2 w3 e1
  generalize z * z / 2147483648=y at *
  by_cases cy:y≤1073741824
  ·have w4:IntKind.u64.wrap ((y:Int) * 2)=((2 * y:Nat):Int):=by rw [IntKind.wrap_u64]; omega
   rw [if_pos cy]
   refine .t (by omega) ?_
   rw [w4]
   exact ih (2 * y) (2 * f+1) (i+1) (by omega) (by omega) (by omega)
  ·rw [if_neg cy]
   exact .n (by omega) (ih y (2 * f) (i+1) (by omega) (by omega) (by omega))
theorem qGO:∀(d u c:Nat),32768<u * 2 ^ d→u≤65536→c+d≤16→Ev (fun k=>qx.l17 k (u:Int) (c:Int)) ((c * 65536+Negn.cst (d+1) u:Nat):Int):=by
 have base:∀(u c n:Nat),32768<u→u≤65536→c≤16→Ev (fun k=>qx.l17 k (u:Int) (c:Int)) ((c * 65536+Negn.cst (n+1) u:Nat):Int):=by
  intro u c n h h1 hc
  have w1:IntKind.u64.wrap (IntKind.u64.wrap (u:Int) * 32768)=((u * 32768:Nat):Int):=by rw [u64n _ (by omega),IntKind.wrap_u64]; omega
  refine .s (qx.l17_s · _ _) (.n (by omega) ?_)
  rw [w1,Negn.cst_succ,if_neg (by omega)]
  exact qGN c (by omega) 16 (u * 32768) 0 0 (by omega) (by omega) (by decide)
 intro d
 induction d with
 | zero =>
  intro u c h h1 hc
  rw [Nat.pow_zero,Nat.mul_one]at h
  exact base u c 0 h h1 (by omega)
 | succ d ih =>
  intro u c h h1 hc
  by_cases cu:u≤32768
  ·have h2:u * 2 ^ (d+1)=2 * u * 2 ^ d:=by rw [Nat.pow_succ,Nat.mul_comm (2 ^ d) 2,← Nat.mul_assoc,Nat.mul_comm u 2]
   have w1:w64 ((u:Int) * 2)=((2 * u:Nat):Int):=by rw [qBj (by omega) (by omega)]; omega
   refine .s (qx.l17_s · _ _) (.t (by omega) ?_)
   rw [w1,w64n c (by omega),Negn.cst_succ,if_pos cu]
   have ih:=ih (2 * u) (c+1) (by omega) (by omega) (by omega)
   generalize Negn.cst (d+1) (2 * u)=y at *
   exact ih.v (congrArg Int.ofNat (by omega))
  ·exact base u c (d+1) (by omega) h1 (by omega)
def costI(a:Int):Int:=if 1≤a∧a≤65536 then ((Negn.cost a.toNat:Nat):Int) else 0
theorem cost(a:Int):Ev (fun k=>qx.f k a) (costI a):=by
 have hbad:¬ (1≤a∧a≤65536)→Ev (fun k=>qx.j6 k a true) (costI a):=fun h=>.s (qx.j6_s · _ _) (.t rfl (.cv (if_neg h).symm))
 unfold qx.f
 refine .i (fun h=>hbad (by omega)) (fun h=>?_)
 by_cases h2:a>65536
 ·rw [dT h2]
  exact hbad (by omega)
 ·rw [dF h2]
  obtain ⟨u,rfl⟩:∃ u:Nat,a=u:=⟨a.toNat,by omega⟩
  refine .s (qx.j6_s · _ _) (.n (by decide) ((qGO 16 u 0 (by omega) (by omega) (by omega)).v ?_))
  rw [costI,if_pos ⟨by omega,by omega⟩,tN,Nat.zero_mul,Nat.zero_add]
  rfl
def un(a:Int):Nat:=(IntKind.u64.wrap a).toNat
theorem un_eq(a:Int):IntKind.u64.wrap a=(un a:Int)∧un a<18446744073709551616:=by
 unfold un
 rw [IntKind.wrap_u64]
 omega
def dc(key:Nat)(id:Int):Int:=costI (1+((Mixn.fold key [un id] / 281474976710656:Nat):Int))
theorem qET(key:Nat)(id:Int):0≤dc key id∧dc key id≤1179648:=by
 unfold dc costI
 split
 ·exact ⟨by omega,by have:=Negn.cost_le (1+((Mixn.fold key [un id] / 281474976710656:Nat):Int)).toNat; omega⟩
 ·omega
theorem fold_lt(key:Nat)(n:Nat):Mixn.fold key [n] < 18446744073709551616:=by
 unfold Mixn.fold
 rw [List.foldl_cons,List.foldl_nil]
 exact Mixn.step_lt _ _
theorem dcost(key:Nat)(hkey:key<18446744073709551616)(id:Int):Ev (fun k=>qBH.f k (key:Int) id) (dc key id):=by
 have hlt:=fold_lt key (un id)
 have h1:=fold key hkey [un id] (fun x hx=>by rw [List.mem_singleton.1 hx]; exact (un_eq id).2) (by simp)
 unfold qBH.f
 rw [(un_eq id).1]
 refine .b h1 ?_
 have e:((Mixn.fold key [un id]:Nat):Int).fdiv 281474976710656=((Mixn.fold key [un id] / 281474976710656:Nat):Int):=by rw [Int.fdiv_eq_ediv_of_nonneg _ (by omega)]; omega
 rw [e,qBj (n:=((Mixn.fold key [un id] / 281474976710656:Nat):Int)) (by omega) (by omega),qBj (by omega) (by omega)]
 exact .b (cost _) (.c _)
theorem nin(x:Int):qAs.f x=some (decide (0≤x∧x≤2147483647)):=by
 unfold qAs.f
 by_cases h:x≥0
 ·rw [if_pos h]
  congr 1
  rw [decide_eq_decide]
  omega
 ·rw [if_neg h,dF (by omega)]
theorem qFV{a b:Int}(h0:0≤a)(h1:a≤1179648)(h2:0≤b)(h3:b≤65536):w64 (a * b)=a * b:=by
 have h4:0≤a * b:=Int.mul_nonneg h0 h2
 have h5:a * b≤1179648 * 65536:=Int.mul_le_mul h1 h3 h2 (by omega)
 generalize a * b=p at h4 h5 ⊢
 exact qBj (by omega) (by omega)
theorem better{a b c d:Int}(ha:0≤a∧a≤1179648)(hb:1≤b∧b≤65536)(hc:0≤c∧c≤1179648)(hd:1≤d∧d≤65536):qAh.f a b c d=some (decide (a * d<c * b)):=by
 unfold qAh.f
 rw [nin,nin,nin,nin,dT (show 0≤a∧a≤2147483647 by omega),dT (show 0≤b∧b≤2147483647 by omega),dT (show 0≤c∧c≤2147483647 by omega),dT (show 0≤d∧d≤2147483647 by omega)]
 simp only [Option.bind_some,if_true]
 rw [if_pos (by omega),if_pos (by omega),qFV ha.1 ha.2 (by omega) hd.2,qFV hc.1 hc.2 (by omega) hb.2]
def cmpD(key:Nat)(x y:qB):Int:=if dc key x.f0 * y.f1<dc key y.f0 * x.f1 then -1 else if dc key y.f0 * x.f1<dc key x.f0 * y.f1 then 1 else x.f0 - y.f0
def fineC(x:qB):Prop:=(0≤x.f0∧x.f0≤2147483647)∧1≤x.f1∧x.f1≤65536
theorem compare(key:Nat)(hkey:key<18446744073709551616)(x y:qB)(hx:fineC x)(hy:fineC y):Ev (fun k=>qAx.f k (key:Int) x y) (cmpD key x y):=by
 unfold qAx.f cmpD
 refine .b (dcost key hkey _) (.b (dcost key hkey _) ?_)
 have bx:=qET key x.f0
 have bY:=qET key y.f0
 have e1:=better bx hx.2 bY hy.2
 have e2:=better bY hy.2 bx hx.2
 have hx1:=hx.1
 have hy1:=hy.1
 refine .b0 e1 ?_
 by_cases h1:dc key x.f0 * y.f1<dc key y.f0 * x.f1
 ·rw [if_pos h1]
  exact .t (dT h1) (.c _)
 ·rw [if_neg h1]
  refine .n (by simpa using h1) (.b0 e2 ?_)
  by_cases h2:dc key y.f0 * x.f1<dc key x.f0 * y.f1
  ·rw [if_pos h2]
   exact .t (dT h2) (.c _)
  ·rw [if_neg h2]
   exact .n (by simpa using h2) (.cv (qBj (by omega) (by omega)))
theorem qGP{a b c d e f:Int}(hb:0<b)(hd:0<d)(hf:0<f)(h1:a * d≤c * b)(h2:c * f≤e * d):a * f≤e * b:=by
 have h3:=Int.mul_le_mul_of_nonneg_right h1 (Int.le_of_lt hf)
 have h4:=Int.mul_le_mul_of_nonneg_right h2 (Int.le_of_lt hb)
 refine Int.le_of_mul_le_mul_right (a:=d) ?_ hd
 rw [Int.mul_right_comm a f d,Int.mul_right_comm e b d]
 rw [Int.mul_right_comm c b f]at h3
 exact Int.le_trans h3 h4
theorem qCQ{a b c d e f:Int}(hb:0<b)(hd:0<d)(hf:0<f)(h1:a * d<c * b)(h2:c * f≤e * d):a * f<e * b:=by
 have h3:=Int.mul_lt_mul_of_pos_right h1 hf
 have h4:=Int.mul_le_mul_of_nonneg_right h2 (Int.le_of_lt hb)
 refine Int.lt_of_mul_lt_mul_right (a:=d) ?_ (Int.le_of_lt hd)
 rw [Int.mul_right_comm a f d,Int.mul_right_comm e b d]
 rw [Int.mul_right_comm c b f]at h3
 exact Int.lt_of_lt_of_le h3 h4
theorem qCx{a b c d e f:Int}(hb:0<b)(hd:0<d)(hf:0<f)(h1:a * d≤c * b)(h2:c * f<e * d):a * f<e * b:=by
 have h3:=Int.mul_le_mul_of_nonneg_right h1 (Int.le_of_lt hf)
 have h4:=Int.mul_lt_mul_of_pos_right h2 hb
 refine Int.lt_of_mul_lt_mul_right (a:=d) ?_ (Int.le_of_lt hd)
 rw [Int.mul_right_comm a f d,Int.mul_right_comm e b d]
 rw [Int.mul_right_comm c b f]at h3
 exact Int.lt_of_le_of_lt h3 h4
def ltD(key:Nat)(x y:qB):Prop:=dc key x.f0 * y.f1<dc key y.f0 * x.f1∨(dc key x.f0 * y.f1≤dc key y.f0 * x.f1∧x.f0<y.f0)
theorem qGu(key:Nat)(x y:qB):cmpD key x y<0↔ltD key x y:=by
 unfold cmpD ltD
 generalize dc key x.f0 * y.f1=a
 generalize dc key y.f0 * x.f1=b
 by_cases h1:a<b
 ·rw [if_pos h1]
  exact ⟨fun _=>.inl h1,fun _=>by omega⟩
 ·rw [if_neg h1]
  by_cases h2:b<a
  ·rw [if_pos h2]
   exact ⟨fun h=>by omega,fun h=>by omega⟩
  ·rw [if_neg h2]
   exact ⟨fun h=>.inr ⟨by omega,by omega⟩,fun h=>by omega⟩
theorem qEj(key:Nat)(x:qB):¬ ltD key x x:=fun h=>by
 unfold ltD at h
 omega
theorem qDj{key:Nat}{x y z:qB}(hx:fineC x)(hy:fineC y)(hz:fineC z)(h1:ltD key x y)(h2:ltD key y z):ltD key x z:=by
 have b1:0<x.f1:=by have:=hx.2; omega
 have b2:0<y.f1:=by have:=hy.2; omega
 have b3:0<z.f1:=by have:=hz.2; omega
 rcases h1 with h1 | ⟨h1,i1⟩
 ·rcases h2 with h2 | ⟨h2,i2⟩
  ·exact .inl (qCQ b1 b2 b3 h1 (Int.le_of_lt h2))
  ·exact .inl (qCQ b1 b2 b3 h1 h2)
 ·rcases h2 with h2 | ⟨h2,i2⟩
  ·exact .inl (qCx b1 b2 b3 h1 h2)
  ·exact .inr ⟨qGP b1 b2 b3 h1 h2,Int.lt_trans i1 i2⟩
theorem qDk(key:Nat)(x y:qB)(h:x.f0≠y.f0):ltD key x y∨ltD key y x:=by
 unfold ltD
 omega
theorem qGf{α β : Type}(f:Nat→α→Option β)(v : α→β):∀ l:List α,(∀ x ∈ l,Ev (fun k=>f k x) (v x))→∃ K,∀ k,K≤k→∀ x ∈ l,f k x=some (v x)
 | [],_=>⟨0,fun _ _ _ h=>nomatch h⟩
 | x :: l,h=>by
  obtain ⟨K,hK⟩:=h x List.mem_cons_self
  obtain ⟨L,hL⟩:=qGf f v l (fun y m=>h y (List.mem_cons_of_mem _ m))
  refine ⟨K+L,fun k hk y hy=>?_⟩
  rcases List.mem_cons.1 hy with rfl | hy
  ·exact hK k (by omega)
  ·exact hL k (by omega) y hy
def fineL(l:List qB):Prop:=(∀ x ∈ l,fineC x)∧∀ x ∈ l,∀ y ∈ l,x.f0=y.f0→x=y
instance (key:Nat) (x y:qB):Decidable (ltD key x y):=inferInstanceAs (Decidable (_∨_))
def ltB(key:Nat)(x y:qB):Bool:=decide (ltD key x y)
theorem qCR{α : Type}(f g : α→α→Bool)(x : α):∀ l:List α,(∀ y ∈ l,f x y=g x y)→insertL f x l=insertL g x l
 | [],_=>rfl
 | y :: r,h=>by
  rw [insertL,insertL,h y List.mem_cons_self,qCR f g x r (fun z m=>h z (List.mem_cons_of_mem _ m))]
theorem qCq{α : Type}(f g : α→α→Bool):∀ l:List α,(∀ x ∈ l,∀ y ∈ l,f x y=g x y)→sortL f l=sortL g l
 | [],_=>rfl
 | x :: r,h=>by
  have ih:=qCq f g r (fun a ha b hb=>h a (List.mem_cons_of_mem _ ha) b (List.mem_cons_of_mem _ hb))
  rw [sortL,sortL,ih]
  exact qCR f g x _ (fun y hy=>h x List.mem_cons_self y (List.mem_cons_of_mem _ ((qCA _ _).1 hy)))
set_option maxHeartbeats 4000000 in
theorem sorts(key:Nat)(hkey:key<18446744073709551616)(l:List qB)(hf:fineL l)(hl:l.length≤1000000):Ev (fun k=>qY.f k l (key:Int)) (sortL (ltB key) l):=by
 have hc:∀ p ∈ l.flatMap (fun x=>l.map (fun y=>(x,y))),Ev (fun k=>qY.cmp k (key:Int) p.1 p.2) (cmpD key p.1 p.2):=by
  intro p hp
  obtain ⟨x,hx,hp⟩:=List.mem_flatMap.1 hp
  obtain ⟨y,hy,rfl⟩:=List.mem_map.1 hp
  unfold qY.cmp qBC.f
  exact .b (compare key hkey x y (hf.1 x hx) (hf.1 y hy)) (.c _)
 obtain ⟨K,hK⟩:=qGf (fun k (p:qB × qB)=>qY.cmp k (key:Int) p.1 p.2) (fun p=>cmpD key p.1 p.2) _ hc
 refine ⟨K,fun k hk=>?_⟩
 have hK:∀ x ∈ l,∀ y ∈ l,qY.cmp k (key:Int) x y=some (cmpD key x y):=by
  intro x hx y hy
  have hm:(x,y) ∈ l.flatMap (fun x=>l.map (fun y=>(x,y))):=List.mem_flatMap.2 ⟨x,hx,List.mem_map.2 ⟨y,hy,rfl⟩⟩
  have h:=hK k hk (x,y) hm
  dsimp only at h
  exact h
 have hlt:∀ x ∈ l,∀ y ∈ l,ltO (qY.cmp k (key:Int)) x y=ltB key x y:=by
  intro x hx y hy
  unfold ltO ltB
  rw [hK x hx y hy,Option.getD_some,decide_eq_decide]
  exact qGu key x y
 have hok:okSort (qY.cmp k (key:Int)) l=true:=?_
 ·show sortO (qY.cmp k (key:Int)) l=_
  unfold sortO
  rw [if_pos ⟨hok,hl⟩,qCq _ _ l hlt]
 unfold okSort
 simp only [Bool.and_eq_true,List.all_eq_true]
 refine ⟨⟨⟨?_,?_⟩,?_⟩,?_⟩
 ·intro x hx y hy
  rw [hK x hx y hy]
  rfl
 ·intro x hx
  rw [hlt x hx x hx,ltB,dF (qEj key x)]
  rfl
 ·intro x hx y hy z hz
  rw [hlt x hx y hy,hlt y hy z hz,hlt x hx z hz]
  unfold ltB
  by_cases h1:ltD key x y
  ·by_cases h2:ltD key y z
   ·simp [h1,h2,qDj (hf.1 x hx) (hf.1 y hy) (hf.1 z hz) h1 h2]
   ·simp [h1,h2]
  ·by_cases h2:ltD key y z
   ·simp [h1,h2]
   ·have h3:¬ ltD key x z:=by
     intro h3
     by_cases hxy:x.f0=y.f0
     ·exact h2 (hf.2 x hx y hy hxy ▸ h3)
     ·rcases qDk key x y hxy with h | h
      ·exact h1 h
      ·exact h2 (qDj (hf.1 y hy) (hf.1 x hx) (hf.1 z hz) h h3)
    simp [h1,h2,h3]
 ·intro x hx y hy
  rw [hlt x hx y hy,hlt y hy x hx]
  unfold ltB
  by_cases hxy:x.f0=y.f0
  ·simp [hf.2 x hx y hy hxy]
  ·rcases qDk key x y hxy with h | h
   ·simp [h]
   ·simp [h]
structure Chs (l:List qB):Prop where
 len:l.length≤64
 ok:∀ x ∈ l,(0≤x.f0∧x.f0≤2147483647)∧0≤x.f1∧x.f1≤65536
 up:l.Pairwise (fun x y=>x.f0<y.f0)
theorem qFW(l:List qB)(h:Chs l):∀(d i:Nat),i+d=l.length→Ev (fun k=>qAS.l9 k l (i:Int)) 0:=by
 have hl:=h.len
 intro d
 induction d with
 | zero=>exact fun i hi=>.s (qAS.l9_s · _ _) (.n (by omega) (.c _))
 | succ d ih =>
  intro i hi
  have h1:i<l.length:=by omega
  have hok:=h.ok _ (gM h1)
  have hj:Ev (fun k=>qAS.j37 k l (i:Int) false) 0:=by
   refine .s (qAS.j37_s · _ _ _) (.n (by decide) ?_)
   rw [w64n i (by omega)]
   exact ih (i+1) (by omega)
  refine .s (qAS.l9_s · _ _) (.t (by omega) (.t (by omega) ?_))
  rw [nth_get _ _ _ h1]
  refine .n (by omega) (.n (by omega) (.n (by omega) (.n (by omega) (.i (fun h0=>?_) (fun _=>hj)))))
  rw [w64p i (by omega) (by omega)]
  refine .t (by omega) ?_
  rw [nth_get _ _ _ (by omega),dF]
  ·exact hj
  ·have:=List.pairwise_iff_getElem.1 h.up (i - 1) i (by omega) h1 (by omega)
   omega
theorem dcheck(l:List qB)(h:Chs l):Ev (fun k=>qAS.f k l) 0:=by
 have hl:=h.len
 unfold qAS.f
 exact .n (by omega) (qFW l h l.length 0 (by omega))
def heavy(l:List qB):List qB:=l.filter (fun x => !(x.f1 == 0))
theorem qEk{l:List qB}(h:Chs l):fineL (heavy l):=by
 refine ⟨fun x hx=>?_,fun x hx y hy e=>?_⟩
 ·obtain ⟨h1,h2⟩:=List.mem_filter.1 hx
  have:=h.ok x h1
  have h3:x.f1≠0:=by simpa using h2
  exact ⟨this.1,by omega,this.2.2⟩
 ·have hx:=(List.mem_filter.1 hx).1
  have hy:=(List.mem_filter.1 hy).1
  obtain ⟨i,hi,rfl⟩:=List.getElem_of_mem hx
  obtain ⟨j,hj,rfl⟩:=List.getElem_of_mem hy
  have hup:=List.pairwise_iff_getElem.1 h.up
  rcases Nat.lt_trichotomy i j with c | c | c
  ·have:=hup i j hi hj c
   omega
  ·subst c; rfl
  ·have:=hup j i hj hi c
   omega
theorem index0(l:List qB)(hl:l.length≤64):∀(d i:Nat),i+d=l.length→heavy (l.take i)=l.take i→(heavy l=l∧Ev (fun k=>qJ.l5 k l (i:Int)) (-1))∨∃ n:Nat,n<l.length∧heavy (l.take n)=l.take n∧(∀ h:n<l.length,l[n].f1=0)∧Ev (fun k=>qJ.l5 k l (i:Int)) (n:Int):=by
 intro d
 induction d with
 | zero =>
  intro i hi ht
  rw [List.take_of_length_le (by omega)]at ht
  exact .inl ⟨ht,.s (qJ.l5_s · _ _) (.n (by omega) (.c _))⟩
 | succ d ih =>
  intro i hi ht
  have h1:i<l.length:=by omega
  by_cases h0:l[i].f1=0
  ·refine .inr ⟨i,h1,ht,fun _=>h0,.s (qJ.l5_s · _ _) (.t (by omega) (.t (by omega) ?_))⟩
   rw [nth_get _ _ _ h1]
   exact .b0 (a:=true) (congrArg some (by simpa using h0)) (.t rfl (.c _))
  ·have hs:Ev (fun k=>qJ.l5 k l ((i+1:Nat):Int))=fun v=>Ev (fun k=>qJ.l5 k l ((i+1:Nat):Int)) v:=rfl
   have go:∀ v,Ev (fun k=>qJ.l5 k l ((i+1:Nat):Int)) v→Ev (fun k=>qJ.l5 k l (i:Int)) v:=by
    intro v hv
    refine .s (qJ.l5_s · _ _) (.t (by omega) (.t (by omega) ?_))
    rw [nth_get _ _ _ h1,w64n i (by omega)]
    exact .b0 (a:=false) (congrArg some (by simpa using h0)) (.n (by decide) hv)
   have ht':heavy (l.take (i+1))=l.take (i+1):=by
    rw [List.take_add_one,List.getElem?_eq_getElem h1,Option.toList_some]
    unfold heavy at ht ⊢
    rw [List.filter_append,ht]
    simp [h0]
   rcases ih (i+1) (by omega) ht' with ⟨a,b⟩ | ⟨n,a,b,c,e⟩
   ·exact .inl ⟨a,go _ b⟩
   ·exact .inr ⟨n,a,b,c,go _ e⟩
theorem qEl(l:List qB)(hl:l.length≤64):∀(d i n:Nat)(q:List qB),i+d=l.length→n<i→q.length=l.length→q.take n=heavy (l.take i)→q.drop i=l.drop i→Ev (fun k=>qK.l15 k l q (n:Int) (i:Int)) (heavy l):=by
 intro d
 induction d with
 | zero =>
  intro i n q hi hn hq ht hd
  refine .s (qK.l15_s · _ _ _ _) (.n (by omega) (.t (by omega) (.cv ?_)))
  rw [List.take_of_length_le (by omega:l.length≤i)]at ht
  rw [← ht]
  have hlen:(q.take n).length=n:=by rw [List.length_take]; omega
  simp only [cutl,tN,Int.toNat_zero,List.drop_zero]
  rw [List.take_append_of_le_length (by omega),List.take_of_length_le (by omega)]
 | succ d ih =>
  intro i n q hi hn hq ht hd
  have h1:i<l.length:=by omega
  have h2:i<q.length:=by omega
  have hd2:q[i]=l[i]∧q.drop (i+1)=l.drop (i+1):=by
   rw [List.drop_eq_getElem_cons h1,List.drop_eq_getElem_cons h2]at hd
   exact ⟨(List.cons.inj hd).1,(List.cons.inj hd).2⟩
  have hh:heavy (l.take (i+1))=heavy (l.take i)++(if l[i].f1=0 then [] else [l[i]]):=by
   rw [List.take_add_one,List.getElem?_eq_getElem h1,Option.toList_some]
   unfold heavy
   rw [List.filter_append]
   by_cases c:l[i].f1=0
   ·simp [c]
   ·simp [c]
  refine .s (qK.l15_s · _ _ _ _) (.t (by omega) (.t (by omega) ?_))
  rw [nth_get _ _ _ h2,hd2.1,w64n i (by omega),w64n n (by omega)]
  by_cases h0:l[i].f1=0
  ·refine .b0 (a:=true) (congrArg some (by simpa using h0)) (.t rfl (ih (i+1) n q (by omega) (by omega) hq ?_ hd2.2))
   rw [hh,if_pos h0,List.append_nil,ht]
  ·refine .b0 (a:=false) (congrArg some (by simpa using h0)) (.n (by decide) (.t (by omega) (ih (i+1) (n+1) _ (by omega) (by omega) (by rw [List.length_set]; exact hq) ?_ ?_)))
   ·rw [hh,if_neg h0,← ht,tN,List.take_add_one,List.take_set_of_le (by omega),List.getElem?_set_self (by omega)]
    rfl
   ·rw [tN,List.drop_set_of_lt (by omega)]
    exact hd2.2
theorem delete(l:List qB)(hl:l.length≤64):Ev (fun k=>qK.f k l) (heavy l):=by
 unfold qK.f qJ.f
 rcases index0 l hl l.length 0 (by omega) rfl with ⟨a,b⟩ | ⟨n,a,b,c,e⟩
 ·exact .b b (.t rfl (.cv a.symm))
 ·refine .b e (.n (by omega) ?_)
  rw [w64n n (by omega)]
  refine qEl l hl (l.length - (n+1)) (n+1) n l (by omega) (by omega) rfl ?_ rfl
  rw [List.take_add_one,List.getElem?_eq_getElem a,Option.toList_some,← b]
  unfold heavy
  rw [List.filter_append,List.filter_filter]
  simp [c a]
def ord(key:Nat)(l:List qB):List qB:=sortL (ltB key) (heavy l)
theorem qFX(t22 t33:List qB)(he:t33.length=t22.length)(hl:t22.length≤64):∀(d i:Nat),i+d=t22.length→Ev (fun k=>qAb.l44 k t22 t33 ((t33.take i).map (fun x=>x.f0)) (i:Int)) (t33.map (fun x=>x.f0)):=by
 intro d
 induction d with
 | zero =>
  intro i hi
  refine .s (qAb.l44_s · _ _ _ _) (.n (by omega) (.cv ?_))
  rw [List.take_of_length_le (by omega)]
 | succ d ih =>
  intro i hi
  have h1:i<t33.length:=by omega
  refine .s (qAb.l44_s · _ _ _ _) (.t (by omega) (.t (by omega) (.t (by rw [List.length_map,List.length_take]; omega) ?_)))
  rw [nth_get _ _ _ h1,w64n i (by omega)]
  have ih:=ih (i+1) (by omega)
  rw [List.take_add_one,List.getElem?_eq_getElem h1,Option.toList_some,List.map_append]at ih
  exact ih
theorem order(key:Nat)(hkey:key<18446744073709551616)(l:List qB)(h:Chs l):Ev (fun k=>qAb.f k (key:Int) l) ((ord key l).map (fun x=>x.f0)):=by
 have hl:=h.len
 have hh:(heavy l).length≤l.length:=List.length_filter_le _ _
 unfold qAb.f
 refine .b (dcheck l h) (.t rfl (.b0 (a:=l) ?_ (.b (delete l hl) (.b (sorts key hkey _ (qEk h) (by omega)) ?_))))
 ·unfold qAJ.f
  rw [if_pos]
  ·rfl
  ·simp only [List.length_nil]
   omega
 ·exact qFX _ _ (qBq _ _) (by omega) (heavy l).length 0 (by omega)
theorem qGQ:∀(l:List qB)(m:qB),l.Pairwise (fun x y=>x.f0<y.f0)→m ∈ l→l.Perm (m :: l.filter (fun x => !(x.f0 == m.f0)))
 | [],_,_,h=>nomatch h
 | x :: r,m,hp,h=>by
  obtain ⟨h1,h2⟩:=List.pairwise_cons.1 hp
  rcases List.mem_cons.1 h with rfl | h
  ·rw [List.filter_cons_of_neg (by simp)]
   have e:r.filter (fun x => !(x.f0 == m.f0))=r:=List.filter_eq_self.2 (fun y hy=>by have:=h1 y hy; simp; omega)
   rw [e]
  ·have hlt:=h1 m h
   rw [List.filter_cons_of_pos (by simp; omega)]
   exact ((qGQ r m h2 h).cons x).trans (List.Perm.swap m x _)
theorem heavy_up{l:List qB}(h:Chs l):(heavy l).Pairwise (fun x y=>x.f0<y.f0):=h.up.filter _
end Draw
namespace Topo
def weight(n:qA):Int:=if n.f5=true then n.f3 else 0
def addW(id w:Int):List qB→List qB
 | []=>[⟨id,w⟩]
 | c :: r=>if c.f0<id then c :: addW id w r else if c.f0=id then ⟨id,if c.f1+w<65536 then c.f1+w else 65536⟩ :: r else ⟨id,w⟩ :: c :: r
def wOne(is:qA→Bool)(of:qA→Int)(v:List qB)(n:qA):List qB:=if is n=true then addW (of n) (weight n) v else v
def wL(is:qA→Bool)(of:qA→Int)(l:List qA):List qB:=l.foldl (wOne is of) []
def posn(id:Int):List qB→Nat
 | []=>0
 | c :: r=>if c.f0<id then posn id r+1 else 0
theorem qEC(id:Int):∀ l:List qB,posn id l≤l.length
 | []=>Nat.le_refl _
 | c :: r=>by
  unfold posn
  have:=qEC id r
  rw [List.length_cons]
  split <;> omega
theorem qFY(id:Int):∀(l:List qB)(i:Nat)(h:i<l.length),i<posn id l→l[i].f0<id
 | [],_,h,_=>nomatch h
 | c :: r,i,h,hi=>by
  unfold posn at hi
  split at hi
  ·cases i with
   | zero=>assumption
   | succ i=>exact qFY id r i (by simpa using h) (by omega)
  ·omega
theorem qED(id:Int):∀(l:List qB),l.Pairwise (fun x y=>x.f0<y.f0)→∀(i:Nat)(h:i<l.length),posn id l≤i→id≤l[i].f0
 | [],_,_,h,_=>nomatch h
 | c :: r,hp,i,h,hi=>by
  obtain ⟨h1,h2⟩:=List.pairwise_cons.1 hp
  unfold posn at hi
  split at hi
  ·cases i with
   | zero=>omega
   | succ i=>exact qED id r h2 i (by simpa using h) (by omega)
  ·cases i with
   | zero=>rename_i hc; exact Int.not_lt.1 hc
   | succ i =>
    rename_i hc
    have hr:i<r.length:=by simpa using h
    have:=h1 _ (gM hr)
    show id≤r[i].f0
    omega
theorem cmpi(a b:Int):qAU.f a b=some (if a<b then -1 else if a>b then 1 else 0):=by
 unfold qAU.f qAf.f
 simp only [beq_self_eq_true,Bool.not_true,Option.bind_some,Bool.false_eq_true,if_false]
 by_cases h:a<b
 ·rw [if_pos h,if_pos h]
 ·rw [if_neg h,if_neg h]
  by_cases h2:a>b
  ·rw [if_pos h2,if_pos h2]
  ·rw [if_neg h2,if_neg h2]
theorem mid(a b:Nat)(h:a+b<4611686018427387904):w64 ((IntKind.u64.wrap (w64 ((a:Int)+b))).fdiv 2)=((a+b) / 2:Nat):=by
 have e:w64 ((a:Int)+b)=((a+b:Nat):Int):=by rw [qBj (by omega) (by omega)]; omega
 have e2:IntKind.u64.wrap ((a+b:Nat):Int)=((a+b:Nat):Int):=by rw [IntKind.wrap_u64]; omega
 rw [e,e2,Int.fdiv_eq_ediv_of_nonneg _ (by omega),qBj (by omega) (by omega)]
 omega
theorem qFZ(l:List qB)(id:Int)(hl:l.length<1000000)(hp:l.Pairwise (fun x y=>x.f0<y.f0)):∀(d a b:Nat),b - a≤d→a≤posn id l→posn id l≤b→b≤l.length→Ev (fun k=>qH.l7 k l id (a:Int) (b:Int)) ((posn id l:Int),match l[posn id l]? with
  | some c=>c.f0 == id
  | none=>false):=by
 intro d
 induction d with
 | zero =>
  intro a b hd h1 h2 h3
  obtain rfl:a=b:=by omega
  obtain rfl:a=posn id l:=by omega
  refine .s (qH.l7_s · _ _ _ _) (.n (by omega) ?_)
  by_cases h4:posn id l<l.length
  ·refine .t (by omega) (.t (by omega) ?_)
   rw [nth_get _ _ _ h4,List.getElem?_eq_getElem h4]
   refine .b0 (a:=if l[posn id l].f0<id then -1 else if l[posn id l].f0>id then 1 else 0) ?_ (.cv ?_)
   ·unfold qAn.f
    rw [cmpi]
    rfl
   ·have:=qED id l hp _ h4 (Nat.le_refl _)
    by_cases h5:l[posn id l].f0=id
    ·simp [h5]
    ·rw [if_neg (by omega),if_pos (by omega)]
     simp [h5]
  ·rw [List.getElem?_eq_none (by omega)]
   exact .n (by omega) (.c _)
 | succ d ih =>
  intro a b hd h1 h2 h3
  by_cases hab:a<b
  ·refine .s (qH.l7_s · _ _ _ _) (.t (by omega) ?_)
   rw [mid a b (by omega)]
   have h4:(a+b) / 2<l.length:=by omega
   refine .t (by omega) ?_
   rw [nth_get _ _ _ h4]
   refine .b0 (a:=if l[(a+b) / 2].f0<id then -1 else if l[(a+b) / 2].f0>id then 1 else 0) ?_ ?_
   ·unfold qAn.f
    rw [cmpi]
    rfl
   ·by_cases h5:l[(a+b) / 2].f0<id
    ·rw [if_pos h5,w64n _ (by omega)]
     refine .t (by decide) (ih _ _ (by omega) ?_ h2 h3)
     rcases Nat.lt_or_ge ((a+b) / 2) (posn id l) with c | c
     ·omega
     ·have:=qED id l hp _ h4 c
      omega
    ·rw [if_neg h5]
     refine .n (by split <;> decide) (ih _ _ (by omega) h1 ?_ (by omega))
     rcases Nat.lt_or_ge ((a+b) / 2) (posn id l) with c | c
     ·exact absurd (qFY id l _ h4 c) h5
     ·exact c
  ·exact ih a b (by omega) h1 h2 h3
theorem search(l:List qB)(id:Int)(hl:l.length<1000000)(hp:l.Pairwise (fun x y=>x.f0<y.f0)):Ev (fun k=>qH.f k l id) ((posn id l:Int),match l[posn id l]? with
  | some c=>c.f0 == id
  | none=>false):=qFZ l id hl hp l.length 0 l.length (by omega) (by omega) (qEC id l) (Nat.le_refl _)
theorem qEU(id w:Int):∀(l:List qB)(h:posn id l<l.length),l[posn id l].f0=id→addW id w l=l.set (posn id l) ⟨id,if l[posn id l].f1+w<65536 then l[posn id l].f1+w else 65536⟩
 | [],h,_=>nomatch h
 | c :: r,h,he=>by
  unfold addW
  by_cases hc:c.f0<id
  ·have e:posn id (c :: r)=posn id r+1:=by rw [posn,if_pos hc]
   have h':posn id r<r.length:=by rw [e,List.length_cons]at h; omega
   simp only [e,List.getElem_cons_succ]at he
   rw [if_pos hc,qEU id w r h' he]
   simp only [e,List.set_cons_succ,List.getElem_cons_succ]
  ·have e:posn id (c :: r)=0:=by rw [posn,if_neg hc]
   simp only [e,List.getElem_cons_zero]at he
   rw [if_neg hc,if_pos he]
   simp only [e,List.set_cons_zero,List.getElem_cons_zero]
theorem qEV(id w:Int):∀(l:List qB),(∀ h:posn id l<l.length,l[posn id l].f0≠id)→addW id w l=l.take (posn id l)++⟨id,w⟩ :: l.drop (posn id l)
 | [],_=>rfl
 | c :: r,he=>by
  unfold addW
  by_cases hc:c.f0<id
  ·have e:posn id (c :: r)=posn id r+1:=by rw [posn,if_pos hc]
   rw [if_pos hc,qEV id w r (fun h=>by have:=he (by rw [e,List.length_cons]; omega); simpa only [e,List.getElem_cons_succ] using this)]
   simp only [e,List.take_succ_cons,List.drop_succ_cons,List.cons_append]
  ·have e:posn id (c :: r)=0:=by rw [posn,if_neg hc]
   have:=he (by rw [e,List.length_cons]; omega)
   simp only [e,List.getElem_cons_zero]at this
   rw [if_neg hc,if_neg this]
   simp only [e,List.take_zero,List.drop_zero,List.nil_append]
theorem qEW(id w:Int):∀ l:List qB,(addW id w l).length≤l.length+1
 | []=>Nat.le_refl _
 | c :: r=>by
  unfold addW
  have:=qEW id w r
  split
  ·rw [List.length_cons,List.length_cons]; omega
  ·split <;> simp
theorem qEX(id w:Int):∀(l:List qB),l.Pairwise (fun x y=>x.f0<y.f0)→∀ c:qB,c ∈ addW id w l↔(c ∈ l∧c.f0≠id)∨(c.f0=id∧((∃ d ∈ l,d.f0=id∧c.f1=if d.f1+w<65536 then d.f1+w else 65536)∨((∀ d ∈ l,d.f0≠id)∧c.f1=w)))
 | [],_,c=>by
  unfold addW
  rw [List.mem_singleton]
  constructor
  ·rintro rfl
   exact .inr ⟨rfl,.inr ⟨(fun _ h=>nomatch h),rfl⟩⟩
  ·rintro (⟨h,_⟩ | ⟨h,(⟨_,h',_⟩ | ⟨_,h'⟩)⟩)
   ·exact nomatch h
   ·exact nomatch h'
   ·cases c; cases h; cases h'; rfl
 | x :: r,hp,c=>by
  obtain ⟨h1,h2⟩:=List.pairwise_cons.1 hp
  unfold addW
  by_cases hx:x.f0<id
  ·rw [if_pos hx,List.mem_cons,qEX id w r h2 c,List.mem_cons]
   constructor
   ·rintro (rfl | ⟨h,h'⟩ | ⟨h,(⟨d,q1,q2⟩ | ⟨q1,q2⟩)⟩)
    ·exact .inl ⟨.inl rfl,by omega⟩
    ·exact .inl ⟨.inr h,h'⟩
    ·exact .inr ⟨h,.inl ⟨d,List.mem_cons_of_mem _ q1,q2⟩⟩
    ·refine .inr ⟨h,.inr ⟨fun d hd=>?_,q2⟩⟩
     rcases List.mem_cons.1 hd with rfl | hd
     ·omega
     ·exact q1 d hd
   ·rintro (⟨h | h,h'⟩ | ⟨h,(⟨d,q1,q2⟩ | ⟨q1,q2⟩)⟩)
    ·exact .inl h
    ·exact .inr (.inl ⟨h,h'⟩)
    ·rcases List.mem_cons.1 q1 with rfl | q1
     ·have:=q2.1; omega
     ·exact .inr (.inr ⟨h,.inl ⟨d,q1,q2⟩⟩)
    ·exact .inr (.inr ⟨h,.inr ⟨fun d hd=>q1 d (List.mem_cons_of_mem _ hd),q2⟩⟩)
  ·rw [if_neg hx]
   by_cases he:x.f0=id
   ·rw [if_pos he,List.mem_cons,List.mem_cons]
    constructor
    ·rintro (rfl | h)
     ·exact .inr ⟨rfl,.inl ⟨x,List.mem_cons_self,he,rfl⟩⟩
     ·exact .inl ⟨.inr h,by have:=h1 c h; omega⟩
    ·rintro (⟨h | h,h'⟩ | ⟨h,(⟨d,q1,q2,q3⟩ | ⟨q1,q2⟩)⟩)
     ·exact absurd (h ▸ he) h'
     ·exact .inr h
     ·rcases List.mem_cons.1 q1 with rfl | q1
      ·left; cases c; cases h; cases q3; rfl
      ·have:=h1 d q1; omega
     ·exact absurd he (q1 x List.mem_cons_self)
   ·rw [if_neg he,List.mem_cons]
    constructor
    ·rintro (rfl | h)
     ·refine .inr ⟨rfl,.inr ⟨fun d hd=>?_,rfl⟩⟩
      rcases List.mem_cons.1 hd with rfl | hd
      ·exact he
      ·have:=h1 d hd; show d.f0≠id; omega
     ·refine .inl ⟨h,?_⟩
      rcases List.mem_cons.1 h with rfl | hd
      ·exact he
      ·have:=h1 c hd; omega
    ·rintro (⟨h,h'⟩ | ⟨h,(⟨d,q1,q2,q3⟩ | ⟨q1,q2⟩)⟩)
     ·exact .inr h
     ·rcases List.mem_cons.1 q1 with rfl | q1
      ·exact absurd q2 he
      ·have:=h1 d q1; omega
     ·left; cases c; cases h; cases q2; rfl
theorem qGR{id w:Int}{l:List qB}{c:qB}: ∀ _:c ∈ addW id w l,c.f0=id∨∃ d ∈ l,d.f0=c.f0:=by
 induction l with
 | nil=>intro h; rw [addW,List.mem_singleton]at h; exact .inl (h ▸ rfl)
 | cons x r ih =>
  intro h
  unfold addW at h
  split at h
  ·rcases List.mem_cons.1 h with rfl | h
   ·exact .inr ⟨c,List.mem_cons_self,rfl⟩
   ·rcases ih h with e | ⟨d,hd,e⟩
    ·exact .inl e
    ·exact .inr ⟨d,List.mem_cons_of_mem _ hd,e⟩
  ·split at h
   ·rcases List.mem_cons.1 h with rfl | h
    ·exact .inl rfl
    ·exact .inr ⟨c,List.mem_cons_of_mem _ h,rfl⟩
   ·rcases List.mem_cons.1 h with rfl | h
    ·exact .inl rfl
    ·exact .inr ⟨c,h,rfl⟩
theorem qFa(id w:Int):∀(l:List qB),l.Pairwise (fun x y=>x.f0<y.f0)→(addW id w l).Pairwise (fun x y=>x.f0<y.f0)
 | [],_=>List.pairwise_singleton _ _
 | x :: r,hp=>by
  obtain ⟨h1,h2⟩:=List.pairwise_cons.1 hp
  unfold addW
  by_cases hx:x.f0<id
  ·rw [if_pos hx]
   refine List.pairwise_cons.2 ⟨fun y hy=>?_,qFa id w r h2⟩
   rcases qGR hy with e | ⟨d,hd,e⟩
   ·omega
   ·have:=h1 d hd; omega
  ·rw [if_neg hx]
   by_cases he:x.f0=id
   ·rw [if_pos he]
    exact List.pairwise_cons.2 ⟨fun y hy=>by have:=h1 y hy; show id<y.f0; omega,h2⟩
   ·rw [if_neg he]
    refine List.pairwise_cons.2 ⟨fun y hy=>?_,hp⟩
    show id<y.f0
    rcases List.mem_cons.1 hy with rfl | hy
    ·omega
    ·have:=h1 y hy; omega
def wSum(is:qA→Bool)(of:qA→Int)(l:List qA)(id:Int):Int:=((l.filter (fun n=>is n&&decide (of n=id))).map weight).sum
def wIs(is:qA→Bool)(of:qA→Int)(l:List qA)(id:Int):Prop:=∃ n ∈ l,is n=true∧of n=id
def cap(x:Int):Int:=if x<65536 then x else 65536
structure WOf (is:qA→Bool) (of:qA→Int) (l:List qA) (v:List qB):Prop where
 up:v.Pairwise (fun x y=>x.f0<y.f0)
 mem:∀ c,c ∈ v↔wIs is of l c.f0∧c.f1=cap (wSum is of l c.f0)
def okW(n:qA):Prop:=0≤n.f3∧n.f3≤65536
theorem weight_ok{n:qA}(h:okW n):0≤weight n∧weight n≤65536:=by
 unfold weight okW at *
 split <;> omega
theorem qDl(is:qA→Bool)(of:qA→Int)(l:List qA)(n:qA)(id:Int):wSum is of (l++[n]) id=wSum is of l id+if is n=true∧of n=id then weight n else 0:=by
 unfold wSum
 rw [List.filter_append,List.map_append,List.sum_append]
 congr 1
 by_cases h1:is n=true
 ·by_cases h2:of n=id
  ·simp [h1,h2]
  ·simp [h1,h2]
 ·simp [h1]
theorem wSum_ge(is:qA→Bool)(of:qA→Int)(l:List qA)(id:Int)(h:∀ n ∈ l,okW n):0≤wSum is of l id∧wSum is of l id≤65536 * l.length:=by
 induction l with
 | nil=>exact ⟨Int.le_refl _,Int.le_refl _⟩
 | cons n l ih =>
  have ih:=ih (fun m hm=>h m (List.mem_cons_of_mem _ hm))
  have hw:=weight_ok (h n List.mem_cons_self)
  unfold wSum at *
  rw [List.length_cons,List.filter_cons]
  split
  ·rw [List.map_cons,List.sum_cons]
   omega
  ·omega
theorem qEY(is:qA→Bool)(of:qA→Int)(l:List qA)(n:qA)(id:Int):wIs is of (l++[n]) id↔wIs is of l id∨(is n=true∧of n=id):=by
 unfold wIs
 constructor
 ·rintro ⟨m,hm,h⟩
  rcases List.mem_append.1 hm with hm | hm
  ·exact .inl ⟨m,hm,h⟩
  ·rw [List.mem_singleton.1 hm]at h
   exact .inr h
 ·rintro (⟨m,hm,h⟩ | h)
  ·exact ⟨m,List.mem_append.2 (.inl hm),h⟩
  ·exact ⟨n,List.mem_append.2 (.inr (List.mem_singleton.2 rfl)),h⟩
theorem qDm{is:qA→Bool}{of:qA→Int}{l:List qA}{id:Int}(h:¬ wIs is of l id):wSum is of l id=0:=by
 unfold wSum
 rw [List.filter_eq_nil_iff.2]
 ·rfl
 ·intro n hn hc
  rw [Bool.and_eq_true,decide_eq_true_eq]at hc
  exact h ⟨n,hn,hc⟩
theorem WOf.snoc{is:qA→Bool}{of:qA→Int}{l:List qA}{v:List qB}{n:qA}(hv:WOf is of l v)(hl:∀ n ∈ l,okW n)(hn:okW n):WOf is of (l++[n]) (wOne is of v n):=by
 have hw:=weight_ok hn
 unfold wOne
 by_cases hi:is n=true
 ·rw [if_pos hi]
  refine ⟨qFa _ _ _ hv.up,fun c=>?_⟩
  have h0:=wSum_ge is of l c.f0 hl
  rw [qEX _ _ _ hv.up,qEY,qDl,hv.mem]
  by_cases hc:of n=c.f0
  ·rw [if_pos ⟨hi,hc⟩]
   have key:(∃ d ∈ v,d.f0=of n∧c.f1=if d.f1+weight n<65536 then d.f1+weight n else 65536)↔wIs is of l c.f0∧c.f1=cap (wSum is of l c.f0+weight n):=by
    have e:∀ s:Int,0≤s→(if cap s+weight n<65536 then cap s+weight n else 65536)=cap (s+weight n):=by
     intro s hs
     unfold cap
     split <;> split <;> (try split) <;> omega
    constructor
    ·rintro ⟨d,hd,h1,h2⟩
     obtain ⟨h3,h4⟩:=(hv.mem d).1 hd
     have hdc:d.f0=c.f0:=h1.trans hc
     rw [hdc]at h3 h4
     rw [h4,e _ h0.1]at h2
     exact ⟨h3,h2⟩
    ·rintro ⟨h1,h2⟩
     refine ⟨⟨c.f0,cap (wSum is of l c.f0)⟩,(hv.mem _).2 ⟨h1,rfl⟩,hc.symm,?_⟩
     show c.f1=if cap (wSum is of l c.f0)+weight n<65536 then cap (wSum is of l c.f0)+weight n else 65536
     rw [e _ h0.1]
     exact h2
   have key2:(∀ d ∈ v,d.f0≠of n)↔¬ wIs is of l c.f0:=by
    constructor
    ·intro h h1
     exact h ⟨c.f0,cap (wSum is of l c.f0)⟩ ((hv.mem _).2 ⟨h1,rfl⟩) hc.symm
    ·intro h d hd e
     exact h (by have:=((hv.mem d).1 hd).1; rwa [e,hc]at this)
   rw [key,key2]
   constructor
   ·rintro (⟨_,h⟩ | ⟨_,(⟨h1,h2⟩ | ⟨h1,h2⟩)⟩)
    ·exact absurd hc.symm h
    ·exact ⟨.inl h1,h2⟩
    ·refine ⟨.inr ⟨hi,hc⟩,?_⟩
     rw [qDm h1,h2]
     unfold cap
     split <;> omega
   ·rintro ⟨_,h⟩
    refine .inr ⟨hc.symm,?_⟩
    by_cases h1:wIs is of l c.f0
    ·exact .inl ⟨h1,h⟩
    ·refine .inr ⟨h1,?_⟩
     rw [qDm h1]at h
     unfold cap at h
     rw [h]
     split <;> omega
  ·rw [if_neg (fun h=>hc h.2),Int.add_zero]
   constructor
   ·rintro (⟨h,_⟩ | ⟨h,_⟩)
    ·exact ⟨.inl h.1,h.2⟩
    ·exact absurd h.symm hc
   ·rintro ⟨h | h,h'⟩
    ·exact .inl ⟨⟨h,h'⟩,fun e=>hc e.symm⟩
    ·exact absurd h.2 hc
 ·rw [if_neg hi]
  refine ⟨hv.up,fun c=>?_⟩
  rw [hv.mem,qEY,qDl,if_neg (fun h=>hi h.1),Int.add_zero]
  constructor
  ·exact fun h=>⟨.inl h.1,h.2⟩
  ·rintro ⟨h | h,h'⟩
   ·exact ⟨h,h'⟩
   ·exact absurd h.1 hi
theorem WOf.nil(is:qA→Bool)(of:qA→Int):WOf is of [] []:=⟨List.Pairwise.nil,fun c=>⟨(fun h=>nomatch h),(fun h=>by obtain ⟨⟨_,h,_⟩,_⟩:=h; exact nomatch h)⟩⟩
theorem qFb{is:qA→Bool}{of:qA→Int}{l:List qA}(i:Nat)(h:i<l.length):wL is of (l.take (i+1))=wOne is of (wL is of (l.take i)) l[i]:=by
 unfold wL
 rw [← List.take_append_getElem h,List.foldl_append]
 rfl
theorem wL_of(is:qA→Bool)(of:qA→Int)(l:List qA)(hl:∀ n ∈ l,okW n):∀ i,i≤l.length→WOf is of (l.take i) (wL is of (l.take i))∧(wL is of (l.take i)).length≤i:=by
 intro i
 induction i with
 | zero=>exact fun _=>⟨.nil _ _,Nat.le_refl _⟩
 | succ i ih =>
  intro hi
  have h1:i<l.length:=by omega
  obtain ⟨ih,hlen⟩:=ih (by omega)
  rw [qFb i h1]
  refine ⟨?_,?_⟩
  ·rw [← List.take_append_getElem h1]
   exact ih.snoc (fun n hn=>hl n (List.mem_of_mem_take hn)) (hl _ (gM h1))
  ·unfold wOne
   have:=qEW (of l[i]) (weight l[i]) (wL is of (l.take i))
   split <;> omega
theorem qCr {isO:qA→Option Bool} {ofO:qA→Option Int} {is:qA→Bool} {of:qA→Int} (his:∀ n,isO n=some (is n)) (hof:∀ n,ofO n=some (of n)) (l:List qA)
  (L:Nat→List qB→Int→Option (List qB)) (J:Nat→Int→Int × Bool→List qB→Option (List qB))
  (hL:∀ k acc x,L (k+1) acc x=(if x<(l.length:Int) then (if 0≤x∧x<(l.length:Int) then ((isO (⟨(nth qA.z l x).f0,(nth qA.z l x).f1,(nth qA.z l x).f2,(nth qA.z l x).f3,(nth qA.z l x).f4,(nth qA.z l x).f5⟩:qA)).bind fun t39=>(if t39=true then ((ofO (⟨(nth qA.z l x).f0,(nth qA.z l x).f1,(nth qA.z l x).f2,(nth qA.z l x).f3,(nth qA.z l x).f4,(nth qA.z l x).f5⟩:qA)).bind fun t44=>((qH.f k acc t44).bind fun t47=>(if t47.2=true then (J k x t47 acc) else ((ofO (⟨(nth qA.z l x).f0,(nth qA.z l x).f1,(nth qA.z l x).f2,(nth qA.z l x).f3,(nth qA.z l x).f4,(nth qA.z l x).f5⟩:qA)).bind fun t53=>((qo.f acc t47.1 [(⟨t53,0⟩:qB)]).bind fun t60=>(J k x t47 t60)))))) else (L k acc (w64 (x+1))))) else (none)) else (some acc)))
  (hJ:∀ k x t47 l70,J (k+1) x t47 l70=(if ((nth qA.z l x).f5)=true then (if 0≤t47.1∧t47.1<(l70.length:Int) then (L k (l70.set (t47.1).toNat (⟨(nth qB.z l70 t47.1).f0,(if (w64 ((nth qB.z l70 t47.1).f1+(nth qA.z l x).f3))<65536 then (w64 ((nth qB.z l70 t47.1).f1+(nth qA.z l x).f3)) else 65536)⟩:qB)) (w64 (x+1))) else (none)) else (L k l70 (w64 (x+1)))))
  (hl:l.length≤12) (hw:∀ n ∈ l,okW n):∀(d i:Nat),i+d=l.length→Ev (fun k=>L k (wL is of (l.take i)) (i:Int)) (wL is of l):=by
 intro d
 induction d with
 | zero =>
  intro i hi
  refine .s (fun k=>hL k _ _) (.n (by omega) (.cv ?_))
  rw [List.take_of_length_le (by omega)]
 | succ d ih =>
  intro i hi
  have h1:i<l.length:=by omega
  have ih:=ih (i+1) (by omega)
  obtain ⟨hW,hlen⟩:=wL_of is of l hw i (by omega)
  rw [qFb i h1]at ih
  have hn:=hw _ (gM h1)
  refine .s (fun k=>hL k _ _) (.t (by omega) (.t (by omega) ?_))
  rw [nth_get _ _ _ h1,w64n i (by omega)]
  generalize wL is of (l.take i)=v at hW hlen ih ⊢
  refine .b0 (his l[i]) ?_
  unfold wOne at ih
  by_cases hi1:is l[i]=true
  ·rw [if_pos hi1]at ih
   refine .t hi1 (.b0 (hof l[i]) (.b (search v (of l[i]) (by omega) hW.up) ?_))
   have hp:=qEC (of l[i]) v
   by_cases hf:∃ h:posn (of l[i]) v<v.length,v[posn (of l[i]) v].f0=of l[i]
   ·obtain ⟨hlt,he⟩:=hf
    rw [qEU _ _ v hlt he]at ih
    have hmem:=(hW.mem _).1 (gM hlt)
    have hs:=wSum_ge is of (l.take i) v[posn (of l[i]) v].f0 (fun n hn=>hw n (List.mem_of_mem_take hn))
    have hb:0≤v[posn (of l[i]) v].f1∧v[posn (of l[i]) v].f1≤65536:=by
     have:=hmem.2
     unfold cap at this
     split at this <;> omega
    rw [List.getElem?_eq_getElem hlt]
    refine .t (by simpa using he) (.s (fun k=>hJ k _ _ _) ?_)
    dsimp only
    rw [nth_get _ _ _ h1,nth_get _ _ _ hlt,w64n i (by omega),tN]
    unfold weight at ih
    unfold okW at hn
    by_cases h5:l[i].f5=true
    ·rw [if_pos h5]at ih
     refine .t h5 (.t (by omega) ?_)
     rw [qBj (n:=v[posn (of l[i]) v].f1+l[i].f3) (by omega) (by omega)]
     simp only [he]
     exact ih
    ·rw [if_neg h5,Int.add_zero]at ih
     refine .n h5 ?_
     have e:v.set (posn (of l[i]) v) ⟨of l[i],if v[posn (of l[i]) v].f1<65536 then v[posn (of l[i]) v].f1 else 65536⟩=v:=by
      have:(⟨of l[i],if v[posn (of l[i]) v].f1<65536 then v[posn (of l[i]) v].f1 else 65536⟩:qB)=v[posn (of l[i]) v]:=by
       have e2:(if v[posn (of l[i]) v].f1<65536 then v[posn (of l[i]) v].f1 else 65536)=v[posn (of l[i]) v].f1:=by split <;> omega
       rw [e2]
       exact congrArg (fun z=>(⟨z,v[posn (of l[i]) v].f1⟩:qB)) he.symm
      rw [this,List.set_getElem_self]
     rw [e]at ih
     exact ih
   ·have hne:∀ h:posn (of l[i]) v<v.length,v[posn (of l[i]) v].f0≠of l[i]:=fun h e=>hf ⟨h,e⟩
    rw [qEV _ _ v hne]at ih
    refine .n ?_ (.b0 (hof l[i]) (.b0 (a:=v.take (posn (of l[i]) v)++(⟨of l[i],0⟩:qB) :: v.drop (posn (of l[i]) v)) ?_ (.s (fun k=>hJ k _ _ _) ?_)))
    ·by_cases h:posn (of l[i]) v<v.length
     ·rw [List.getElem?_eq_getElem h]
      simpa using hne h
     ·rw [List.getElem?_eq_none (by omega)]
      exact Bool.false_ne_true
    ·unfold qo.f
     dsimp only
     rw [if_pos ⟨by omega,by omega,by omega⟩,tN]
    ·dsimp only
     have hq:posn (of l[i]) v<(v.take (posn (of l[i]) v)++(⟨of l[i],0⟩:qB) :: v.drop (posn (of l[i]) v)).length:=by
      rw [lA,List.length_take,List.length_cons,List.length_drop]
      omega
     have hg:(v.take (posn (of l[i]) v)++(⟨of l[i],0⟩:qB) :: v.drop (posn (of l[i]) v))[posn (of l[i]) v]=⟨of l[i],0⟩:=by
      rw [List.getElem_append_right (by rw [List.length_take]; omega)]
      simp only [List.length_take,Nat.min_eq_left hp,Nat.sub_self,List.getElem_cons_zero]
     rw [nth_get _ _ _ h1,nth_get _ _ _ hq,hg,w64n i (by omega),tN]
     unfold weight at ih
     unfold okW at hn
     by_cases h5:l[i].f5=true
     ·rw [if_pos h5]at ih
      refine .t h5 (.t (by omega) ?_)
      have e:(v.take (posn (of l[i]) v)++(⟨of l[i],0⟩:qB) :: v.drop (posn (of l[i]) v)).set (posn (of l[i]) v) (⟨of l[i],if w64 (0+l[i].f3)<65536 then w64 (0+l[i].f3) else 65536⟩:qB)=v.take (posn (of l[i]) v)++(⟨of l[i],l[i].f3⟩:qB) :: v.drop (posn (of l[i]) v):=by
       have e2:(if w64 (0+l[i].f3)<65536 then w64 (0+l[i].f3) else 65536)=l[i].f3:=by
        rw [qBj (by omega) (by omega)]
        split <;> omega
       rw [e2,List.set_append_right _ _ (by rw [List.length_take]; omega)]
       simp only [List.length_take,Nat.min_eq_left hp,Nat.sub_self,List.set_cons_zero]
      rw [e]
      exact ih
     ·rw [if_neg h5]at ih
      exact .n h5 ih
  ·rw [if_neg hi1]at ih
   exact .n hi1 ih
theorem qEE:∀(p:Int)(l:List qA),rise p l=true→(∀ n ∈ l,okN n)∧l.Pairwise (fun x y=>x.f0<y.f0)∧∀ n ∈ l,p<n.f0
 | p,[],_=>⟨(fun _ h=>nomatch h),List.Pairwise.nil,(fun _ h=>nomatch h)⟩
 | p,n :: l,h=>by
  rw [rise,Bool.and_eq_true,decide_eq_true_eq]at h
  obtain ⟨h1,h2,h3⟩:=qEE n.f0 l h.2
  refine ⟨fun m hm=>?_,List.pairwise_cons.2 ⟨h3,h2⟩,fun m hm=>?_⟩
  ·rcases List.mem_cons.1 hm with rfl | hm
   ·exact h.1.1
   ·exact h1 m hm
  ·rcases List.mem_cons.1 hm with rfl | hm
   ·exact h.1.2
   ·have:=h3 m hm; have:=h.1.2; omega
theorem Nodes.ok{l:List qA}(h:Nodes l):∀ n ∈ l,okN n:=(qEE 0 l h.2).1
theorem Nodes.up{l:List qA}(h:Nodes l):l.Pairwise (fun x y=>x.f0<y.f0):=(qEE 0 l h.2).2.1
theorem Nodes.okW{l:List qA}(h:Nodes l):∀ n ∈ l,okW n:=fun n hn=>(h.ok n hn).2.2.2
theorem wL_full(is:qA→Bool)(of:qA→Int){l:List qA}(h:Nodes l):WOf is of l (wL is of l)∧(wL is of l).length≤l.length:=by
 have:=wL_of is of l h.okW l.length (Nat.le_refl _)
 rwa [List.take_length]at this
theorem qHP{x:Int}(h:0≤x):0≤cap x∧cap x≤65536:=by
 unfold cap
 split <;> omega
theorem wL_chs(is:qA→Bool)(of:qA→Int){l:List qA}(h:Nodes l)(hof:∀ n,okN n→0≤of n∧of n≤999):Draw.Chs (wL is of l):=by
 obtain ⟨hW,hlen⟩:=wL_full is of h
 have hl:=h.1
 refine ⟨by omega,fun c hc=>?_,hW.up⟩
 obtain ⟨⟨n,hn,_,he⟩,h2⟩:=(hW.mem c).1 hc
 have:=hof n (h.ok n hn)
 have h3:=wSum_ge is of l c.f0 h.okW
 have h4:=qHP h3.1
 rw [h2]
 exact ⟨by omega,h4⟩
def isZ(_:qA):Bool:=true
def isR(z:Int)(n:qA):Bool:=n.f1 == z
def isL(z r:Int)(n:qA):Bool:=(z == 0||n.f1 == z)&&(r == 0||n.f2 == r)
def ofZ(n:qA):Int:=n.f1
def ofR(n:qA):Int:=n.f2
def ofL(n:qA):Int:=n.f0
theorem chk{l:List qA}(h:Nodes l):Ev (fun k=>qz.f k l) 0:=(check l (by have:=h.1; omega)).v (by rw [dT h]; rfl)
theorem zones{l:List qA}(h:Nodes l):Ev (fun k=>qBJ.f k l) (wL isZ ofZ l):=by
 have h2:=h.1
 unfold qBJ.f qQ.f
 refine .b (.b (chk h) (.t rfl ?_)) (.c _)
 exact qCr (isO:=qBA.f) (ofO:=qAo.f) (fun _=>rfl) (fun _=>rfl) l _ _ (fun k _ _=>qQ.l19_s k l _ _) (fun k _ _ _=>qQ.j72_s k l _ _ _) h.1 h.okW l.length 0 (by omega)
theorem racks{l:List qA}(h:Nodes l)(z:Int):Ev (fun k=>qBK.f k l z) (wL (isR z) ofR l):=by
 have h2:=h.1
 unfold qBK.f qR.f
 refine .b (.b (chk h) (.t rfl ?_)) (.c _)
 exact qCr (isO:=fun n=>qBB.f n z) (ofO:=qAp.f) (fun _=>rfl) (fun _=>rfl) l _ _ (fun k _ _=>qR.l19_s k l z _ _) (fun k _ _ _=>qR.j72_s k l z _ _ _) h.1 h.okW l.length 0 (by omega)
theorem isl(z r:Int)(n:qA):qAk.f n z r=some (isL z r n):=by
 unfold qAk.f isL
 by_cases h1:z=0
 ·by_cases h2:r=0
  ·simp [h1,h2]
  ·simp [h1,h2]
 ·by_cases h3:n.f1=z
  ·by_cases h2:r=0
   ·simp [h1,h2,h3]
   ·simp [h1,h2,h3]
  ·simp [h1,h3]
theorem leaves{l:List qA}(h:Nodes l)(z r:Int):Ev (fun k=>qBE.f k l z r) (wL (isL z r) ofL l):=by
 have h2:=h.1
 unfold qBE.f qN.f
 refine .b (.b (chk h) (.t rfl ?_)) (.c _)
 exact qCr (isO:=fun n=>qAk.f n z r) (ofO:=qAj.f) (isl z r) (fun _=>rfl) l _ _ (fun k _ _=>qN.l19_s k l z r _ _) (fun k _ _ _=>qN.j72_s k l z r _ _ _) h.1 h.okW l.length 0 (by omega)
end Topo
namespace Rule
theorem w64n(i:Nat)(h:i<9223372036854775807):w64 ((i:Int)+1)=((i+1:Nat):Int):=by rw [qBj (by omega) (by omega)]; omega
theorem nth_get{α : Type}(z : α)(l:List α)(i:Nat)(h:i<l.length):nth z l (i:Int)=l[i]:=by simp [nth,h]
def step(at_:Int)(s:qf):Option Int :=
 if s.f0=1 then (if at_ = -1∧s.f1=0∧s.f2=0 then some 0 else none)
 else if s.f0=3 then (if at_=3∧s.f1=0∧s.f2=0 then some (-1) else none)
 else if s.f0=2 then (if 0≤at_∧at_<s.f1∧s.f1≤3∧(s.f1=2→at_=1)∧1≤s.f2∧s.f2≤12 then some s.f1 else none)
 else none
theorem qGv{a b:Int}{s:qf}(ha : -1≤a)(h:step a s=some b): -1≤b:=by
 unfold step at h
 repeat' (split at h)
 all_goals first | (cases h; omega) | (cases h)
def goes:Int→List qf→Bool
 | _,[]=>true
 | a,s :: l=>match step a s with
  | some b=>goes b l
  | none=>false
def May(l:List qf):Prop:=(1≤l.length∧l.length≤8)∧goes (-1) l=true
instance (l:List qf):Decidable (May l):=inferInstanceAs (Decidable (_∧_))
theorem next(a:Int)(s:qf)(k:Nat)(ha : -1≤a):∃ b,qAa.f (k+1) a s=some (b,(step a s).isSome)∧∀ c,step a s=some c→b=c:=by
 unfold qAa.f step
 by_cases h1:s.f0=1
 ·simp only [if_pos h1]
  by_cases c1:a = -1
  ·by_cases c2:s.f1=0
   ·by_cases c3:s.f2=0
    ·exact ⟨0,by simp [c1,c2,c3],by simp [c1,c2,c3]⟩
    ·exact ⟨0,by simp [c1,c2,c3],by simp [c1,c2,c3]⟩
   ·exact ⟨0,by simp [c1,c2],by simp [c1,c2]⟩
  ·exact ⟨0,by simp [c1],by simp [c1]⟩
 ·simp only [if_neg h1]
  by_cases h3:s.f0=3
  ·simp only [if_pos h3]
   by_cases c1:a=3
   ·by_cases c2:s.f1=0
    ·by_cases c3:s.f2=0
     ·exact ⟨-1,by simp [c1,c2,c3],by simp [c1,c2,c3]⟩
     ·exact ⟨-1,by simp [c1,c2,c3],by simp [c1,c2,c3]⟩
    ·exact ⟨-1,by simp [c1,c2],by simp [c1,c2]⟩
   ·exact ⟨-1,by simp [c1],by simp [c1]⟩
  ·simp only [if_neg h3]
   by_cases h2:s.f0=2
   ·simp only [if_pos h2,qAa.j23_s]
    refine ⟨s.f1,?_,?_⟩
    ·by_cases c0:0≤a∧a<s.f1∧s.f1≤3∧(s.f1=2→a=1)∧1≤s.f2∧s.f2≤12
     ·rw [if_pos c0,if_pos (by omega),if_pos c0.2.2.1]
      have:(if s.f1=2 then (if a = -1 then (some (s.f1,false):Option (Int × Bool)) else (if (a == 1)=true then (if s.f2≥1 then some (s.f1,decide (s.f2≤12)) else some (s.f1,false)) else some (s.f1,false))) else (if a = -1 then some (s.f1,false) else (if true=true then (if s.f2≥1 then some (s.f1,decide (s.f2≤12)) else some (s.f1,false)) else some (s.f1,false))))=some (s.f1,true):=by
       obtain ⟨q1,q2,q3,q4,q5,q6⟩:=c0
       by_cases d:s.f1=2
       ·have:=q4 d
        simp [d,this,q5,q6]
       ·have:¬ a = -1:=by omega
        simp [d,this,q5,q6]
      exact this
     ·rw [if_neg c0]
      have key:∀ y:Bool,(y=true→¬ (0≤a∧1≤s.f2∧s.f2≤12))→(if a = -1 then (some (s.f1,false):Option (Int × Bool)) else (if y=true then (if s.f2≥1 then some (s.f1,decide (s.f2≤12)) else some (s.f1,false)) else some (s.f1,false)))=some (s.f1,false):=by
       intro y hy
       by_cases d:a = -1
       ·rw [if_pos d]
       ·rw [if_neg d]
        cases y with
        | false=>rfl
        | true =>
         rw [if_pos rfl]
         by_cases e1:s.f2≥1
         ·rw [if_pos e1,dF (fun e2=>hy rfl ⟨by omega,e1,e2⟩)]
         ·rw [if_neg e1]
      by_cases d1:s.f1>a
      ·rw [if_pos d1]
       by_cases d2:s.f1≤3
       ·rw [if_pos d2]
        by_cases d3:s.f1=2
        ·rw [if_pos d3]
         exact key _ (fun hy hh=>c0 ⟨hh.1,d1,d2,fun _=>by simpa using hy,hh.2⟩)
        ·rw [if_neg d3]
         simpa using key true (fun _ hh=>c0 ⟨hh.1,d1,d2,fun e=>absurd e d3,hh.2⟩)
       ·rw [if_neg d2]
        exact key _ (fun hy=>by cases hy)
      ·rw [if_neg d1]
       exact key _ (fun hy=>by cases hy)
    ·intro c hc
     split at hc
     ·exact Option.some.inj hc
     ·cases hc
   ·simp only [if_neg h2]
    exact ⟨-1,by simp,by simp⟩
theorem qFc(l:List qf)(hl:l.length≤1000):∀(d k i:Nat)(a:Int), -1≤a→i+d=l.length→d+1<k→qAP.l18 k l a (i:Int)=some (if goes a (l.drop i)=true then 0 else 1):=by
 intro d
 induction d with
 | zero =>
  intro k i a ha hi hk
  obtain ⟨k,rfl⟩:∃ m,k=m+1:=⟨k - 1,by omega⟩
  rw [qAP.l18_s,if_neg (by omega),List.drop_eq_nil_of_le (by omega)]
  rfl
 | succ d ih =>
  intro k i a ha hi hk
  obtain ⟨k,rfl⟩:∃ m,k=m+2:=⟨k - 2,by omega⟩
  have h1:i<l.length:=by omega
  rw [qAP.l18_s,if_pos (by omega),if_pos (by omega),nth_get _ _ _ h1,w64n i (by omega),List.drop_eq_getElem_cons h1]
  obtain ⟨b,hb,hc⟩:=next a (⟨l[i].f0,l[i].f1,l[i].f2⟩:qf) k ha
  rw [hb,Option.bind_some]
  dsimp only
  have hs:(⟨l[i].f0,l[i].f1,l[i].f2⟩:qf)=l[i]:=rfl
  rw [hs]at hc ⊢
  cases hst:step a l[i] with
  | none =>
   simp only [goes,hst,Option.isSome_none,Bool.false_eq_true,if_false]
  | some c =>
   obtain rfl:=hc c hst
   simp only [goes,hst,Option.isSome_some,if_true]
   exact ih (k+1) (i+1) b (qGv ha hst) (by omega) (by omega)
theorem check(l:List qf)(k:Nat)(hk:1100<k):qAP.f k l=some (if May l then 0 else 1):=by
 obtain ⟨k,rfl⟩:∃ m,k=m+1:=⟨k - 1,by omega⟩
 unfold qAP.f
 by_cases h0:(l.length:Int)=0
 ·rw [if_pos h0,qAP.j6_s,if_pos rfl,if_neg (fun h:May l=>by have:=h.1.1; omega)]
 ·rw [if_neg h0,qAP.j6_s]
  by_cases h8:(l.length:Int)>8
  ·rw [if_pos (dT h8),if_neg (fun h:May l=>by have:=h.1.2; omega)]
  ·rw [if_neg (by simpa using h8)]
   refine (qFc l (by omega) l.length k 0 (-1) (by omega) (by omega) (by omega)).trans ?_
   rw [List.drop_zero]
   by_cases h:goes (-1) l=true
   ·rw [if_pos h,if_pos (show May l from ⟨⟨by omega,by omega⟩,h⟩)]
   ·rw [if_neg h,if_neg (fun hh:May l=>h hh.2)]
theorem common(k:Nat)(n:Int):qAX.f (k+1) n=some (if 1≤n∧n≤3 then [(⟨1,0,0⟩:qf),⟨2,1,n⟩,⟨2,2,1⟩,⟨2,3,1⟩,⟨3,0,0⟩] else []):=by
 unfold qAX.f
 simp only [qAX.j6_s]
 by_cases h1:n<1
 ·rw [if_pos h1,if_pos trivial,if_neg (by omega)]
 ·rw [if_neg h1]
  by_cases h3:n>3
  ·rw [if_pos (dT h3),if_neg (by omega)]
  ·rw [if_neg (by simpa using h3),if_pos ⟨by omega,by omega⟩]
end Rule
namespace Place
def kids(l:List qA)(g:Int)(s:qf)(z r:Int):List Int :=
 (Draw.ord (Mixn.fold (Draw.un g) [Draw.un s.f1,Draw.un z,Draw.un r]) (if s.f1=1 then Topo.wL Topo.isZ Topo.ofZ l else if s.f1=2 then Topo.wL (Topo.isR z) Topo.ofR l else Topo.wL (Topo.isL z r) Topo.ofL l)).map (fun x=>x.f0)
def deeper(s:qf)(x:qc)(id:Int):qc:=if s.f1=1 then ⟨id,x.f1,x.f2⟩ else if s.f1=2 then ⟨x.f0,id,x.f2⟩ else ⟨x.f0,x.f1,id⟩
def qHS(l:List qA)(g:Int)(s:qf)(x:qc):List qc:=((kids l g s x.f0 x.f1).take s.f2.toNat).map (deeper s x)
def emit(size:Int)(out:List Int)(x:qc):List Int:=if (out.length:Int)<size∧¬ x.f2 ∈ out then out++[x.f2] else out
def stepL(l:List qA)(g size:Int)(p:List qc × List Int)(s:qf):List qc × List Int :=
 if s.f0=1 then ([⟨0,0,0⟩],p.2) else if s.f0=2 then (p.1.flatMap (qHS l g s),p.2) else ([],p.1.foldl (emit size) p.2)
def runL(l:List qA)(rule:List qf)(g size:Int):List Int:=(rule.foldl (stepL l g size) ([],[])).2
theorem fold_lt(s:Nat)(hs:s<18446744073709551616)(l:List Nat):Mixn.fold s l<18446744073709551616:=by
 unfold Mixn.fold
 have h0:=Mixn.mix_lt s
 generalize Mixn.mix s=x at h0 ⊢
 induction l generalizing x with
 | nil=>exact h0
 | cons a l ih=>exact ih _ (Mixn.step_lt _ _)
theorem qEZ{l:List qA}(h:Topo.Nodes l)(g:Int)(s:qf)(z r:Int):(kids l g s z r).length≤12:=by
 have hl:=h.1
 unfold kids Draw.ord
 rw [List.length_map,qBq]
 refine Nat.le_trans (List.length_filter_le _ _) ?_
 split
 ·exact Nat.le_trans (Topo.wL_full _ _ h).2 hl
 ·split
  ·exact Nat.le_trans (Topo.wL_full _ _ h).2 hl
  ·exact Nat.le_trans (Topo.wL_full _ _ h).2 hl
theorem fold3(g a b c:Int):Ev (fun k=>qAg.f k (IntKind.u64.wrap g) [IntKind.u64.wrap a,IntKind.u64.wrap b,IntKind.u64.wrap c]) ((Mixn.fold (Draw.un g) [Draw.un a,Draw.un b,Draw.un c]:Nat):Int):=by
 have h:=Draw.fold (Draw.un g) (Draw.un_eq g).2 [Draw.un a,Draw.un b,Draw.un c] (fun x hx=>by
  simp only [List.mem_cons,List.not_mem_nil,or_false]at hx
  rcases hx with rfl | rfl | rfl <;> exact (Draw.un_eq _).2) (by simp)
 rw [(Draw.un_eq g).1,(Draw.un_eq a).1,(Draw.un_eq b).1,(Draw.un_eq c).1]
 exact h
theorem qDn{l:List qA}(h:Topo.Nodes l):Draw.Chs (Topo.wL Topo.isZ Topo.ofZ l):=Topo.wL_chs _ _ h (fun n hn=>by unfold Topo.okN at hn; unfold Topo.ofZ; omega)
theorem qFd{l:List qA}(h:Topo.Nodes l)(z:Int):Draw.Chs (Topo.wL (Topo.isR z) Topo.ofR l):=Topo.wL_chs _ _ h (fun n hn=>by unfold Topo.okN at hn; unfold Topo.ofR; omega)
theorem qEm{l:List qA}(h:Topo.Nodes l)(z r:Int):Draw.Chs (Topo.wL (Topo.isL z r) Topo.ofL l):=Topo.wL_chs _ _ h (fun n hn=>by unfold Topo.okN at hn; unfold Topo.ofL; omega)
theorem qEn(x:qc)(s:qf)(o:List Int)(n:Nat)(hn:n≤o.length)(ho:o.length≤12)(he:(if (o.length:Int)<s.f2 then (o.length:Int) else s.f2)=(n:Int)):∀(d i:Nat),i+d=n→Ev (fun k=>qr.l80 k x s o ((o.take i).map (deeper s x)) (i:Int)) ((o.take n).map (deeper s x)):=by
 have ec:cutl o 0 (n:Int)=o.take n:=by simp [cutl]
 have el:(o.take n).length=n:=by rw [List.length_take]; omega
 intro d
 induction d with
 | zero =>
  intro i hi
  refine .s (qr.l80_s · _ _ _ _ _) ?_
  rw [he,ec,el]
  refine .n (by omega) (.cv ?_)
  rw [show i=n by omega]
 | succ d ih =>
  intro i hi
  have ih:=ih (i+1) (by omega)
  have h1:i<o.length:=by omega
  have h2:i<(o.take n).length:=by omega
  refine .s (qr.l80_s · _ _ _ _ _) ?_
  rw [he,ec,el,nth_get _ _ _ h2,List.getElem_take]
  rw [← List.take_append_getElem h1,List.map_append,List.map_singleton]at ih
  unfold deeper at ih ⊢
  have hq:((o.take i).map (deeper s x)).length≤12:=by rw [List.length_map,List.length_take]; omega
  unfold deeper at hq
  refine .t (by omega) (.t (by omega) ?_)
  refine .i (fun c=>?_) (fun c=>?_)
  ·refine .s (qr.j110_s · _ _ _ _ _ _ _ _) (.t (by omega) ?_)
   rw [w64n i (by omega)]
   rwa [if_pos c]at ih
  ·rw [if_neg c]at ih
   refine .i (fun c=>?_) (fun c=>?_)
   ·refine .s (qr.j110_s · _ _ _ _ _ _ _ _) (.t (by omega) ?_)
    rw [w64n i (by omega)]
    rwa [if_pos c]at ih
   ·refine .s (qr.j110_s · _ _ _ _ _ _ _ _) (.t (by omega) ?_)
    rw [w64n i (by omega)]
    rwa [if_neg c]at ih
theorem choose{l:List qA}(h:Topo.Nodes l)(x:qc)(s:qf)(g:Int)(hs:1≤s.f2):Ev (fun k=>qr.f k l x s g) (qHS l g s x):=by
 have hk:=qEZ h g s x.f0 x.f1
 have hj:∀ c,Draw.Chs c→kids l g s x.f0 x.f1=(Draw.ord (Mixn.fold (Draw.un g) [Draw.un s.f1,Draw.un x.f0,Draw.un x.f1]) c).map (fun x=>x.f0)→Ev (fun k=>qr.j42 k x s g c) (qHS l g s x):=by
  intro c hc e
  refine .s (qr.j42_s · _ _ _ _) (.b (fold3 g s.f1 x.f0 x.f1) (.b (Draw.order _ (fold_lt _ (Draw.un_eq g).2 _) c hc) ?_))
  rw [← e]
  unfold qHS
  generalize kids l g s x.f0 x.f1=o at hk ⊢
  have he:(if (o.length:Int)<s.f2 then (o.length:Int) else s.f2)=((min s.f2.toNat o.length:Nat):Int):=by
   split <;> omega
  rw [he]
  refine .t (by omega) ?_
  have:=qEn x s o (min s.f2.toNat o.length) (by omega) hk he (min s.f2.toNat o.length) 0 (by omega)
  rw [← List.take_eq_take_min]at this
  exact this
 unfold qr.f
 have hz:=qDn h
 have hr:=qFd h x.f0
 have hv:=qEm h x.f0 x.f1
 unfold kids at hj
 refine .i (fun c=>.b (Topo.zones h) (hj _ hz (by rw [if_pos c]))) (fun c=>.i (fun c2=>.b (Topo.racks h _) (hj _ hr (by rw [if_neg c,if_pos c2]))) (fun c2=>.b (Topo.leaves h _ _) (hj _ hv (by rw [if_neg c,if_neg c2]))))
theorem qGw{a:Int}{s:qf}{r:List qf}(h:Rule.goes a (s :: r)=true):∃ b,Rule.goes b r=true∧((s.f0=1∧a = -1∧b=0)∨(s.f0=2∧(1≤s.f1∧s.f1≤3)∧(1≤s.f2∧s.f2≤12)∧b=s.f1∧0≤a)∨(s.f0=3∧b = -1∧a=3)):=by
 unfold Rule.goes at h
 split at h
 ·rename_i b hb
  refine ⟨b,h,?_⟩
  unfold Rule.step at hb
  by_cases c1:s.f0=1
  ·rw [if_pos c1]at hb
   split at hb
   ·cases hb; exact .inl ⟨c1,by omega,rfl⟩
   ·cases hb
  ·rw [if_neg c1]at hb
   by_cases c3:s.f0=3
   ·rw [if_pos c3]at hb
    split at hb
    ·cases hb; exact .inr (.inr ⟨c3,rfl,by omega⟩)
    ·cases hb
   ·rw [if_neg c3]at hb
    split at hb
    ·split at hb
     ·cases hb; exact .inr (.inl ⟨by assumption,by omega,by omega,rfl,by omega⟩)
     ·cases hb
    ·cases hb
 ·cases h
theorem qDO{α β : Type}(f : α→List β)(hf:∀ x,(f x).length≤12):∀ l:List α,(l.flatMap f).length≤12 * l.length
 | []=>Nat.le_refl _
 | x :: l=>by
  have:=qDO f hf l
  have:=hf x
  rw [List.flatMap_cons,lA,List.length_cons]
  omega
theorem qCK{l:List qA}(h:Topo.Nodes l)(g:Int)(s:qf)(x:qc):(qHS l g s x).length≤12:=by
 unfold qHS
 rw [List.length_map,List.length_take]
 have:=qEZ h g s x.f0 x.f1
 omega
theorem qFe{α β : Type}(f : α→List β)(l:List α)(i:Nat)(h:i<l.length):(l.take (i+1)).flatMap f=(l.take i).flatMap f++f l[i]:=by
 rw [← List.take_append_getElem h,List.flatMap_append]
 simp
theorem qGx {l:List qA} (h:Topo.Nodes l) (rule:List qf) (g size:Int) (hand:List qc) (out:List Int) (i:Nat) (hi:i<rule.length) (hs:1≤rule[i].f2) (hh:hand.length≤429981696) {v:List Int × Int}
  (hv:Ev (fun k=>qq.l38 k l rule g size (hand.flatMap (qHS l g rule[i])) out (w64 ((i:Int)+1))) v):∀(d j:Nat),j+d=hand.length→Ev (fun k=>qq.l73 k l rule g size hand out (i:Int) ((hand.take j).flatMap (qHS l g rule[i])) (j:Int)) v:=by
 intro d
 induction d with
 | zero =>
  intro j hj
  refine .s (qq.l73_s · _ _ _ _ _ _ _ _ _) (.n (by omega) ?_)
  rw [List.take_of_length_le (by omega)]
  exact hv
 | succ d ih =>
  intro j hj
  have h1:j<hand.length:=by omega
  have ih:=ih (j+1) (by omega)
  rw [qFe _ _ _ h1]at ih
  have hlen:=qDO (qHS l g rule[i]) (qCK h g rule[i]) (hand.take j)
  have hlen2:=qCK h g rule[i] hand[j]
  rw [List.length_take]at hlen
  refine .s (qq.l73_s · _ _ _ _ _ _ _ _ _) (.t (by omega) (.t (by omega) ?_))
  rw [nth_get _ _ _ h1,nth_get _ _ _ hi,w64n j (by omega)]
  exact .b (choose h hand[j] rule[i] g hs) (.t (by omega) ih)
theorem qDP(size:Int)(hand:List qc):∀ out:List Int,(out.length:Int)≤size→((hand.foldl (emit size) out).length:Int)≤size:=by
 induction hand with
 | nil=>exact fun _ h=>h
 | cons x r ih =>
  intro out h
  refine ih _ ?_
  unfold emit
  split
  ·rw [lA,List.length_singleton]; omega
  ·exact h
theorem qEo{α β : Type}(f : β→α→β)(b : β)(l:List α)(i:Nat)(h:i<l.length):(l.take (i+1)).foldl f b=f ((l.take i).foldl f b) l[i]:=by
 rw [← List.take_append_getElem h,List.foldl_append]
 rfl
theorem qGS (l:List qA) (rule:List qf) (g size:Int) (hz:size≤3) (hand:List qc) (out:List Int) (ho:(out.length:Int)≤size) (i:Nat) (hh:hand.length≤429981696) {v:List Int × Int}
  (hv:Ev (fun k=>qq.l38 k l rule g size [] (hand.foldl (emit size) out) (w64 ((i:Int)+1))) v):∀(d j:Nat),j+d=hand.length→Ev (fun k=>qq.l111 k l rule g size hand (i:Int) ((hand.take j).foldl (emit size) out) (j:Int)) v:=by
 intro d
 induction d with
 | zero =>
  intro j hj
  refine .s (qq.l111_s · _ _ _ _ _ _ _ _) (.n (by omega) ?_)
  rw [List.take_of_length_le (by omega)]
  exact hv
 | succ d ih =>
  intro j hj
  have h1:j<hand.length:=by omega
  have ih:=ih (j+1) (by omega)
  rw [qEo _ _ _ _ h1]at ih
  have hlen:=qDP size (hand.take j) out ho
  generalize (hand.take j).foldl (emit size) out=q at ih hlen ⊢
  have hj:∀ y:Bool,y=decide ((q.length:Int)<size∧¬ hand[j].f2 ∈ q)→Ev (fun k=>qq.j135 k l rule g size hand (i:Int) q (j:Int) y) v:=by
   intro y hy
   subst hy
   refine .s (qq.j135_s · _ _ _ _ _ _ _ _ _) ?_
   rw [nth_get _ _ _ h1,w64n j (by omega)]
   unfold emit at ih
   refine .i (fun c=>?_) (fun c=>?_)
   ·rw [if_pos (oT c)]at ih
    exact .t (by omega) ih
   ·rw [if_neg (fun e=>c (dT e))]at ih
    exact ih
  refine .s (qq.l111_s · _ _ _ _ _ _ _ _) (.t (by omega) (.t (by omega) ?_))
  rw [nth_get _ _ _ h1]
  refine .i (fun c=>.b (Topo.contains q hand[j].f2 (by omega)) (hj _ ?_)) (fun c=>hj _ ?_)
  ·by_cases c2:hand[j].f2 ∈ q
   ·simp [c2]
   ·simp [c,c2]
  ·simp [c]
theorem qGy{l:List qA}(h:Topo.Nodes l)(rule:List qf)(hr:rule.length≤8)(g size:Int)(hz:size≤3):∀(d i:Nat)(hand:List qc)(out:List Int)(a:Int),i+d=rule.length→hand.length≤12 ^ i→(out.length:Int)≤size→Rule.goes a (rule.drop i)=true→Ev (fun k=>qq.l38 k l rule g size hand out (i:Int)) (((rule.drop i).foldl (stepL l g size) (hand,out)).2,0):=by
 intro d
 induction d with
 | zero =>
  intro i hand out a hi _ _ _
  refine .s (qq.l38_s · _ _ _ _ _ _ _) (.n (by omega) (.cv ?_))
  rw [List.drop_eq_nil_of_le (by omega)]
  rfl
 | succ d ih =>
  intro i hand out a hi hh ho hg
  have h1:i<rule.length:=by omega
  have hp:hand.length≤429981696:=Nat.le_trans hh (Nat.le_trans (Nat.pow_le_pow_right (by omega) (show i≤8 by omega)) (by decide))
  have h12:0<12 ^ i:=Nat.pow_pos (by omega)
  rw [List.drop_eq_getElem_cons h1]at hg ⊢
  obtain ⟨b,hb,hc⟩:=qGw hg
  rw [List.foldl_cons]
  refine .s (qq.l38_s · _ _ _ _ _ _ _) (.t (by omega) (.t (by omega) ?_))
  rw [nth_get _ _ _ h1]
  rcases hc with ⟨c1,_,_⟩ | ⟨c1,c2,c3,_,_⟩ | ⟨c1,_,_⟩
  ·refine .t c1 ?_
   rw [w64n i (by omega),stepL,if_pos c1]
   exact ih (i+1) _ _ b (by omega) (by rw [Nat.pow_succ,List.length_singleton]; omega) ho hb
  ·refine .n (by omega) (.t c1 ?_)
   rw [stepL,if_neg (by omega),if_pos c1]
   refine qGx h rule g size hand out i h1 c3.1 hp ?_ hand.length 0 (by omega)
   rw [w64n i (by omega)]
   refine ih (i+1) _ _ b (by omega) ?_ ho hb
   have:=qDO (qHS l g rule[i]) (qCK h g rule[i]) hand
   rw [Nat.pow_succ]
   omega
  ·refine .n (by omega) (.n (by omega) ?_)
   rw [stepL,if_neg (by omega),if_neg (by omega)]
   refine qGS l rule g size hz hand out ho i hp ?_ hand.length 0 (by omega)
   rw [w64n i (by omega)]
   exact ih (i+1) _ _ b (by omega) (Nat.zero_le _) (qDP size hand out ho) hb
def mayRun(l:List qA)(rule:List qf)(g size:Int):Prop:=Topo.Nodes l∧Rule.May rule∧(0≤g∧g<8)∧1≤size∧size≤3
instance (l:List qA) (rule:List qf) (g size:Int):Decidable (mayRun l rule g size):=inferInstanceAs (Decidable (_∧_))
theorem run(l:List qA)(rule:List qf)(g size:Int):Ev (fun k=>qq.f k l rule g size) (if mayRun l rule g size then (runL l rule g size,0) else ([],1)):=by
 have hc:Ev (fun k=>qAP.f k rule) (if Rule.May rule then 0 else 1):=⟨1101,fun k hk=>Rule.check rule k (by omega)⟩
 have hj:∀ y:Bool,y=decide (¬ (1≤size∧size≤3))→Topo.Nodes l→Rule.May rule→(0≤g∧g<8)→Ev (fun k=>qq.j16 k l rule g size y) (if mayRun l rule g size then (runL l rule g size,0) else ([],1)):=by
  intro y hy h1 h2 h3
  subst hy
  refine .s (qq.j16_s · _ _ _ _ _) ?_
  refine .i (fun c=>?_) (fun c=>?_)
  ·rw [if_neg (fun e=>oT c e.2.2.2)]
   exact .c _
  ·have c:1≤size∧size≤3:=Decidable.not_not.1 (fun e=>c (dT e))
   rw [if_pos ⟨h1,h2,h3,c⟩]
   exact qGy h1 rule h2.1.2 g size c.2 rule.length 0 [] [] (-1) (by omega) (Nat.zero_le _) (by have:=c.1; show ((0:Nat):Int)≤size; omega) h2.2
 have hn:¬ mayRun l rule g size→Ev (fun k=>qq.j16 k l rule g size true) (if mayRun l rule g size then (runL l rule g size,0) else ([],1)):=by
  intro c
  rw [if_neg c]
  exact .s (qq.j16_s · _ _ _ _ _) (.t rfl (.c _))
 unfold qq.f
 refine .b (Topo.check' l) ?_
 by_cases h1:Topo.Nodes l
 ·rw [dT h1]
  refine .t rfl (.b hc ?_)
  by_cases h2:Rule.May rule
  ·rw [if_pos h2]
   refine .t rfl (.i (fun c=>hn (fun e=>by have:=e.2.2.1; omega)) (fun c=>.i (fun c=>hn (fun e=>by have:=e.2.2.1; omega)) (fun c2=>.i (fun c=>hn (fun e=>by have:=e.2.2.2; omega)) (fun c3=>hj _ ?_ h1 h2 ⟨by omega,by omega⟩))))
   rw [decide_eq_decide]
   omega
  ·rw [if_neg h2]
   exact .n (by decide) (hn (fun e=>h2 e.2.1))
 ·rw [dF h1]
  exact .n (by decide) (hn (fun e=>h1 e.1))
theorem qDo(l:List qA)(g size:Int):∀(rule:List qf)(p:List qc × List Int),(p.2.length:Int)≤size→((rule.foldl (stepL l g size) p).2.length:Int)≤size
 | [],_,h=>h
 | s :: r,p,h=>by
  refine qDo l g size r _ ?_
  unfold stepL
  split
  ·exact h
  ·split
   ·exact h
   ·exact qDP size _ _ h
theorem qHQ(l:List qA)(rule:List qf)(g size:Int)(h:1≤size):((runL l rule g size).length:Int)≤size:=qDo l g size rule ([],[]) (by show ((0:Nat):Int)≤size; omega)
end Place
namespace Topo
def apartR(l:List qA):List Int→List Int→Bool
 | _,[]=>true
 | met,id :: r=>match l.find? (fun n=>decide (n.f0=id)) with
  | some n => !decide (n.f1 ∈ met)&&apartR l (met++[n.f1]) r
  | none=>false
def apartT(l:List qA):List Int→List Int→Bool
 | _,[]=>true
 | met,id :: r=>match l.find? (fun n=>decide (n.f0=id) && !decide (n.f1 ∈ met)) with
  | some n=>apartT l (met++[n.f1]) r
  | none=>false
theorem qFf (l:List qA) (ids met:List Int) (i:Nat) (w:Bool) (hl:l.length<4611686018427387904) (hm:met.length<1000000000000) (hi:i<ids.length) (hil:ids.length<4611686018427387904)
  (hs:∀ n,l.find? (fun n=>decide (n.f0=ids[i]) && !decide (n.f1 ∈ met))=some n→Ev (fun k=>qAC.l18 k l ids (met++[n.f1]) ((i+1:Nat):Int)) w)
  (hn:l.find? (fun n=>decide (n.f0=ids[i]) && !decide (n.f1 ∈ met))=none→w=false) :
  ∀(d j:Nat),j+d=l.length→(l.take j).find? (fun n=>decide (n.f0=ids[i]) && !decide (n.f1 ∈ met))=none→Ev (fun k=>qAC.l35 k l ids met (i:Int) (j:Int)) w:=by
 intro d
 induction d with
 | zero =>
  intro j hj ht
  refine .s (qAC.l35_s · _ _ _ _ _) (.n (by omega) (.cv ?_))
  rw [List.take_of_length_le (by omega)]at ht
  exact (hn ht).symm
 | succ d ih =>
  intro j hj ht
  have h1:j<l.length:=by omega
  refine .s (qAC.l35_s · _ _ _ _ _) (.t (by omega) (.t (by omega) ?_))
  have hb:∀ b:Bool,b=(decide (l[j].f0=ids[i]) && !decide (l[j].f1 ∈ met))→Ev (fun k=>qAC.j58 k l ids met (i:Int) (j:Int) b) w:=by
   intro b hb
   refine .s (qAC.j58_s · _ _ _ _ _ _) ?_
   cases b with
   | true =>
    refine .t rfl (.t (by omega) ?_)
    rw [nth_get _ _ _ h1,w64n i (by omega)]
    refine hs _ ?_
    have e:=congrArg (List.find? (fun n=>decide (n.f0=ids[i]) && !decide (n.f1 ∈ met))) (List.take_append_drop j l)
    rw [← e,List.find?_append,ht,List.drop_eq_getElem_cons h1,List.find?_cons_of_pos (p:=fun n:qA=>decide (n.f0=ids[i]) && !decide (n.f1 ∈ met)) hb.symm]
    rfl
   | false =>
    refine .n (by decide) ?_
    rw [w64n j (by omega)]
    refine ih (j+1) (by omega) ?_
    rw [List.take_add_one,List.find?_append,ht,List.getElem?_eq_getElem h1]
    simp only [Option.toList_some,Option.none_or]
    rw [List.find?_cons_of_neg]
    ·rfl
    ·rw [← hb]; decide
  rw [nth_get _ _ _ h1,nth_get _ _ _ hi]
  by_cases h:l[j].f0=ids[i]
  ·refine .t h (.b (contains met _ (by omega)) (hb _ ?_))
   rw [dT h]; rfl
  ·refine .n h (hb _ ?_)
   rw [dF h]; rfl
theorem qFg(l:List qA)(ids:List Int)(hl:l.length<4611686018427387904)(hil:ids.length<500000000000):∀(d i:Nat)(met:List Int),i+d=ids.length→met.length=i→Ev (fun k=>qAC.l18 k l ids met (i:Int)) (apartT l met (ids.drop i)):=by
 intro d
 induction d with
 | zero =>
  intro i met hi hm
  refine .s (qAC.l18_s · _ _ _ _) (.n (by omega) (.cv ?_))
  rw [List.drop_eq_nil_of_le (by omega)]
  rfl
 | succ d ih =>
  intro i met hi hm
  have h1:i<ids.length:=by omega
  refine .s (qAC.l18_s · _ _ _ _) (.t (by omega) (.t (by omega) ?_))
  refine qFf l ids met i _ hl (by omega) h1 (by omega) ?_ ?_ l.length 0 (by omega) rfl
  ·intro n hn
   refine (ih (i+1) _ (by omega) (by simp [hm])).v ?_
   rw [List.drop_eq_getElem_cons h1,apartT,hn]
  ·intro hn
   rw [List.drop_eq_getElem_cons h1,apartT,hn]
theorem qFh:∀(p:Int)(l:List qA),rise p l=true→∀ n ∈ l,p<n.f0
 | _,[],_,_,h=>nomatch h
 | p,m :: l,h,n,hn=>by
  simp only [rise,Bool.and_eq_true,decide_eq_true_eq]at h
  rcases List.mem_cons.1 hn with rfl | hn
  ·exact h.1.2
  ·exact Int.lt_trans h.1.2 (qFh _ l h.2 n hn)
theorem qEa(id:Int)(met:List Int):∀(p:Int)(l:List qA),rise p l=true→l.find? (fun n=>decide (n.f0=id) && !decide (n.f1 ∈ met))=match l.find? (fun n=>decide (n.f0=id)) with
  | some n=>if n.f1 ∈ met then none else some n
  | none=>none
 | _,[],_=>rfl
 | p,m :: l,h=>by
  simp only [rise,Bool.and_eq_true,decide_eq_true_eq]at h
  by_cases hm:m.f0=id
  ·rw [List.find?_cons_of_pos (a:=m) (p:=fun n:qA=>decide (n.f0=id)) (by simpa using hm)]
   by_cases hz:m.f1 ∈ met
   ·simp only [hz,if_true]
    rw [List.find?_eq_none]
    intro n hn
    rcases List.mem_cons.1 hn with rfl | hn
    ·simp [hz]
    ·have:=qFh _ _ h.2 n hn
     have:¬ n.f0=id:=by omega
     simp [this]
   ·rw [List.find?_cons_of_pos (by simp [hm,hz])]
    simp only [hz,if_false]
  ·rw [List.find?_cons_of_neg (by simp [hm]),List.find?_cons_of_neg (by simpa using hm)]
   exact qEa id met _ l h.2
theorem qDG(l:List qA)(h:rise 0 l=true):∀(ids met:List Int),apartT l met ids=apartR l met ids
 | [],_=>rfl
 | id :: r,met=>by
  rw [apartT,apartR,qEa id met 0 l h]
  cases l.find? (fun n=>decide (n.f0=id)) with
  | none=>rfl
  | some n =>
   by_cases hz:n.f1 ∈ met
   ·simp [hz]
   ·simp only [hz,if_false,decide_false,Bool.not_false,Bool.true_and]
    exact qDG l h r _
theorem apart(l:List qA)(ids:List Int)(hl:l.length<4611686018427387904)(hil:ids.length<500000000000):Ev (fun k=>qAC.f k l ids) (decide (Nodes l)&&apartR l [] ids):=by
 unfold qAC.f
 refine .b (check l hl) ?_
 by_cases h:Nodes l
 ·rw [dT h]
  refine .t rfl ((qFg l ids hl hil ids.length 0 [] (by omega) rfl).v ?_)
  rw [List.drop_zero,qDG l h.2,Bool.true_and]
 ·rw [dF h]
  exact .n (by decide) (.c _)
def find(l:List qA)(id:Int):qA × Bool:=match l.find? (fun n=>decide (n.f0=id)) with
 | some n=>(n,true)
 | none=>(⟨0,0,0,0,false,false⟩,false)
theorem qGz(l:List qA)(id:Int)(hl:l.length<4611686018427387904):∀(d i:Nat),i+d=l.length→Ev (fun k=>qAA.l7 k l id (i:Int)) (find (l.drop i) id):=by
 intro d
 induction d with
 | zero =>
  intro i hi
  refine .s (qAA.l7_s · _ _ _) (.n (by omega) (.cv ?_))
  rw [List.drop_eq_nil_of_le (by omega)]
  rfl
 | succ d ih =>
  intro i hi
  have h1:i<l.length:=by omega
  refine .s (qAA.l7_s · _ _ _) (.t (by omega) (.t (by omega) ?_))
  rw [List.drop_eq_getElem_cons h1,nth_get _ _ _ h1]
  by_cases h:l[i].f0=id
  ·refine .t h (.cv ?_)
   rw [find,List.find?_cons_of_pos (by simpa using h)]
  ·refine .n h ?_
   rw [w64n i (by omega)]
   refine (ih (i+1) (by omega)).v ?_
   rw [find,find,List.find?_cons_of_neg (by simpa using h)]
theorem reffind(l:List qA)(id:Int)(hl:l.length<4611686018427387904):Ev (fun k=>qAA.f k l id) (find l id):=by
 unfold qAA.f
 exact qGz l id hl l.length 0 (by omega)
def zn(l:List qA)(id:Int):Int:=(find l id).1.f1
theorem qFi(l:List qA)(ids:List Int)(i:Nat)(t:qA × Bool)(w:Bool)(hl:l.length<4611686018427387904)(hi:i<ids.length)(hil:ids.length<4611686018427387904):∀(d j:Nat),j+d=i →
  (t.1.f1 ∈ ((ids.take i).drop j).map (zn l)→w=false)→(¬ t.1.f1 ∈ ((ids.take i).drop j).map (zn l)→Ev (fun k=>qg.l5 k l ids ((i+1:Nat):Int)) w) →
  Ev (fun k=>qg.l31 k l ids (i:Int) t (j:Int)) w:=by
 intro d
 induction d with
 | zero =>
  intro j hj _ hn
  refine .s (qg.l31_s · _ _ _ _ _) (.n (by omega) ?_)
  rw [w64n i (by omega)]
  refine hn ?_
  rw [List.drop_eq_nil_of_le (by simp; omega)]
  simp
 | succ d ih =>
  intro j hj hy hn
  have h1:j<ids.length:=by omega
  have h2:j<(ids.take i).length:=by simp; omega
  rw [List.drop_eq_getElem_cons h2,List.getElem_take,List.map_cons,List.mem_cons]at hy hn
  refine .s (qg.l31_s · _ _ _ _ _) (.t (by omega) (.t (by omega) ?_))
  rw [nth_get _ _ _ h1]
  refine .b (reffind l _ hl) ?_
  by_cases h:t.1.f1=zn l ids[j]
  ·exact .t h (.cv (hy (.inl h)).symm)
  ·refine .n h ?_
   rw [w64n j (by omega)]
   exact ih (j+1) (by omega) (fun m=>hy (.inr m)) (fun m=>hn (fun o=>o.elim h m))
theorem qGT(l:List qA)(ids:List Int)(hl:l.length<4611686018427387904)(hil:ids.length<500000000000):∀(d i:Nat),i+d=ids.length→Ev (fun k=>qg.l5 k l ids (i:Int)) (apartR l ((ids.take i).map (zn l)) (ids.drop i)):=by
 intro d
 induction d with
 | zero =>
  intro i hi
  refine .s (qg.l5_s · _ _ _) (.n (by omega) (.cv ?_))
  rw [List.drop_eq_nil_of_le (by omega)]
  rfl
 | succ d ih =>
  intro i hi
  have h1:i<ids.length:=by omega
  refine .s (qg.l5_s · _ _ _) (.t (by omega) (.t (by omega) ?_))
  rw [nth_get _ _ _ h1,List.drop_eq_getElem_cons h1,apartR]
  have ih:=ih (i+1) (by omega)
  rw [List.take_add_one,List.getElem?_eq_getElem h1,Option.toList_some,List.map_append,List.map_singleton]at ih
  refine .b (reffind l _ hl) ?_
  have e:zn l ids[i]=(find l ids[i]).1.f1:=rfl
  unfold find at e ⊢
  cases hf:l.find? (fun n=>decide (n.f0=ids[i])) with
  | none=>exact .n (by decide) (.c _)
  | some n =>
   rw [hf]at e
   rw [e]at ih
   refine .t rfl ?_
   refine qFi l ids i (n,true) _ hl h1 (by omega) i 0 (by omega) ?_ ?_
   ·intro h
    rw [List.drop_zero]at h
    show (!decide (n.f1 ∈ _)&&_)=false
    rw [dT h]
    rfl
   ·intro h
    rw [List.drop_zero]at h
    refine ih.v ?_
    show _=(!decide (n.f1 ∈ _)&&_)
    rw [dF h]
    rfl
theorem refapart(l:List qA)(ids:List Int)(hl:l.length<4611686018427387904)(hil:ids.length<500000000000):Ev (fun k=>qg.f k l ids) (apartR l [] ids):=by
 unfold qg.f
 exact qGT l ids hl hil ids.length 0 (by omega)
end Topo
namespace Place
theorem qEb{is:qA→Bool}{of:qA→Int}{l:List qA}{id:Int}(h:∀ n ∈ l,Topo.okW n):0<Topo.wSum is of l id↔∃ n ∈ l,is n=true∧of n=id∧0<Topo.weight n:=by
 induction l with
 | nil=>exact ⟨fun h=>absurd h (Int.lt_irrefl 0),fun h=>by obtain ⟨_,h,_⟩:=h; cases h⟩
 | cons n l ih =>
  have hl:∀ m ∈ l,Topo.okW m:=fun m hm=>h m (List.mem_cons_of_mem _ hm)
  have ih:=ih hl
  have h0:=(Topo.wSum_ge is of l id hl).1
  have hw:=(Topo.weight_ok (h n List.mem_cons_self)).1
  have e:Topo.wSum is of (n :: l) id=Topo.wSum is of l id+if is n=true∧of n=id then Topo.weight n else 0:=by
   unfold Topo.wSum
   rw [List.filter_cons]
   by_cases c:is n=true∧of n=id
   ·rw [if_pos (by simp [c]),if_pos c,List.map_cons,List.sum_cons]
    omega
   ·rw [if_neg (by simpa using c),if_neg c]
    omega
  rw [e]
  constructor
  ·intro hp
   by_cases c:is n=true∧of n=id
   ·rw [if_pos c]at hp
    by_cases hw0:0<Topo.weight n
    ·exact ⟨n,List.mem_cons_self,c.1,c.2,hw0⟩
    ·obtain ⟨m,hm,q⟩:=ih.1 (by omega)
     exact ⟨m,List.mem_cons_of_mem _ hm,q⟩
   ·rw [if_neg c]at hp
    obtain ⟨m,hm,q⟩:=ih.1 (by omega)
    exact ⟨m,List.mem_cons_of_mem _ hm,q⟩
  ·rintro ⟨m,hm,q1,q2,q3⟩
   rcases List.mem_cons.1 hm with rfl | hm
   ·rw [if_pos ⟨q1,q2⟩]
    omega
   ·have:=ih.2 ⟨m,hm,q1,q2,q3⟩
    split <;> omega
theorem qFj{key:Nat}{c:List qB}{x:qB}: x ∈ Draw.ord key c↔x ∈ c∧x.f1≠0:=by
 unfold Draw.ord Draw.heavy
 rw [qCA,List.mem_filter]
 simp
theorem qEF{l:List qA}(h:Topo.Nodes l)(is:qA→Bool)(of:qA→Int)(key:Nat)(id:Int):id ∈ (Draw.ord key (Topo.wL is of l)).map (fun x=>x.f0)↔∃ n ∈ l,is n=true∧of n=id∧0<Topo.weight n:=by
 have hW:=(Topo.wL_full is of h).1
 have h0:=(Topo.wSum_ge is of l id h.okW).1
 rw [← qEb h.okW,List.mem_map]
 have hc:∀ x:Int,0≤x→(Topo.cap x≠0↔0<x):=by
  intro x hx
  unfold Topo.cap
  split <;> omega
 constructor
 ·rintro ⟨c,hc1,rfl⟩
  obtain ⟨h1,h2⟩:=qFj.1 hc1
  rw [((hW.mem c).1 h1).2]at h2
  exact (hc _ h0).1 h2
 ·intro hp
  refine ⟨⟨id,Topo.cap (Topo.wSum is of l id)⟩,qFj.2 ⟨(hW.mem _).2 ⟨?_,rfl⟩,(hc _ h0).2 hp⟩,rfl⟩
  obtain ⟨n,hn,q1,q2,_⟩:=(qEb h.okW).1 hp
  exact ⟨n,hn,q1,q2⟩
def st2(size:Int):qf:=⟨2,1,size⟩
def st3:qf:=⟨2,2,1⟩
def st4:qf:=⟨2,3,1⟩
def commonL(size:Int):List qf:=[⟨1,0,0⟩,st2 size,st3,st4,⟨3,0,0⟩]
def zonesOf(l:List qA)(g:Int):List Int:=(Draw.ord (Mixn.fold (Draw.un g) [Draw.un 1,Draw.un 0,Draw.un 0]) (Topo.wL Topo.isZ Topo.ofZ l)).map (fun x=>x.f0)
def pick(l:List qA)(g:Int)(z:Int):List qc:=(qHS l g st3 ⟨z,0,0⟩).flatMap (qHS l g st4)
def pk(l:List qA)(g:Int)(z:Int):Int:=((pick l g z).headD ⟨0,0,0⟩).f2
theorem qGU{l:List qA}(h:Topo.Nodes l)(g:Int){z:Int}(hz:1≤z)(hn:∃ n ∈ l,n.f1=z∧0<Topo.weight n):∃ n ∈ l,n.f1=z∧0<Topo.weight n∧∃ r,pick l g z=[⟨z,r,n.f0⟩]:=by
 obtain ⟨n,hn,h1,h2⟩:=hn
 have k3:kids l g st3 z 0=(Draw.ord (Mixn.fold (Draw.un g) [Draw.un 2,Draw.un z,Draw.un 0]) (Topo.wL (Topo.isR z) Topo.ofR l)).map (fun x=>x.f0):=rfl
 have m3:=qEF h (Topo.isR z) Topo.ofR (Mixn.fold (Draw.un g) [Draw.un 2,Draw.un z,Draw.un 0])
 rw [← k3]at m3
 have hr:=(m3 n.f2).2 ⟨n,hn,by unfold Topo.isR; simpa using h1,rfl,h2⟩
 generalize hk:kids l g st3 z 0=k at hr m3
 cases k with
 | nil=>cases hr
 | cons r rs =>
  obtain ⟨n2,hn2,i2,o2,w2⟩:=(m3 r).1 List.mem_cons_self
  have e3:qHS l g st3 ⟨z,0,0⟩=[⟨z,r,0⟩]:=by
   unfold qHS
   rw [show kids l g st3 (⟨z,0,0⟩:qc).f0 (⟨z,0,0⟩:qc).f1=r :: rs from hk]
   rfl
  have k4:kids l g st4 z r=(Draw.ord (Mixn.fold (Draw.un g) [Draw.un 3,Draw.un z,Draw.un r]) (Topo.wL (Topo.isL z r) Topo.ofL l)).map (fun x=>x.f0):=rfl
  have m4:=qEF h (Topo.isL z r) Topo.ofL (Mixn.fold (Draw.un g) [Draw.un 3,Draw.un z,Draw.un r])
  rw [← k4]at m4
  have i2:n2.f1=z:=by unfold Topo.isR at i2; simpa using i2
  have hf:=(m4 n2.f0).2 ⟨n2,hn2,by unfold Topo.isL; have:n2.f2=r:=o2; simp [i2,this],rfl,w2⟩
  generalize hk4:kids l g st4 z r=k4' at hf m4
  cases k4' with
  | nil=>cases hf
  | cons q qs =>
   obtain ⟨n3,hn3,i3,o3,w3⟩:=(m4 q).1 List.mem_cons_self
   have o3:n3.f0=q:=o3
   have i3:n3.f1=z:=by
    unfold Topo.isL at i3
    rw [Bool.and_eq_true,Bool.or_eq_true,beq_iff_eq,beq_iff_eq]at i3
    rcases i3.1 with c | c
    ·omega
    ·exact c
   refine ⟨n3,hn3,i3,w3,r,?_⟩
   unfold pick
   rw [e3,List.flatMap_cons,List.flatMap_nil,List.append_nil]
   unfold qHS
   rw [show kids l g st4 (⟨z,r,0⟩:qc).f0 (⟨z,r,0⟩:qc).f1=q :: qs from hk4,o3]
   rfl
theorem qEc(size:Int):∀(hand:List qc)(out:List Int),((out.length+hand.length:Nat):Int)≤size→(hand.map (fun x=>x.f2)).Nodup→(∀ x ∈ hand,¬ x.f2 ∈ out)→hand.foldl (emit size) out=out++hand.map (fun x=>x.f2)
 | [],out,_,_,_=>(List.append_nil _).symm
 | x :: r,out,hl,hn,ho=>by
  rw [List.map_cons]at hn ⊢
  obtain ⟨h1,h2⟩:=List.nodup_cons.1 hn
  rw [List.length_cons]at hl
  rw [List.foldl_cons,emit,if_pos ⟨by omega,ho x List.mem_cons_self⟩,qEc size r (out++[x.f2]) (by rw [lA,List.length_singleton]; omega) h2,List.append_assoc]
  ·rfl
  ·intro y hy hm
   rcases List.mem_append.1 hm with hm | hm
   ·exact ho y (List.mem_cons_of_mem _ hy) hm
   ·exact h1 (List.mem_map.2 ⟨y,hy,List.mem_singleton.1 hm⟩)
theorem qGV{l:List qA}(h:Topo.Nodes l)(g:Int)(z:Int):z ∈ zonesOf l g↔∃ n ∈ l,n.f1=z∧0<Topo.weight n:=by
 unfold zonesOf
 rw [qEF h]
 exact ⟨fun ⟨n,hn,_,q1,q2⟩=>⟨n,hn,q1,q2⟩,fun ⟨n,hn,q1,q2⟩=>⟨n,hn,rfl,q1,q2⟩⟩
theorem zone_pk{l:List qA}(h:Topo.Nodes l)(g:Int){z:Int}(hz:z ∈ zonesOf l g):∃ n ∈ l,n.f1=z∧0<Topo.weight n∧pk l g z=n.f0∧∃ r,pick l g z=[⟨z,r,pk l g z⟩]:=by
 have hz':=(qGV h g z).1 hz
 have h1:1≤z:=by
  obtain ⟨n,hn,q,_⟩:=hz'
  have:=h.ok n hn
  unfold Topo.okN at this
  omega
 obtain ⟨n,hn,q1,q2,r,e⟩:=qGU h g h1 hz'
 have e2:pk l g z=n.f0:=by unfold pk; rw [e]; rfl
 exact ⟨n,hn,q1,q2,e2,r,e2 ▸ e⟩
theorem qFk{key:Nat}{c:List qB}(h:Draw.Chs c):((Draw.ord key c).map (fun x=>x.f0)).Nodup:=by
 have hp:((Draw.heavy c).map (fun x=>x.f0)).Nodup:=by
  unfold List.Nodup
  rw [List.pairwise_map]
  exact (Draw.heavy_up h).imp (fun {a b} hab e=>by omega)
 exact ((qBv _ _).map (fun x:qB=>x.f0)).nodup_iff.2 hp
theorem zones_nodup{l:List qA}(h:Topo.Nodes l)(g:Int):(zonesOf l g).Nodup:=qFk (qDn h)
theorem node_uniq{l:List qA}(h:Topo.Nodes l){a b:qA}(ha:a ∈ l)(hb:b ∈ l)(e:a.f0=b.f0):a=b:=by
 obtain ⟨i,hi,rfl⟩:=List.getElem_of_mem ha
 obtain ⟨j,hj,rfl⟩:=List.getElem_of_mem hb
 have hup:=List.pairwise_iff_getElem.1 h.up
 rcases Nat.lt_trichotomy i j with c | c | c
 ·have:=hup i j hi hj c; omega
 ·subst c; rfl
 ·have:=hup j i hj hi c; omega
theorem qCJ{α β : Type}{f g : α→List β}: ∀ {l:List α},(∀ x ∈ l,f x=g x)→l.flatMap f=l.flatMap g
 | [],_=>rfl
 | x :: l,h=>by
  rw [List.flatMap_cons,List.flatMap_cons,h x List.mem_cons_self,qCJ (fun y hy=>h y (List.mem_cons_of_mem _ hy))]
theorem qEG{α β : Type}(f : α→β)(l:List α):l.flatMap (fun x=>[f x])=l.map f:=by
 induction l with
 | nil=>rfl
 | cons x l ih=>rw [List.flatMap_cons,ih]; rfl
theorem qEp{l:List qA}(h:Topo.Nodes l)(g size:Int)(hs:1≤size∧size≤3):runL l (commonL size) g size=((zonesOf l g).take size.toNat).map (pk l g):=by
 have e:runL l (commonL size) g size=((((zonesOf l g).take size.toNat).map (fun z=>(⟨z,0,0⟩:qc))).flatMap (qHS l g st3) |>.flatMap (qHS l g st4)).foldl (emit size) []:=by
  have e2:qHS l g (st2 size) ⟨0,0,0⟩=((zonesOf l g).take size.toNat).map (fun z=>(⟨z,0,0⟩:qc)):=rfl
  have e1:runL l (commonL size) g size=((([⟨0,0,0⟩]:List qc).flatMap (qHS l g (st2 size))).flatMap (qHS l g st3) |>.flatMap (qHS l g st4)).foldl (emit size) []:=rfl
  rw [e1,List.flatMap_cons,List.flatMap_nil,List.append_nil,e2]
 have hmem:∀ z ∈ (zonesOf l g).take size.toNat,z ∈ zonesOf l g:=fun z hz=>List.mem_of_mem_take hz
 have e3:((((zonesOf l g).take size.toNat).map (fun z=>(⟨z,0,0⟩:qc))).flatMap (qHS l g st3)).flatMap (qHS l g st4)=((zonesOf l g).take size.toNat).map (fun z=>(pick l g z).headD ⟨0,0,0⟩):=by
  rw [List.flatMap_assoc,List.flatMap_map,← qEG]
  refine qCJ (fun z hz=>?_)
  obtain ⟨n,_,_,_,_,r,e⟩:=zone_pk h g (hmem z hz)
  show pick l g z=[(pick l g z).headD ⟨0,0,0⟩]
  rw [e]
  rfl
 have hmap:∀ L:List Int,(L.map (fun z=>(pick l g z).headD ⟨0,0,0⟩)).map (fun x=>x.f2)=L.map (pk l g):=fun L=>by rw [List.map_map]; rfl
 rw [e,e3,qEc,List.nil_append,hmap]
 ·rw [List.length_map,List.length_take,List.length_nil]
  omega
 ·rw [hmap]
  have hnd:((zonesOf l g).take size.toNat).Nodup:=(zones_nodup h g).sublist (List.take_sublist _ _)
  unfold List.Nodup
  rw [List.pairwise_map]
  refine List.Pairwise.imp_of_mem ?_ hnd
  intro a b ha hb hab e
  obtain ⟨n,hn,q1,_,q2,_⟩:=zone_pk h g (hmem a ha)
  obtain ⟨n',hn',q1',_,q2',_⟩:=zone_pk h g (hmem b hb)
  have:n=n':=node_uniq h hn hn' (by omega)
  subst this
  exact hab (by omega)
 ·intro x _ hx
  cases hx
theorem qEq{size:Int}(hs:1≤size∧size≤3):Rule.May (commonL size):=by
 have:size=1∨size=2∨size=3:=by omega
 rcases this with rfl | rfl | rfl <;> decide
def ofCommon(l:List qA)(g size:Int):List Int:=if Topo.Nodes l∧(0≤g∧g<8)∧1≤size∧size≤3 then ((zonesOf l g).take size.toNat).map (pk l g) else []
theorem of_(l:List qA)(g size:Int):Ev (fun k=>qBR.f k l g size) (ofCommon l g size):=by
 unfold qBR.f
 have hc:Ev (fun k=>qAX.f k size) (if 1≤size∧size≤3 then commonL size else []):=⟨1,fun k hk=>by
  obtain ⟨k,rfl⟩:∃ m,k=m+1:=⟨k - 1,by omega⟩
  exact Rule.common k size⟩
 refine .b hc (.b (run l _ g size) (.cv ?_))
 unfold ofCommon
 by_cases c:Topo.Nodes l∧(0≤g∧g<8)∧1≤size∧size≤3
 ·rw [if_pos c,if_pos c.2.2,if_pos ⟨c.1,qEq c.2.2,c.2.1,c.2.2⟩]
  exact qEp c.1 g size c.2.2
 ·rw [if_neg c,if_neg]
  ·exact fun m=>c ⟨m.1,m.2.2.1,m.2.2.2⟩
end Place
namespace Maps
theorem min'(x a b:Int):qAZ.f x a b=some (decide (a≤x∧x≤b)):=by
 unfold qAZ.f
 by_cases h:x≥a
 ·rw [if_pos h]
  congr 1
  simp only [decide_eq_decide]
  omega
 ·rw [if_neg h,dF (by omega)]
def temps(m:qG):Int→List qE→Bool
 | _,[]=>true
 | p,t :: l=>(decide ((0≤t.f0∧t.f0<m.f3)∧p<t.f0∧1≤(t.f1.length:Int)∧(t.f1.length:Int)≤m.f1)&&Topo.apartR m.f4 [] t.f1)&&temps m t.f0 l
def riseI:Int→List Int→Bool
 | _,[]=>true
 | p,n :: l=>decide ((1≤n∧n≤999)∧p<n)&&riseI n l
def past(m:qG)(since:Int):Int→List qF→List qF→Bool
 | _,_,[]=>true
 | p,seen,s :: l=>(decide ((0≤s.f0∧s.f0<since)∧p<s.f0∧m.f2≤(s.f1.length:Int)∧(s.f1.length:Int)≤m.f1)&&riseI 0 s.f1 && !decide (∃ x ∈ seen,x.f1=s.f1))&&past m since s.f0 (seen++[s]) l
def trails(m:qG):List qD→Bool
 | []=>true
 | t :: l=>(decide (0≤t.f0∧t.f0≤m.f0)&&past m t.f0 (-1) [] t.f1)&&trails m l
def Flat(m:qG):Prop:=(0≤m.f0∧m.f0≤2147483647)∧(1≤m.f1∧m.f1≤3)∧(1≤m.f2∧m.f2≤m.f1)∧(1≤m.f3∧m.f3≤8)∧Topo.Nodes m.f4
instance (m:qG):Decidable (Flat m):=inferInstanceAs (Decidable (_∧_))
def May(m:qG):Prop:=Flat m∧temps m (-1) m.f5=true∧(m.f6.length:Int)=m.f3∧trails m m.f6=true
instance (m:qG):Decidable (May m):=inferInstanceAs (Decidable (_∧_))
structure Small (m:qG):Prop where
 h4:m.f4.length<4611686018427387904
 h5:m.f5.length<4611686018427387904
 h6:m.f6.length<4611686018427387904
 hp:∀ t ∈ m.f6,t.f1.length<4611686018427387904
 hs:∀ t ∈ m.f6,∀ s ∈ t.f1,s.f1.length<4611686018427387904
def preT(l:List qE)(i:Nat):Int:=if i=0 then -1 else (nth qE.z l (w64 ((i:Int) - 1))).f0
theorem qDp(l:List qE)(i:Nat)(h:i<l.length)(hl:l.length<4611686018427387904):preT l (i+1)=l[i].f0:=by
 unfold preT
 rw [if_neg (by omega),w64p (i+1) (by omega) (by omega),show i+1 - 1=i by omega,nth_get _ _ _ h]
def preS(l:List qF)(i:Nat):Int:=if i=0 then -1 else (nth qF.z l (w64 ((i:Int) - 1))).f0
theorem qFl(l:List qF)(i:Nat)(h:i<l.length)(hl:l.length<4611686018427387904):preS l (i+1)=l[i].f0:=by
 unfold preS
 rw [if_neg (by omega),w64p (i+1) (by omega) (by omega),show i+1 - 1=i by omega,nth_get _ _ _ h]
def preI(l:List Int)(i:Nat):Int:=if i=0 then 0 else nth 0 l (w64 ((i:Int) - 1))
theorem qDq(l:List Int)(i:Nat)(h:i<l.length)(hl:l.length<4611686018427387904):preI l (i+1)=l[i]:=by
 unfold preI
 rw [if_neg (by omega),w64p (i+1) (by omega) (by omega),show i+1 - 1=i by omega,nth_get _ _ _ h]
theorem qDQ{α : Type}(a b:List α)(i:Nat)(ha:i<a.length)(hb:i<b.length):(a.drop i=b.drop i)↔(a[i]=b[i]∧a.drop (i+1)=b.drop (i+1)):=by
 rw [List.drop_eq_getElem_cons ha,List.drop_eq_getElem_cons hb,List.cons.injEq]
theorem qGW(a b:List Int)(hab:a.length=b.length)(hl:a.length<4611686018427387904):∀(d i:Nat),i+d=a.length→Ev (fun k=>ql.l9 k a b (i:Int)) (decide (a.drop i=b.drop i)):=by
 intro d
 induction d with
 | zero =>
  intro i hi
  refine .s (ql.l9_s · _ _ _) (.n (by omega) (.cv ?_))
  rw [List.drop_eq_nil_of_le (by omega),List.drop_eq_nil_of_le (by omega)]
  rfl
 | succ d ih =>
  intro i hi
  have h1:i<a.length:=by omega
  have h2:i<b.length:=by omega
  refine .s (ql.l9_s · _ _ _) (.t (by omega) (.t (by omega) (.t (by omega) ?_)))
  rw [nth_get _ _ _ h1,nth_get _ _ _ h2,w64n i (by omega)]
  refine .i (fun h=>(ih (i+1) (by omega)).v ?_) (fun h=>.cv ?_)
  ·simp only [qDQ a b i h1 h2,h,true_and]
  ·simp only [qDQ a b i h1 h2,h,false_and,decide_false]
theorem equal(a b:List Int)(hl:a.length<4611686018427387904):Ev (fun k=>ql.f k a b) (decide (a=b)):=by
 unfold ql.f
 refine .i (fun h=>qGW a b (by omega) hl a.length 0 (by omega)) (fun h=>.cv ?_)
 exact (dF (fun e=>h (by rw [e]))).symm
theorem qHA(a b:List Int)(hab:a.length=b.length)(hl:a.length<4611686018427387904):∀(d i:Nat),i+d=a.length→Ev (fun k=>qw.l9 k a b (i:Int)) (decide (a.drop i=b.drop i)):=by
 intro d
 induction d with
 | zero =>
  intro i hi
  refine .s (qw.l9_s · _ _ _) (.n (by omega) (.cv ?_))
  rw [List.drop_eq_nil_of_le (by omega),List.drop_eq_nil_of_le (by omega)]
  rfl
 | succ d ih =>
  intro i hi
  have h1:i<a.length:=by omega
  have h2:i<b.length:=by omega
  refine .s (qw.l9_s · _ _ _) (.t (by omega) (.t (by omega) (.t (by omega) ?_)))
  rw [nth_get _ _ _ h1,nth_get _ _ _ h2,w64n i (by omega)]
  refine .i (fun h=>(ih (i+1) (by omega)).v ?_) (fun h=>.cv ?_)
  ·simp only [qDQ a b i h1 h2,h,true_and]
  ·simp only [qDQ a b i h1 h2,h,false_and,decide_false]
theorem ints(a b:List Int)(hl:a.length<4611686018427387904):Ev (fun k=>qw.f k a b) (decide (a=b)):=by
 unfold qw.f
 refine .i (fun h=>qHA a b (by omega) hl a.length 0 (by omega)) (fun h=>.cv ?_)
 exact (dF (fun e=>h (by rw [e]))).symm
theorem qHB(l:List qF)(s:qF)(hl:l.length<4611686018427387904)(hs:∀ x ∈ l,x.f1.length<4611686018427387904):∀(d i:Nat),i+d=l.length→∃ x,Ev (fun k=>qT.l5 k l s (i:Int)) x∧(0≤x↔∃ y ∈ l.drop i,y.f1=s.f1):=by
 intro d
 induction d with
 | zero =>
  intro i hi
  refine ⟨-1,.s (qT.l5_s · _ _ _) (.n (by omega) (.c _)),?_⟩
  rw [List.drop_eq_nil_of_le (by omega)]
  simp
 | succ d ih =>
  intro i hi
  have h1:i<l.length:=by omega
  obtain ⟨x,hx,hm⟩:=ih (i+1) (by omega)
  have hq:Ev (fun k=>qBD.f k l[i] s) (decide (l[i].f1=s.f1)):=by
   unfold qBD.f
   exact .b (equal _ _ (hs _ (gM h1))) (.c _)
  by_cases h:l[i].f1=s.f1
  ·refine ⟨i,.s (qT.l5_s · _ _ _) (.t (by omega) (.t (by omega) ?_)),?_⟩
   ·rw [nth_get _ _ _ h1]
    exact .b hq (.t (dT h) (.c _))
   ·rw [List.drop_eq_getElem_cons h1]
    exact ⟨fun _=>⟨_,List.mem_cons_self,h⟩,fun _=>by omega⟩
  ·refine ⟨x,.s (qT.l5_s · _ _ _) (.t (by omega) (.t (by omega) ?_)),?_⟩
   ·rw [nth_get _ _ _ h1,w64n i (by omega)]
    exact .b hq (.n (by simpa using h) hx)
   ·rw [List.drop_eq_getElem_cons h1,hm]
    exact ⟨fun ⟨y,m,e⟩=>⟨y,List.mem_cons.2 (.inr m),e⟩,fun ⟨y,m,e⟩=>⟨y,(List.mem_cons.1 m).resolve_left (fun q=>h (q ▸ e)),e⟩⟩
theorem seen(l:List qF)(s:qF)(hl:l.length<4611686018427387904)(hs:∀ x ∈ l,x.f1.length<4611686018427387904):Ev (fun k=>qj.f k l s) (decide (∃ y ∈ l,y.f1=s.f1)):=by
 obtain ⟨x,hx,hm⟩:=qHB l s hl hs l.length 0 (by omega)
 unfold qj.f qT.f
 refine .b hx (.cv ?_)
 rw [decide_eq_decide]
 exact hm
theorem qGX (m:qG) (t:qD) (i:Nat) (hl:t.f1.length<4611686018427387904) (hs:∀ s ∈ t.f1,s.f1.length<4611686018427387904) (hi:i<t.f1.length) (w:Bool)
  (hc:riseI 0 t.f1[i].f1=true→(∃ y ∈ t.f1.take i,y.f1=t.f1[i].f1)→w=false)
  (hn:riseI 0 t.f1[i].f1=true→(¬ ∃ y ∈ t.f1.take i,y.f1=t.f1[i].f1)→Ev (fun k=>qAD.l9 k m t ((i+1:Nat):Int)) w)
  (hr:¬ riseI 0 t.f1[i].f1=true→w=false):∀(d j:Nat),j+d=t.f1[i].f1.length→(riseI 0 t.f1[i].f1=riseI (preI t.f1[i].f1 j) (t.f1[i].f1.drop j))→Ev (fun k=>qAD.l61 k m t (i:Int) (j:Int)) w:=by
 have hz:=nth_get qF.z _ _ hi
 have hsl:=hs _ (gM hi)
 intro d
 induction d with
 | zero =>
  intro j hj he
  refine .s (qAD.l61_s · _ _ _ _) ?_
  rw [hz]
  rw [List.drop_eq_nil_of_le (by omega)]at he
  refine .n (by omega) (.t (by omega) ?_)
  rw [show cutl t.f1 0 (i:Int)=t.f1.take i by simp [cutl],w64n i (by omega)]
  refine .b (seen _ _ (by simp; omega) (fun x m=>hs x (List.mem_of_mem_take m))) ?_
  refine .i (fun h=>.cv (hc he ?_).symm) (fun h=>hn he ?_)
  ·simpa using h
  ·simpa using h
 | succ d ih =>
  intro j hj he
  have h1:j<t.f1[i].f1.length:=by omega
  refine .s (qAD.l61_s · _ _ _ _) ?_
  rw [hz]
  refine .t (by omega) (.t (by omega) ?_)
  rw [List.drop_eq_getElem_cons h1]at he
  simp only [riseI]at he
  have hb:∀ b:Bool,(b=true↔¬ ((1≤t.f1[i].f1[j]∧t.f1[i].f1[j]≤999)∧preI t.f1[i].f1 j<t.f1[i].f1[j]))→Ev (fun k=>qAD.j86 k m t (i:Int) (j:Int) b) w:=by
   intro b hb
   refine .s (qAD.j86_s · _ _ _ _ _) ?_
   by_cases h:(1≤t.f1[i].f1[j]∧t.f1[i].f1[j]≤999)∧preI t.f1[i].f1 j<t.f1[i].f1[j]
   ·refine .n (fun e=>(hb.1 e) h) ?_
    rw [w64n j (by omega)]
    refine ih (j+1) (by omega) ?_
    rw [he,qDq _ j h1 hsl,dT h,Bool.true_and]
   ·refine .t (hb.2 h) (.cv (hr ?_).symm)
    rw [he,dF h]
    simp
  clear he ih hr hn hc
  rw [nth_get _ _ _ h1]
  have hp0:j=0→preI t.f1[i].f1 j=0:=fun e=>if_pos e
  have hp1:j≠0→nth 0 t.f1[i].f1 (w64 ((j:Int) - 1))=preI t.f1[i].f1 j:=fun e=>(if_neg e).symm
  have hw:j≠0→w64 ((j:Int) - 1)=((j - 1:Nat):Int):=fun e=>w64p j (by omega) (by omega)
  generalize preI t.f1[i].f1 j=p at *
  generalize nth 0 t.f1[i].f1 (w64 ((j:Int) - 1))=q at *
  generalize t.f1[i].f1[j]=n at *
  repeat' (first | refine Ev.b0 (min' _ _ _) ?_ | refine Ev.i (fun _=>?_) (fun _=>?_))
  all_goals simp only [decide_eq_true_eq]at *
  all_goals first
   | exact hb _ (by simp only [decide_eq_true_eq,Bool.false_eq_true,true_iff,false_iff]; omega)
   | (exfalso; omega)
theorem qHC(m:qG)(t:qD)(hl:t.f1.length<4611686018427387904)(hs:∀ s ∈ t.f1,s.f1.length<4611686018427387904)(ht:0≤t.f0∧t.f0≤2147483647):∀(d i:Nat),i+d=t.f1.length→Ev (fun k=>qAD.l9 k m t (i:Int)) (past m t.f0 (preS t.f1 i) (t.f1.take i) (t.f1.drop i)):=by
 intro d
 induction d with
 | zero =>
  intro i hi
  refine .s (qAD.l9_s · _ _ _) (.n (by omega) (.cv ?_))
  rw [List.drop_eq_nil_of_le (by omega)]
  rfl
 | succ d ih =>
  intro i hi
  have h1:i<t.f1.length:=by omega
  refine .s (qAD.l9_s · _ _ _) (.t (by omega) (.t (by omega) ?_))
  have ih:=ih (i+1) (by omega)
  rw [qFl _ i h1 hl,List.take_add_one,List.getElem?_eq_getElem h1,Option.toList_some]at ih
  rw [nth_get _ _ _ h1,List.drop_eq_getElem_cons h1]
  simp only [past]
  have hj:∀ b:Bool,(b=true↔¬ ((0≤t.f1[i].f0∧t.f1[i].f0<t.f0)∧preS t.f1 i<t.f1[i].f0∧m.f2≤(t.f1[i].f1.length:Int)∧(t.f1[i].f1.length:Int)≤m.f1))→Ev (fun k=>qAD.j51 k m t (i:Int) b) (decide ((0≤t.f1[i].f0∧t.f1[i].f0<t.f0)∧preS t.f1 i<t.f1[i].f0∧m.f2≤(t.f1[i].f1.length:Int)∧(t.f1[i].f1.length:Int)≤m.f1)&&riseI 0 t.f1[i].f1 && !decide (∃ x ∈ t.f1.take i,x.f1=t.f1[i].f1)&&past m t.f0 t.f1[i].f0 (t.f1.take i++[t.f1[i]]) (t.f1.drop (i+1))):=by
   intro b hb
   refine .s (qAD.j51_s · _ _ _ _) ?_
   by_cases h:(0≤t.f1[i].f0∧t.f1[i].f0<t.f0)∧preS t.f1 i<t.f1[i].f0∧m.f2≤(t.f1[i].f1.length:Int)∧(t.f1[i].f1.length:Int)≤m.f1
   ·refine .n (fun e=>(hb.1 e) h) ?_
    rw [dT h,Bool.true_and]
    refine qGX m t i hl hs h1 _ ?_ ?_ ?_ t.f1[i].f1.length 0 (by omega) (by rw [List.drop_zero]; rfl)
    ·intro h2 h3
     rw [h2,dT h3]
     simp
    ·intro h2 h3
     refine ih.v ?_
     rw [h2,dF h3]
     simp
    ·intro h2
     simp [h2]
   ·refine .t (hb.2 h) (.cv ?_)
    rw [dF h]
    simp
  clear ih
  have hp0:i=0→preS t.f1 i = -1:=fun e=>if_pos e
  have hp1:i≠0→(nth qF.z t.f1 (w64 ((i:Int) - 1))).f0=preS t.f1 i:=fun e=>(if_neg e).symm
  have hw:i≠0→w64 ((i:Int) - 1)=((i - 1:Nat):Int):=fun e=>w64p i (by omega) (by omega)
  have hw2:w64 (t.f0 - 1)=t.f0 - 1:=qBj (by omega) (by omega)
  rw [hw2]
  generalize hv:(decide ((0≤t.f1[i].f0∧t.f1[i].f0<t.f0)∧preS t.f1 i<t.f1[i].f0∧m.f2≤(t.f1[i].f1.length:Int)∧(t.f1[i].f1.length:Int)≤m.f1)&&riseI 0 t.f1[i].f1 && !decide (∃ x ∈ t.f1.take i,x.f1=t.f1[i].f1)&&past m t.f0 t.f1[i].f0 (t.f1.take i++[t.f1[i]]) (t.f1.drop (i+1)))=v at hj ⊢
  clear hv
  generalize preS t.f1 i=p at *
  generalize (nth qF.z t.f1 (w64 ((i:Int) - 1))).f0=q at *
  generalize t.f1[i]=n at *
  repeat' (first | refine Ev.b0 (min' _ _ _) ?_ | refine Ev.i (fun _=>?_) (fun _=>?_))
  all_goals simp only [decide_eq_true_eq]at *
  all_goals first
   | exact hj _ (by simp only [decide_eq_true_eq,Bool.false_eq_true,true_iff,false_iff,Bool.not_eq_true',decide_eq_false_iff_not]; omega)
   | (exfalso; omega)
theorem pastf(m:qG)(t:qD)(hl:t.f1.length<4611686018427387904)(hs:∀ s ∈ t.f1,s.f1.length<4611686018427387904)(ht:0≤t.f0∧t.f0≤2147483647):Ev (fun k=>qAD.f k m t) (past m t.f0 (-1) [] t.f1):=by
 unfold qAD.f
 exact qHC m t hl hs ht t.f1.length 0 (by omega)
theorem qEr(m:qG)(hm:Small m)(h0:m.f0≤2147483647):∀(d i:Nat),i+d=m.f6.length→Ev (fun k=>qAR.l11 k m (i:Int)) (eno (trails m (m.f6.drop i))):=by
 have h6:=hm.h6
 intro d
 induction d with
 | zero =>
  intro i hi
  refine .s (qAR.l11_s · _ _) (.n (by omega) (.cv ?_))
  rw [List.drop_eq_nil_of_le (by omega)]
  rfl
 | succ d ih =>
  intro i hi
  have h1:i<m.f6.length:=by omega
  refine .s (qAR.l11_s · _ _) (.t (by omega) (.t (by omega) ?_))
  have ih:=ih (i+1) (by omega)
  rw [nth_get _ _ _ h1,List.drop_eq_getElem_cons h1,trails]
  refine .b0 (min' _ _ _) (.i (fun h=>?_) (fun h=>?_))
  ·have h:=oT h
   refine .b (pastf m m.f6[i] (hm.hp _ (gM h1)) (hm.hs _ (gM h1)) (by omega)) (.s (qAR.j40_s · _ _ _) ?_)
   rw [dT h,Bool.true_and,w64n i (by omega)]
   cases past m m.f6[i].f0 (-1) [] m.f6[i].f1 with
   | true=>exact .n (by decide) ih
   | false=>exact .t rfl (.c _)
  ·refine .s (qAR.j40_s · _ _ _) (.t rfl (.cv ?_))
   have h:¬ (0≤m.f6[i].f0∧m.f6[i].f0≤m.f0):=fun e=>h (dT e)
   rw [dF h]
   rfl
theorem trailsf(m:qG)(hm:Small m)(h0:m.f0≤2147483647):Ev (fun k=>qAR.f k m) (eno (decide ((m.f6.length:Int)=m.f3∧trails m m.f6=true))):=by
 unfold qAR.f
 refine .i (fun h=>(qEr m hm h0 m.f6.length 0 (by omega)).v ?_) (fun h=>.cv ?_)
 ·rw [List.drop_zero]
  congr 1
  simp [h]
 ·rw [dF (fun e=>h e.1)]
  rfl
theorem qFm(m:qG)(hm:Small m)(hf:Flat m):∀(d i:Nat),i+d=m.f5.length→Ev (fun k=>qt.l36 k m (i:Int)) (eno (temps m (preT m.f5 i) (m.f5.drop i)&&decide ((m.f6.length:Int)=m.f3∧trails m m.f6=true))):=by
 have h5:=hm.h5
 have hg:=hf.2.2.2.1
 intro d
 induction d with
 | zero =>
  intro i hi
  refine .s (qt.l36_s · _ _) (.n (by omega) (.b (trailsf m hm hf.1.2) (.cv ?_)))
  rw [List.drop_eq_nil_of_le (by omega)]
  rfl
 | succ d ih =>
  intro i hi
  have h1:i<m.f5.length:=by omega
  refine .s (qt.l36_s · _ _) (.t (by omega) (.t (by omega) ?_))
  have ih:=ih (i+1) (by omega)
  rw [qDp _ i h1 h5]at ih
  rw [nth_get _ _ _ h1,List.drop_eq_getElem_cons h1,temps]
  have hj:∀ b:Bool,(b = !(decide ((0≤m.f5[i].f0∧m.f5[i].f0<m.f3)∧preT m.f5 i<m.f5[i].f0∧1≤(m.f5[i].f1.length:Int)∧(m.f5[i].f1.length:Int)≤m.f1)&&Topo.apartR m.f4 [] m.f5[i].f1))→Ev (fun k=>qt.j85 k m (i:Int) b) (eno (((decide ((0≤m.f5[i].f0∧m.f5[i].f0<m.f3)∧preT m.f5 i<m.f5[i].f0∧1≤(m.f5[i].f1.length:Int)∧(m.f5[i].f1.length:Int)≤m.f1)&&Topo.apartR m.f4 [] m.f5[i].f1)&&temps m m.f5[i].f0 (m.f5.drop (i+1)))&&decide ((m.f6.length:Int)=m.f3∧trails m m.f6=true))):=by
   intro b hb
   refine .s (qt.j85_s · _ _ _) ?_
   rw [w64n i (by omega)]
   generalize (decide ((0≤m.f5[i].f0∧m.f5[i].f0<m.f3)∧preT m.f5 i<m.f5[i].f0∧1≤(m.f5[i].f1.length:Int)∧(m.f5[i].f1.length:Int)≤m.f1)&&Topo.apartR m.f4 [] m.f5[i].f1)=c at hb ⊢
   subst hb
   cases c with
   | true=>exact .n (by decide) ih
   | false=>exact .t rfl (.c _)
  clear ih
  have hj1:¬ ((0≤m.f5[i].f0∧m.f5[i].f0<m.f3)∧preT m.f5 i<m.f5[i].f0∧1≤(m.f5[i].f1.length:Int)∧(m.f5[i].f1.length:Int)≤m.f1)→Ev (fun k=>qt.j85 k m (i:Int) true) _:=fun h=>hj true (by rw [dF h]; rfl)
  have hj2:((0≤m.f5[i].f0∧m.f5[i].f0<m.f3)∧preT m.f5 i<m.f5[i].f0∧1≤(m.f5[i].f1.length:Int)∧(m.f5[i].f1.length:Int)≤m.f1)→Ev (fun k=>(qAC.f k m.f4 m.f5[i].f1).bind fun t75=>qt.j85 k m (i:Int) (!t75)) _:=fun h=>.b (Topo.apart m.f4 m.f5[i].f1 hm.h4 (by have:=hf.2.1; omega)) (hj _ (by rw [dT h,dT hf.2.2.2.2]))
  have hp0:i=0→preT m.f5 i = -1:=fun e=>if_pos e
  have hp1:i≠0→(nth qE.z m.f5 (w64 ((i:Int) - 1))).f0=preT m.f5 i:=fun e=>(if_neg e).symm
  have hw:i≠0→w64 ((i:Int) - 1)=((i - 1:Nat):Int):=fun e=>w64p i (by omega) (by omega)
  have hw2:w64 (m.f3 - 1)=m.f3 - 1:=qBj (by omega) (by omega)
  rw [hw2]
  clear hj
  generalize (eno (((decide ((0≤m.f5[i].f0∧m.f5[i].f0<m.f3)∧preT m.f5 i<m.f5[i].f0∧1≤(m.f5[i].f1.length:Int)∧(m.f5[i].f1.length:Int)≤m.f1)&&Topo.apartR m.f4 [] m.f5[i].f1)&&temps m m.f5[i].f0 (m.f5.drop (i+1)))&&decide ((m.f6.length:Int)=m.f3∧trails m m.f6=true)))=v at hj1 hj2 ⊢
  generalize preT m.f5 i=p at *
  generalize (nth qE.z m.f5 (w64 ((i:Int) - 1))).f0=q at *
  generalize m.f5[i]=n at *
  repeat' (first | refine Ev.b0 (min' _ _ _) ?_ | refine Ev.i (fun _=>?_) (fun _=>?_))
  all_goals simp only [decide_eq_true_eq]at *
  all_goals first
   | exact hj1 (by omega)
   | exact hj2 (by omega)
   | (exfalso; omega)
theorem check(m:qG)(hm:Small m):Ev (fun k=>qt.f k m) (eno (decide (May m))):=by
 have hj1:¬ Flat m→Ev (fun k=>qt.j26 k m true) (eno (decide (May m))):=fun h=>.s (qt.j26_s · _ _) (.t rfl (.cv (by rw [dF (fun e:May m=>h e.1)]; rfl)))
 have hj2:Flat m→Ev (fun k=>qt.j26 k m false) (eno (decide (May m))):=fun h=>.s (qt.j26_s · _ _) (.n (by decide) ((qFm m hm h m.f5.length 0 (by omega)).v (by
  rw [List.drop_zero]
  congr 1
  rw [Bool.eq_iff_iff,Bool.and_eq_true,decide_eq_true_eq,decide_eq_true_eq]
  exact ⟨fun e=>⟨h,e⟩,fun e=>e.2⟩)))
 unfold qt.f
 generalize eno (decide (May m))=v at *
 unfold Flat at hj1 hj2
 refine .b0 (min' _ _ _) (.i (fun h=>.b0 (min' _ _ _) (.i (fun h=>.b0 (min' _ _ _) (.i (fun h=>.b0 (min' _ _ _) (.i (fun h=>.b (Topo.check m.f4 hm.h4) ?_) (fun h=>?_))) (fun h=>?_))) (fun h=>?_))) (fun h=>?_))
 all_goals simp only [decide_eq_true_eq]at *
 ·by_cases hN:Topo.Nodes m.f4
  ·rw [dT hN]
   refine hj2 ⟨?_,?_,?_,?_,hN⟩ <;> omega
  ·rw [dF hN]
   exact hj1 (fun e=>hN e.2.2.2.2)
 all_goals refine hj1 (fun e=>?_)
 all_goals have:=e.1
 all_goals have:=e.2.1
 all_goals have:=e.2.2.1
 all_goals have:=e.2.2.2.1
 all_goals omega
def ahead(s:qF)(seen:List qF):Bool:=decide (∀ x ∈ seen,x.f0<s.f0∧x.f1≠s.f1)
def pastR(m:qG)(since:Int):List qF→List qF→Bool
 | _,[]=>true
 | seen,s :: l=>(decide ((0≤s.f0∧s.f0<since)∧m.f2≤(s.f1.length:Int)∧(s.f1.length:Int)≤m.f1)&&riseI 0 s.f1&&ahead s seen)&&pastR m since (seen++[s]) l
theorem qBY(m:qG)(since:Int):∀(l seen:List qF)(p:Int),(∀ x ∈ seen,x.f0≤p)→(p = -1∨∃ x ∈ seen,x.f0=p)→past m since p seen l=pastR m since seen l
 | [],_,_,_,_=>rfl
 | s :: l,seen,p,h1,h2=>by
  rw [past,pastR]
  by_cases h:(0≤s.f0∧s.f0<since)∧p<s.f0∧m.f2≤(s.f1.length:Int)∧(s.f1.length:Int)≤m.f1
  ·have h':(0≤s.f0∧s.f0<since)∧m.f2≤(s.f1.length:Int)∧(s.f1.length:Int)≤m.f1:=⟨h.1,h.2.2⟩
   have ha:(!decide (∃ x ∈ seen,x.f1=s.f1))=ahead s seen:=by
    unfold ahead
    rw [Bool.eq_iff_iff,Bool.not_eq_true',decide_eq_false_iff_not,decide_eq_true_eq]
    exact ⟨fun e x hx=>⟨Int.lt_of_le_of_lt (h1 x hx) h.2.1,fun q=>e ⟨x,hx,q⟩⟩,fun e ⟨x,hx,q⟩=>(e x hx).2 q⟩
   rw [dT h,dT h',ha,qBY m since l (seen++[s]) s.f0 ?_ (.inr ⟨s,by simp,rfl⟩)]
   ·intro x hx
    rcases List.mem_append.1 hx with hx | hx
    ·have:=h1 x hx
     omega
    ·simp only [List.mem_cons,List.not_mem_nil,or_false]at hx
     rw [hx]
     exact Int.le_refl _
  ·rw [dF h]
   simp only [Bool.false_and]
   by_cases h3:(0≤s.f0∧s.f0<since)∧m.f2≤(s.f1.length:Int)∧(s.f1.length:Int)≤m.f1
   ·have:ahead s seen=false:=by
     unfold ahead
     rw [decide_eq_false_iff_not]
     intro e
     rcases h2 with rfl | ⟨x,hx,rfl⟩
     ·exact h ⟨h3.1,by omega,h3.2⟩
     ·exact h ⟨h3.1,(e x hx).1,h3.2⟩
    rw [this]
    simp
   ·rw [dF h3]
    simp
def trailsR(m:qG):List qD→Bool
 | []=>true
 | t :: l=>(decide (0≤t.f0∧t.f0≤m.f0)&&pastR m t.f0 [] t.f1)&&trailsR m l
theorem qCs(m:qG):∀ l:List qD,trails m l=trailsR m l
 | []=>rfl
 | t :: l=>by
  rw [trails,trailsR,qCs m l,qBY m t.f0 t.f1 [] (-1) (fun _ h=>nomatch h) (.inl rfl)]
theorem qEs (m:qG) (hm:Small m) (i x:Nat) (hi:i<m.f6.length) (hx:x<m.f6[i].f1.length) (w:Bool)
  (hy:ahead m.f6[i].f1[x] (m.f6[i].f1.take x)=false→w=false)
  (hn:ahead m.f6[i].f1[x] (m.f6[i].f1.take x)=true→Ev (fun k=>qI.l40 k m (i:Int) ((x+1:Nat):Int)) w) :
  ∀(d j:Nat),j+d=x→(∀ y ∈ m.f6[i].f1.take j,y.f0<m.f6[i].f1[x].f0∧y.f1≠m.f6[i].f1[x].f1)→Ev (fun k=>qI.l113 k m (i:Int) (x:Int) (j:Int)) w:=by
 have hz:=nth_get qD.z _ _ hi
 have hz2:=nth_get qF.z _ _ hx
 have hp:=hm.hp _ (gM hi)
 have hs:=hm.hs _ (gM hi)
 intro d
 induction d with
 | zero =>
  intro j hj h
  refine .s (qI.l113_s · _ _ _ _) (.n (by omega) ?_)
  obtain rfl:j=x:=by omega
  rw [w64n j (by omega)]
  exact hn (dT h)
 | succ d ih =>
  intro j hj h
  have h1:j<m.f6[i].f1.length:=by omega
  refine .s (qI.l113_s · _ _ _ _) ?_
  rw [hz,hz2,nth_get _ _ _ h1]
  refine .t (by omega) (.t (by omega) ?_)
  have hin:m.f6[i].f1[j] ∈ m.f6[i].f1.take x:=List.mem_take_iff_getElem.2 ⟨j,by omega,rfl⟩
  refine .i (fun h2=>?_) (fun h2=>.b (ints _ _ (hs _ (gM h1))) ?_)
  ·refine .s (qI.j137_s · _ _ _ _ _) (.t rfl (.cv (hy ?_).symm))
   exact dF (fun e=>by have:=(e _ hin).1; omega)
  ·refine .s (qI.j137_s · _ _ _ _ _) (.i (fun h3=>.cv (hy ?_).symm) (fun h3=>?_))
   ·exact dF (fun e=>(e _ hin).2 (oT h3))
   ·rw [w64n j (by omega)]
    refine ih (j+1) (by omega) ?_
    intro y hy
    rw [List.take_add_one,List.getElem?_eq_getElem h1,Option.toList_some]at hy
    rcases List.mem_append.1 hy with hy | hy
    ·exact h y hy
    ·simp only [List.mem_cons,List.not_mem_nil,or_false]at hy
     rw [hy]
     exact ⟨by omega,fun e=>h3 (dT e)⟩
theorem qFn (m:qG) (hm:Small m) (i x:Nat) (hi:i<m.f6.length) (hx:x<m.f6[i].f1.length) (w:Bool)
  (hc:riseI 0 m.f6[i].f1[x].f1=true→Ev (fun k=>qI.l113 k m (i:Int) (x:Int) 0) w)
  (hr:riseI 0 m.f6[i].f1[x].f1=false→w=false):∀(d j:Nat),j+d=m.f6[i].f1[x].f1.length→(riseI 0 m.f6[i].f1[x].f1=riseI (preI m.f6[i].f1[x].f1 j) (m.f6[i].f1[x].f1.drop j))→Ev (fun k=>qI.l76 k m (i:Int) (x:Int) (j:Int)) w:=by
 have hz:=nth_get qD.z _ _ hi
 have hz2:=nth_get qF.z _ _ hx
 have hsl:=hm.hs _ (gM hi) _ (gM hx)
 generalize hs:m.f6[i].f1[x]=s at *
 intro d
 induction d with
 | zero =>
  intro j hj he
  refine .s (qI.l76_s · _ _ _ _) ?_
  rw [hz,hz2]
  rw [List.drop_eq_nil_of_le (by omega)]at he
  exact .n (by omega) (hc he)
 | succ d ih =>
  intro j hj he
  have h1:j<s.f1.length:=by omega
  refine .s (qI.l76_s · _ _ _ _) ?_
  rw [hz,hz2]
  refine .t (by omega) (.t (by omega) ?_)
  rw [List.drop_eq_getElem_cons h1]at he
  simp only [riseI]at he
  have hb:∀ b:Bool,(b=true↔¬ ((1≤s.f1[j]∧s.f1[j]≤999)∧preI s.f1 j<s.f1[j]))→Ev (fun k=>qI.j104 k m (i:Int) (x:Int) (j:Int) b) w:=by
   intro b hb
   refine .s (qI.j104_s · _ _ _ _ _) ?_
   by_cases h:(1≤s.f1[j]∧s.f1[j]≤999)∧preI s.f1 j<s.f1[j]
   ·refine .n (fun e=>(hb.1 e) h) ?_
    rw [w64n j (by omega)]
    refine ih (j+1) (by omega) ?_
    rw [he,qDq _ j h1 hsl,dT h,Bool.true_and]
   ·refine .t (hb.2 h) (.cv (hr ?_).symm)
    rw [he,dF h]
    simp
  clear he ih hr hc
  rw [nth_get _ _ _ h1]
  have hp0:j=0→preI s.f1 j=0:=fun e=>if_pos e
  have hp1:j≠0→nth 0 s.f1 (w64 ((j:Int) - 1))=preI s.f1 j:=fun e=>(if_neg e).symm
  have hw:j≠0→w64 ((j:Int) - 1)=((j - 1:Nat):Int):=fun e=>w64p j (by omega) (by omega)
  generalize preI s.f1 j=p at *
  generalize nth 0 s.f1 (w64 ((j:Int) - 1))=q at *
  generalize s.f1[j]=n at *
  clear hs hz hz2
  repeat' (first | refine Ev.i (fun _=>?_) (fun _=>?_))
  all_goals first
   | exact hb _ (by simp only [decide_eq_true_eq,Bool.false_eq_true,true_iff,false_iff]; omega)
   | (exfalso; omega)
theorem qFo (m:qG) (hm:Small m) (i:Nat) (hi:i<m.f6.length) (w:Bool→Bool)
  (hn:Ev (fun k=>qI.l7 k m ((i+1:Nat):Int)) (w true)) (hw:w false=false) :
  ∀(d j:Nat),j+d=m.f6[i].f1.length→Ev (fun k=>qI.l40 k m (i:Int) (j:Int)) (w (pastR m m.f6[i].f0 (m.f6[i].f1.take j) (m.f6[i].f1.drop j))):=by
 have hz:=nth_get qD.z _ _ hi
 have hp:=hm.hp _ (gM hi)
 have h6:=hm.h6
 intro d
 induction d with
 | zero =>
  intro j hj
  refine .s (qI.l40_s · _ _ _) ?_
  rw [hz]
  refine .n (by omega) ?_
  rw [List.drop_eq_nil_of_le (by omega),w64n i (by omega)]
  exact hn
 | succ d ih =>
  intro j hj
  have h1:j<m.f6[i].f1.length:=by omega
  refine .s (qI.l40_s · _ _ _) ?_
  rw [hz]
  refine .t (by omega) (.t (by omega) ?_)
  have ih:=ih (j+1) (by omega)
  rw [List.take_add_one,List.getElem?_eq_getElem h1,Option.toList_some]at ih
  rw [nth_get _ _ _ h1,List.drop_eq_getElem_cons h1]
  simp only [pastR]
  have hb:∀ b:Bool,(b=true↔¬ ((0≤m.f6[i].f1[j].f0∧m.f6[i].f1[j].f0<m.f6[i].f0)∧m.f2≤(m.f6[i].f1[j].f1.length:Int)∧(m.f6[i].f1[j].f1.length:Int)≤m.f1))→Ev (fun k=>qI.j66 k m (i:Int) (j:Int) b) (w ((decide ((0≤m.f6[i].f1[j].f0∧m.f6[i].f1[j].f0<m.f6[i].f0)∧m.f2≤(m.f6[i].f1[j].f1.length:Int)∧(m.f6[i].f1[j].f1.length:Int)≤m.f1)&&riseI 0 m.f6[i].f1[j].f1&&ahead m.f6[i].f1[j] (m.f6[i].f1.take j))&&pastR m m.f6[i].f0 (m.f6[i].f1.take j++[m.f6[i].f1[j]]) (m.f6[i].f1.drop (j+1)))):=by
   intro b hb
   refine .s (qI.j66_s · _ _ _ _) ?_
   by_cases h:(0≤m.f6[i].f1[j].f0∧m.f6[i].f1[j].f0<m.f6[i].f0)∧m.f2≤(m.f6[i].f1[j].f1.length:Int)∧(m.f6[i].f1[j].f1.length:Int)≤m.f1
   ·refine .n (fun e=>(hb.1 e) h) ?_
    rw [dT h,Bool.true_and]
    refine qFn m hm i j hi h1 _ ?_ ?_ m.f6[i].f1[j].f1.length 0 (by omega) (by rw [List.drop_zero]; rfl)
    ·intro h2
     refine qEs m hm i j hi h1 _ ?_ ?_ j 0 (by omega) (fun _ hy=>by rw [List.take_zero]at hy; cases hy)
     ·intro h3
      rw [h3,Bool.and_false,Bool.false_and]
      exact hw
     ·intro h3
      refine ih.v ?_
      rw [h2,h3]
      rfl
    ·intro h2
     rw [h2]
     exact hw
   ·refine .t (hb.2 h) (.cv ?_)
    rw [dF h]
    exact hw.symm
  clear ih hn
  generalize (w ((decide ((0≤m.f6[i].f1[j].f0∧m.f6[i].f1[j].f0<m.f6[i].f0)∧m.f2≤(m.f6[i].f1[j].f1.length:Int)∧(m.f6[i].f1[j].f1.length:Int)≤m.f1)&&riseI 0 m.f6[i].f1[j].f1&&ahead m.f6[i].f1[j] (m.f6[i].f1.take j))&&pastR m m.f6[i].f0 (m.f6[i].f1.take j++[m.f6[i].f1[j]]) (m.f6[i].f1.drop (j+1))))=v at hb ⊢
  generalize m.f6[i].f1[j]=n at *
  generalize m.f6[i].f0=q at *
  clear hz
  repeat' (first | refine Ev.i (fun _=>?_) (fun _=>?_))
  all_goals first
   | exact hb _ (by simp only [decide_eq_true_eq,Bool.false_eq_true,true_iff,false_iff]; omega)
   | (exfalso; omega)
theorem qGY(m:qG)(hm:Small m):∀(d i:Nat),i+d=m.f6.length→Ev (fun k=>qI.l7 k m (i:Int)) (trailsR m (m.f6.drop i)&&decide ((m.f6.length:Int)=m.f3)):=by
 have h6:=hm.h6
 intro d
 induction d with
 | zero =>
  intro i hi
  refine .s (qI.l7_s · _ _) (.n (by omega) (.cv ?_))
  rw [List.drop_eq_nil_of_le (by omega),trailsR,Bool.true_and]
  rw [Bool.eq_iff_iff,decide_eq_true_eq,beq_iff_eq]
 | succ d ih =>
  intro i hi
  have h1:i<m.f6.length:=by omega
  refine .s (qI.l7_s · _ _) (.t (by omega) (.t (by omega) ?_))
  have ih:=ih (i+1) (by omega)
  rw [nth_get _ _ _ h1,List.drop_eq_getElem_cons h1,trailsR]
  have hj:∀ b:Bool,(b=true↔¬ (0≤m.f6[i].f0∧m.f6[i].f0≤m.f0))→Ev (fun k=>qI.j31 k m (i:Int) b) (decide (0≤m.f6[i].f0∧m.f6[i].f0≤m.f0)&&pastR m m.f6[i].f0 [] m.f6[i].f1&&trailsR m (m.f6.drop (i+1))&&decide ((m.f6.length:Int)=m.f3)):=by
   intro b hb
   refine .s (qI.j31_s · _ _ _) ?_
   by_cases h:0≤m.f6[i].f0∧m.f6[i].f0≤m.f0
   ·refine .n (fun e=>(hb.1 e) h) ?_
    rw [dT h,Bool.true_and]
    have:=qFo m hm i h1 (fun b=>b&&trailsR m (m.f6.drop (i+1))&&decide ((m.f6.length:Int)=m.f3)) ih rfl m.f6[i].f1.length 0 (by omega)
    rw [List.take_zero,List.drop_zero]at this
    exact this
   ·refine .t (hb.2 h) (.cv ?_)
    rw [dF h]
    simp
  refine .i (fun h=>hj _ ?_) (fun h=>hj _ ?_)
  ·simp only [true_iff]; omega
  ·simp only [decide_eq_true_eq]; omega
theorem pasts(m:qG)(hm:Small m):Ev (fun k=>qI.f k m) (decide ((m.f6.length:Int)=m.f3∧trails m m.f6=true)):=by
 unfold qI.f
 refine (qGY m hm m.f6.length 0 (by omega)).v ?_
 rw [List.drop_zero,← qCs,Bool.eq_iff_iff,Bool.and_eq_true,decide_eq_true_eq,decide_eq_true_eq]
 exact And.comm
theorem qHD(m:qG)(hm:Small m)(hf:Flat m):∀(d i:Nat),i+d=m.f5.length→Ev (fun k=>qb.l28 k m (i:Int)) (temps m (preT m.f5 i) (m.f5.drop i)&&decide ((m.f6.length:Int)=m.f3∧trails m m.f6=true)):=by
 have h5:=hm.h5
 have hg:=hf.2.2.2.1
 intro d
 induction d with
 | zero =>
  intro i hi
  refine .s (qb.l28_s · _ _) (.n (by omega) (.b (pasts m hm) (.cv ?_)))
  rw [List.drop_eq_nil_of_le (by omega)]
  rfl
 | succ d ih =>
  intro i hi
  have h1:i<m.f5.length:=by omega
  refine .s (qb.l28_s · _ _) (.t (by omega) (.t (by omega) ?_))
  have ih:=ih (i+1) (by omega)
  rw [qDp _ i h1 h5]at ih
  rw [nth_get _ _ _ h1,List.drop_eq_getElem_cons h1,temps]
  have hj:∀ b:Bool,(b = !(decide ((0≤m.f5[i].f0∧m.f5[i].f0<m.f3)∧preT m.f5 i<m.f5[i].f0∧1≤(m.f5[i].f1.length:Int)∧(m.f5[i].f1.length:Int)≤m.f1)&&Topo.apartR m.f4 [] m.f5[i].f1))→Ev (fun k=>qb.j71 k m (i:Int) b) (((decide ((0≤m.f5[i].f0∧m.f5[i].f0<m.f3)∧preT m.f5 i<m.f5[i].f0∧1≤(m.f5[i].f1.length:Int)∧(m.f5[i].f1.length:Int)≤m.f1)&&Topo.apartR m.f4 [] m.f5[i].f1)&&temps m m.f5[i].f0 (m.f5.drop (i+1)))&&decide ((m.f6.length:Int)=m.f3∧trails m m.f6=true)):=by
   intro b hb
   refine .s (qb.j71_s · _ _ _) ?_
   rw [w64n i (by omega)]
   generalize (decide ((0≤m.f5[i].f0∧m.f5[i].f0<m.f3)∧preT m.f5 i<m.f5[i].f0∧1≤(m.f5[i].f1.length:Int)∧(m.f5[i].f1.length:Int)≤m.f1)&&Topo.apartR m.f4 [] m.f5[i].f1)=c at hb ⊢
   subst hb
   cases c with
   | true=>exact .n (by decide) ih
   | false=>exact .t rfl (.c _)
  clear ih
  have hj1:¬ ((0≤m.f5[i].f0∧m.f5[i].f0<m.f3)∧preT m.f5 i<m.f5[i].f0∧1≤(m.f5[i].f1.length:Int)∧(m.f5[i].f1.length:Int)≤m.f1)→Ev (fun k=>qb.j71 k m (i:Int) true) _:=fun h=>hj true (by rw [dF h]; rfl)
  have hj2:((0≤m.f5[i].f0∧m.f5[i].f0<m.f3)∧preT m.f5 i<m.f5[i].f0∧1≤(m.f5[i].f1.length:Int)∧(m.f5[i].f1.length:Int)≤m.f1)→Ev (fun k=>(qg.f k m.f4 m.f5[i].f1).bind fun t75=>qb.j71 k m (i:Int) (!t75)) _:=fun h=>.b (Topo.refapart m.f4 m.f5[i].f1 hm.h4 (by have:=hf.2.1; omega)) (hj _ (by rw [dT h]; rfl))
  have hp0:i=0→preT m.f5 i = -1:=fun e=>if_pos e
  have hp1:i≠0→(nth qE.z m.f5 (w64 ((i:Int) - 1))).f0=preT m.f5 i:=fun e=>(if_neg e).symm
  have hw:i≠0→w64 ((i:Int) - 1)=((i - 1:Nat):Int):=fun e=>w64p i (by omega) (by omega)
  clear hj
  generalize (((decide ((0≤m.f5[i].f0∧m.f5[i].f0<m.f3)∧preT m.f5 i<m.f5[i].f0∧1≤(m.f5[i].f1.length:Int)∧(m.f5[i].f1.length:Int)≤m.f1)&&Topo.apartR m.f4 [] m.f5[i].f1)&&temps m m.f5[i].f0 (m.f5.drop (i+1)))&&decide ((m.f6.length:Int)=m.f3∧trails m m.f6=true))=v at hj1 hj2 ⊢
  generalize preT m.f5 i=p at *
  generalize (nth qE.z m.f5 (w64 ((i:Int) - 1))).f0=q at *
  generalize m.f5[i]=n at *
  repeat' (first | refine Ev.i (fun _=>?_) (fun _=>?_))
  all_goals first
   | exact hj1 (by omega)
   | exact hj2 (by omega)
   | (exfalso; omega)
theorem may(m:qG)(hm:Small m):Ev (fun k=>qb.f k m) (decide (May m)):=by
 have hj1:¬ Flat m→Ev (fun k=>qb.j18 k m true) (decide (May m)):=fun h=>.s (qb.j18_s · _ _) (.t rfl (.cv (dF (fun e:May m=>h e.1)).symm))
 have hj2:Flat m→Ev (fun k=>qb.j18 k m false) (decide (May m)):=fun h=>.s (qb.j18_s · _ _) (.n (by decide) ((qHD m hm h m.f5.length 0 (by omega)).v (by
  rw [List.drop_zero,Bool.eq_iff_iff,Bool.and_eq_true,decide_eq_true_eq,decide_eq_true_eq]
  exact ⟨fun e=>⟨h,e⟩,fun e=>e.2⟩)))
 have hj3:(0≤m.f0∧m.f0≤2147483647)∧(1≤m.f1∧m.f1≤3)∧(1≤m.f2∧m.f2≤m.f1)∧(1≤m.f3∧m.f3≤8)→Ev (fun k=>(qh.f k m.f4).bind fun t15=>qb.j18 k m (!t15)) (decide (May m)):=by
  intro h
  refine .b (Topo.may m.f4 hm.h4) ?_
  by_cases hN:Topo.Nodes m.f4
  ·rw [dT hN]
   exact hj2 ⟨h.1,h.2.1,h.2.2.1,h.2.2.2,hN⟩
  ·rw [dF hN]
   exact hj1 (fun e=>hN e.2.2.2.2)
 unfold qb.f
 generalize decide (May m)=v at *
 have hj4:¬ ((0≤m.f0∧m.f0≤2147483647)∧(1≤m.f1∧m.f1≤3)∧(1≤m.f2∧m.f2≤m.f1)∧(1≤m.f3∧m.f3≤8))→Ev (fun k=>qb.j18 k m true) v:=fun h=>hj1 (fun e=>h ⟨e.1,e.2.1,e.2.2.1,e.2.2.2.1⟩)
 clear hj1 hj2
 repeat' (first | refine Ev.i (fun _=>?_) (fun _=>?_))
 all_goals first
  | exact hj4 (by omega)
  | exact hj3 (by omega)
def posG{α : Type}(key : α→Int)(x:Int):List α→Nat
 | []=>0
 | c :: r=>if key c<x then posG key x r+1 else 0
theorem qCY{α : Type}(key : α→Int)(x:Int):∀ l:List α,posG key x l≤l.length
 | []=>Nat.le_refl _
 | c :: r=>by
  unfold posG
  have:=qCY key x r
  rw [List.length_cons]
  split <;> omega
theorem qFp{α : Type}(key : α→Int)(x:Int):∀(l:List α)(i:Nat)(h:i<l.length),i<posG key x l→key l[i] < x
 | [],_,h,_=>nomatch h
 | c :: r,i,h,hi=>by
  unfold posG at hi
  split at hi
  ·cases i with
   | zero=>assumption
   | succ i=>exact qFp key x r i (by simpa using h) (by omega)
  ·omega
theorem qEH{α : Type}(key : α→Int)(x:Int):∀(l:List α),l.Pairwise (fun a b=>key a<key b)→∀(i:Nat)(h:i<l.length),posG key x l≤i→x≤key l[i]
 | [],_,_,h,_=>nomatch h
 | c :: r,hp,i,h,hi=>by
  obtain ⟨h1,h2⟩:=List.pairwise_cons.1 hp
  unfold posG at hi
  split at hi
  ·cases i with
   | zero=>omega
   | succ i=>exact qEH key x r h2 i (by simpa using h) (by omega)
  ·cases i with
   | zero=>rename_i hc; exact Int.not_lt.1 hc
   | succ i =>
    rename_i hc
    have hr:i<r.length:=by simpa using h
    have:=h1 _ (gM hr)
    show x≤key r[i]
    omega
theorem cmpG(a b:Int):qAU.f a b=some (if a<b then -1 else if a>b then 1 else 0):=by
 unfold qAU.f qAf.f
 simp only [beq_self_eq_true,Bool.not_true,Option.bind_some,Bool.false_eq_true,if_false]
 by_cases h:a<b
 ·rw [if_pos h,if_pos h]
 ·rw [if_neg h,if_neg h]
  by_cases h2:a>b
  ·rw [if_pos h2,if_pos h2]
  ·rw [if_neg h2,if_neg h2]
theorem midG(a b:Nat)(h:a+b<4611686018427387904):w64 ((IntKind.u64.wrap (w64 ((a:Int)+b))).fdiv 2)=((a+b) / 2:Nat):=by
 have e:w64 ((a:Int)+b)=((a+b:Nat):Int):=by rw [qBj (by omega) (by omega)]; omega
 have e2:IntKind.u64.wrap ((a+b:Nat):Int)=((a+b:Nat):Int):=by rw [IntKind.wrap_u64]; omega
 rw [e,e2,Int.fdiv_eq_ediv_of_nonneg _ (by omega),qBj (by omega) (by omega)]
 omega
def qHV{α : Type}(key : α→Int)(x:Int)(l:List α):Int × Bool:=((posG key x l:Int),match l[posG key x l]? with
 | some c=>key c == x
 | none=>false)
theorem searchG {α : Type} (z : α) (key : α→Int) (x:Int) (cmpO : α→Int→Option Int) (hcmp:∀ a,cmpO a x=some (if key a<x then -1 else if key a>x then 1 else 0)) (l:List α) (L:Nat→Int→Int→Option (Int × Bool))
  (hL:∀ k a b,L (k+1) a b=(if a<b then (if 0≤(w64 ((IntKind.u64.wrap (w64 (a+b))).fdiv 2))∧(w64 ((IntKind.u64.wrap (w64 (a+b))).fdiv 2))<(l.length:Int) then ((cmpO (nth z l (w64 ((IntKind.u64.wrap (w64 (a+b))).fdiv 2))) x).bind fun t22=>(if t22<0 then (L k (w64 ((w64 ((IntKind.u64.wrap (w64 (a+b))).fdiv 2))+1)) b) else (L k a (w64 ((IntKind.u64.wrap (w64 (a+b))).fdiv 2))))) else (none)) else (if a<(l.length:Int) then (if 0≤a∧a<(l.length:Int) then ((cmpO (nth z l a) x).bind fun t33=>(some (a,(t33 == 0)))) else (none)) else (some (a,false)))))
  (hl:l.length<1000000) (hp:l.Pairwise (fun a b=>key a<key b)):∀(d a b:Nat),b - a≤d→a≤posG key x l→posG key x l≤b→b≤l.length→Ev (fun k=>L k (a:Int) (b:Int)) (qHV key x l):=by
 intro d
 induction d with
 | zero =>
  intro a b hd h1 h2 h3
  obtain rfl:a=b:=by omega
  obtain rfl:a=posG key x l:=by omega
  unfold qHV
  refine .s (fun k=>hL k _ _) (.n (by omega) ?_)
  by_cases h4:posG key x l<l.length
  ·refine .t (by omega) (.t (by omega) ?_)
   rw [nth_get _ _ _ h4,List.getElem?_eq_getElem h4]
   refine .b0 (hcmp _) (.cv ?_)
   have:=qEH key x l hp _ h4 (Nat.le_refl _)
   by_cases h5:key l[posG key x l]=x
   ·simp [h5]
   ·rw [if_neg (by omega),if_pos (by omega)]
    simp [h5]
  ·rw [List.getElem?_eq_none (by omega)]
   exact .n (by omega) (.c _)
 | succ d ih =>
  intro a b hd h1 h2 h3
  by_cases hab:a<b
  ·refine .s (fun k=>hL k _ _) (.t (by omega) ?_)
   rw [midG a b (by omega)]
   have h4:(a+b) / 2<l.length:=by omega
   refine .t (by omega) ?_
   rw [nth_get _ _ _ h4]
   refine .b0 (hcmp _) ?_
   by_cases h5:key l[(a+b) / 2] < x
   ·rw [if_pos h5,w64n _ (by omega)]
    refine .t (by decide) (ih _ _ (by omega) ?_ h2 h3)
    rcases Nat.lt_or_ge ((a+b) / 2) (posG key x l) with c | c
    ·omega
    ·have:=qEH key x l hp _ h4 c
     omega
   ·rw [if_neg h5]
    refine .n (by split <;> decide) (ih _ _ (by omega) h1 ?_ (by omega))
    rcases Nat.lt_or_ge ((a+b) / 2) (posG key x l) with c | c
    ·exact absurd (qFp key x l _ h4 c) h5
    ·exact c
  ·exact ih a b (by omega) h1 h2 h3
theorem qCC{α : Type}(key : α→Int)(x:Int):∀(l:List α),l.Pairwise (fun a b=>key a<key b)→((∃ h:posG key x l<l.length,key l[posG key x l]=x∧(qHV key x l).2=true∧l.find? (fun c=>decide (key c=x))=some l[posG key x l])∨((qHV key x l).2=false∧l.find? (fun c=>decide (key c=x))=none))
 | [],_=>.inr ⟨rfl,rfl⟩
 | c :: r,hp=>by
  obtain ⟨h1,h2⟩:=List.pairwise_cons.1 hp
  by_cases hc:key c<x
  ·have e:posG key x (c :: r)=posG key x r+1:=by rw [posG,if_pos hc]
   have ef:(qHV key x (c :: r)).2=(qHV key x r).2:=by unfold qHV; rw [e]; rfl
   have en:(c :: r).find? (fun c=>decide (key c=x))=r.find? (fun c=>decide (key c=x)):=List.find?_cons_of_neg (by simp; omega)
   rw [ef,en]
   rcases qCC key x r h2 with ⟨h,q1,q2,q3⟩ | q
   ·refine .inl ⟨by rw [e,List.length_cons]; omega,?_⟩
    simp only [e,List.getElem_cons_succ]
    exact ⟨q1,q2,q3⟩
   ·exact .inr q
  ·have e:posG key x (c :: r)=0:=by rw [posG,if_neg hc]
   by_cases hx:key c=x
   ·refine .inl ⟨by rw [e]; simp,?_⟩
    simp only [e,List.getElem_cons_zero]
    refine ⟨hx,?_,List.find?_cons_of_pos (by simpa using hx)⟩
    unfold qHV
    rw [e]
    simpa using hx
   ·refine .inr ⟨?_,List.find?_eq_none.2 (fun y hy=>?_)⟩
    ·unfold qHV
     rw [e]
     simpa using hx
    ·rcases List.mem_cons.1 hy with rfl | hy
     ·simpa using hx
     ·have:=h1 y hy
      simp
      omega
def qHU(m:qG)(g:Int):List Int:=match m.f5.find? (fun t=>decide (t.f0=g)) with
 | some t=>t.f1
 | none=>[]
def rawL(m:qG)(g:Int):List Int:=if qHU m g=[] then Place.ofCommon m.f4 g m.f1 else qHU m g
def upN(l:List qA)(id:Int):Bool:=(Topo.find l id).1.f4
def actL(m:qG)(g:Int):List Int:=(rawL m g).filter (upN m.f4)
def rising(l:List Int):List Int:=sortL (fun a b=>decide (a<b)) l
def followT(t:qD)(was now:List Int)(least epoch:Int):qD :=
 if was=now then t else ⟨epoch,if least≤(was.length:Int) then t.f1.filter (fun s => !decide (s.f1=rising was))++[⟨t.f0,rising was⟩] else t.f1⟩
def putN(n:qA):List qA→List qA
 | []=>[n]
 | x :: r=>if x.f0<n.f0 then x :: putN n r else if x.f0=n.f0 then n :: r else n :: x :: r
def dropN(id:Int)(l:List qA):List qA:=l.filter (fun x => !decide (x.f0=id))
def pinT(g:Int)(ns:List Int):List qE→List qE
 | []=>if ns=[] then [] else [⟨g,ns⟩]
 | t :: r=>if t.f0<g then t :: pinT g ns r else (if ns=[] then [] else [(⟨g,ns⟩:qE)])++(if t.f0=g then r else t :: r)
def withN(m:qG)(l:List qA):qG:=⟨m.f0,m.f1,m.f2,m.f3,l,m.f5,m.f6⟩
def withT(m:qG)(l:List qE):qG:=⟨m.f0,m.f1,m.f2,m.f3,m.f4,l,m.f6⟩
def withP(m:qG)(l:List qD):qG:=⟨m.f0,m.f1,m.f2,m.f3,m.f4,m.f5,l⟩
def held(m:qG)(id:Int):Bool:=m.f5.any (fun t=>decide (id ∈ t.f1))||m.f6.any (fun t=>t.f1.any (fun s=>decide (id ∈ s.f1)))
def nodeL(m:qG)(n:qA)(d:qU):qG × Int :=
 if d.f0=2 then (if 0≤d.f4∧d.f4≤65536 then (if n.f3=d.f4 then (m,7) else (withN m (putN ⟨n.f0,n.f1,n.f2,d.f4,n.f4,n.f5⟩ m.f4),0)) else (m,1))
 else if d.f0=3∨d.f0=4 then (if n.f4=decide (d.f0=3) then (m,7) else (withN m (putN ⟨n.f0,n.f1,n.f2,n.f3,decide (d.f0=3),n.f5⟩ m.f4),0))
 else if d.f0=5∨d.f0=6 then (if n.f5=decide (d.f0=6) then (m,7) else (withN m (putN ⟨n.f0,n.f1,n.f2,n.f3,n.f4,decide (d.f0=6)⟩ m.f4),0))
 else if n.f4=true∨(n.f5=true∧n.f3>0)∨held m d.f1=true then (m,11) else (withN m (dropN d.f1 m.f4),0)
def addN(d:qU):qA:=⟨d.f1,d.f2,d.f3,d.f4,false,true⟩
def addL(m:qG)(d:qU):qG × Int :=
 if (Topo.find m.f4 d.f1).2=true then (m,7) else if m.f4.length=12 then (m,6) else if Topo.Nodes (putN (addN d) m.f4) then (withN m (putN (addN d) m.f4),0) else (m,1)
def pinL(m:qG)(d:qU):qG × Int :=
 if 0≤d.f5∧d.f5<m.f3∧(d.f6.length:Int)≤m.f1 then (if qHU m d.f5=d.f6 then (m,7) else if Topo.apartR m.f4 [] d.f6=true then (withT m (pinT d.f5 d.f6 m.f5),0) else (m,12)) else (m,1)
def cleanL(m:qG)(d:qU):qG × Int :=
 if 0≤d.f5∧d.f5<m.f3 then (if (nth qD.z m.f6 d.f5).f0≠d.f4 then (m,5) else if (nth qD.z m.f6 d.f5).f1=[] then (m,7) else (withP m (m.f6.set d.f5.toNat ⟨(nth qD.z m.f6 d.f5).f0,[]⟩),0)) else (m,1)
def qHR(m:qG)(d:qU):qG × Int :=
 if d.f0=1 then addL m d else if d.f0=8 then pinL m d else if d.f0=9 then (m,0) else if d.f0=10 then cleanL m d
 else match m.f4.find? (fun n=>decide (n.f0=d.f1)) with
  | some n=>nodeL m n d
  | none=>(m,5)
def bareD(d:qU):Prop :=
 if d.f0=1 then d.f5=0∧d.f6=[]
 else if d.f0=2 then d.f2=0∧d.f3=0∧d.f5=0∧d.f6=[]
 else if d.f0=10 then d.f1=0∧d.f2=0∧d.f3=0∧d.f6=[]
 else if d.f0=8 then d.f1=0∧d.f2=0∧d.f3=0∧d.f4=0
 else (d.f2=0∧d.f3=0∧d.f4=0∧d.f5=0∧d.f6=[])∧(d.f0=9→d.f1=0)
instance (d:qU):Decidable (bareD d):=by unfold bareD; infer_instance
def qHT(m x:qG):List qD:=x.f6.mapIdx (fun g t=>followT t (actL m g) (actL x g) m.f2 (m.f0+1))
def qHW(m:qG)(d:qU):qG × Int :=
 if (1≤d.f0∧d.f0≤10)∧bareD d then (if m.f0=2147483647 then (m,6) else if (qHR m d).2=0 then (⟨m.f0+1,m.f1,m.f2,m.f3,(qHR m d).1.f4,(qHR m d).1.f5,qHT m (qHR m d).1⟩,0) else (m,(qHR m d).2)) else (m,1)
theorem qFq:∀(p:Int)(l:List qA),(∀ n ∈ l,Topo.okN n)→l.Pairwise (fun x y=>x.f0<y.f0)→(∀ n ∈ l,p<n.f0)→Topo.rise p l=true
 | _,[],_,_,_=>rfl
 | p,n :: l,h1,h2,h3=>by
  obtain ⟨q1,q2⟩:=List.pairwise_cons.1 h2
  rw [Topo.rise,dT ⟨h1 n List.mem_cons_self,h3 n List.mem_cons_self⟩,Bool.true_and]
  exact qFq n.f0 l (fun m hm=>h1 m (List.mem_cons_of_mem _ hm)) q2 q1
theorem qEd{l:List qA}(h0:l.length≤12)(h1:∀ n ∈ l,Topo.okN n)(h2:l.Pairwise (fun x y=>x.f0<y.f0)):Topo.Nodes l :=
 ⟨h0,qFq 0 l h1 h2 (fun n hn=>by have:=h1 n hn; unfold Topo.okN at this; omega)⟩
theorem qEt{l:List qA}(h:Topo.Nodes l)(id:Int):Topo.Nodes (dropN id l) :=
 qEd (Nat.le_trans (List.length_filter_le _ _) h.1) (fun n hn=>h.ok n (List.mem_filter.1 hn).1) (h.up.filter _)
theorem qEI(n:qA):∀(l:List qA)(x:qA),x ∈ putN n l→x=n∨x ∈ l
 | [],x,h=>.inl (List.mem_singleton.1 h)
 | y :: r,x,h=>by
  unfold putN at h
  split at h
  ·rcases List.mem_cons.1 h with rfl | h
   ·exact .inr List.mem_cons_self
   ·rcases qEI n r x h with e | e
    ·exact .inl e
    ·exact .inr (List.mem_cons_of_mem _ e)
  ·split at h
   ·rcases List.mem_cons.1 h with rfl | h
    ·exact .inl rfl
    ·exact .inr (List.mem_cons_of_mem _ h)
   ·rcases List.mem_cons.1 h with rfl | h
    ·exact .inl rfl
    ·exact .inr h
theorem qGg(n:qA):∀(l:List qA),l.Pairwise (fun x y=>x.f0<y.f0)→(putN n l).Pairwise (fun x y=>x.f0<y.f0)
 | [],_=>List.pairwise_singleton _ _
 | y :: r,h=>by
  obtain ⟨h1,h2⟩:=List.pairwise_cons.1 h
  unfold putN
  by_cases c:y.f0<n.f0
  ·rw [if_pos c]
   refine List.pairwise_cons.2 ⟨fun x hx=>?_,qGg n r h2⟩
   rcases qEI n r x hx with rfl | hx
   ·exact c
   ·exact h1 x hx
  ·rw [if_neg c]
   by_cases c2:y.f0=n.f0
   ·rw [if_pos c2]
    exact List.pairwise_cons.2 ⟨fun x hx=>by have:=h1 x hx; omega,h2⟩
   ·rw [if_neg c2]
    refine List.pairwise_cons.2 ⟨fun x hx=>?_,h⟩
    rcases List.mem_cons.1 hx with rfl | hx
    ·omega
    ·have:=h1 x hx; omega
theorem qFr(n:qA):∀(l:List qA),(∃ x ∈ l,x.f0=n.f0)→l.Pairwise (fun x y=>x.f0<y.f0)→(putN n l).length=l.length
 | [],h,_=>by obtain ⟨_,h,_⟩:=h; cases h
 | y :: r,h,hp=>by
  obtain ⟨h1,h2⟩:=List.pairwise_cons.1 hp
  unfold putN
  by_cases c:y.f0<n.f0
  ·rw [if_pos c,List.length_cons,List.length_cons,qFr n r ?_ h2]
   obtain ⟨x,hx,e⟩:=h
   rcases List.mem_cons.1 hx with rfl | hx
   ·omega
   ·exact ⟨x,hx,e⟩
  ·rw [if_neg c]
   obtain ⟨x,hx,e⟩:=h
   rcases List.mem_cons.1 hx with rfl | hx
   ·rw [if_pos e,List.length_cons,List.length_cons]
   ·have:=h1 x hx; omega
theorem qFs{l:List qA}(h:Topo.Nodes l){n:qA}(hn:Topo.okN n)(he:∃ x ∈ l,x.f0=n.f0):Topo.Nodes (putN n l) :=
 qEd (by rw [qFr n l he h.up]; exact h.1) (fun x hx=>by
  rcases qEI n l x hx with rfl | hx
  ·exact hn
  ·exact h.ok x hx) (qGg n l h.up)
theorem qDR(n:qA)(id:Int):∀(l:List qA),l.Pairwise (fun x y=>x.f0<y.f0)→(putN n l).find? (fun x=>decide (x.f0=id))=if n.f0=id then some n else l.find? (fun x=>decide (x.f0=id))
 | [],_=>by
  unfold putN
  rw [List.find?_cons]
  by_cases c:n.f0=id
  ·simp [c]
  ·simp [c]
 | y :: r,hp=>by
  obtain ⟨h1,h2⟩:=List.pairwise_cons.1 hp
  unfold putN
  by_cases c:y.f0<n.f0
  ·rw [if_pos c,List.find?_cons,List.find?_cons,qDR n id r h2]
   by_cases d:n.f0=id
   ·have:¬ y.f0=id:=by omega
    simp [d,this]
   ·simp [d]
  ·rw [if_neg c]
   by_cases c2:y.f0=n.f0
   ·rw [if_pos c2,List.find?_cons,List.find?_cons]
    by_cases d:n.f0=id
    ·simp [d]
    ·have:¬ y.f0=id:=by omega
     simp [d,this]
   ·rw [if_neg c2,List.find?_cons]
    by_cases d:n.f0=id
    ·simp [d]
    ·simp [d]
theorem qFt(i id:Int)(l:List qA)(h:id≠i):(dropN i l).find? (fun x=>decide (x.f0=id))=l.find? (fun x=>decide (x.f0=id)):=by
 unfold dropN
 rw [List.find?_filter]
 congr 1
 funext x
 by_cases c:x.f0=id
 ·simp [c,h]
 ·simp [c]
theorem qCD{l l':List qA}: ∀(ids met:List Int),(∀ id ∈ ids,∀ n,l.find? (fun x=>decide (x.f0=id))=some n→∃ n',l'.find? (fun x=>decide (x.f0=id))=some n'∧n'.f1=n.f1)→Topo.apartR l met ids=true→Topo.apartR l' met ids=true
 | [],_,_,_=>rfl
 | id :: r,met,h,ha=>by
  rw [Topo.apartR]at ha ⊢
  cases hf:l.find? (fun x=>decide (x.f0=id)) with
  | none=>rw [hf]at ha; cases ha
  | some n =>
   rw [hf]at ha
   obtain ⟨n',e1,e2⟩:=h id List.mem_cons_self n hf
   rw [e1]
   dsimp only at ha ⊢
   rw [Bool.and_eq_true]at ha ⊢
   rw [e2]
   exact ⟨ha.1,qCD r _ (fun i hi=>h i (List.mem_cons_of_mem _ hi)) ha.2⟩
theorem qBo(m:qG):∀(l:List qE)(p:Int),temps m p l=true↔(∀ t ∈ l,((0≤t.f0∧t.f0<m.f3)∧(1≤(t.f1.length:Int)∧(t.f1.length:Int)≤m.f1))∧Topo.apartR m.f4 [] t.f1=true)∧l.Pairwise (fun x y=>x.f0<y.f0)∧∀ t ∈ l,p<t.f0
 | [],p=>⟨fun _=>⟨(fun _ h=>nomatch h),List.Pairwise.nil,(fun _ h=>nomatch h)⟩,fun _=>rfl⟩
 | t :: l,p=>by
  rw [temps,Bool.and_eq_true,Bool.and_eq_true,decide_eq_true_eq,qBo m l t.f0,List.pairwise_cons]
  constructor
  ·rintro ⟨⟨h1,h2⟩,h3,h4,h5⟩
   refine ⟨fun x hx=>?_,⟨h5,h4⟩,fun x hx=>?_⟩
   ·rcases List.mem_cons.1 hx with rfl | hx
    ·exact ⟨⟨h1.1,h1.2.2⟩,h2⟩
    ·exact h3 x hx
   ·rcases List.mem_cons.1 hx with rfl | hx
    ·exact h1.2.1
    ·have:=h5 x hx; have:=h1.2.1; omega
  ·rintro ⟨h1,⟨h2,h3⟩,h4⟩
   have h0:=h1 t List.mem_cons_self
   exact ⟨⟨⟨h0.1.1,h4 t List.mem_cons_self,h0.1.2⟩,h0.2⟩,fun x hx=>h1 x (List.mem_cons_of_mem _ hx),h3,h2⟩
theorem qDS(g:Int)(ns:List Int):∀(l:List qE)(x:qE),x ∈ pinT g ns l→(x=⟨g,ns⟩∧ns≠[])∨x ∈ l
 | [],x,h=>by
  unfold pinT at h
  split at h
  ·cases h
  ·exact .inl ⟨List.mem_singleton.1 h,by assumption⟩
 | t :: r,x,h=>by
  unfold pinT at h
  split at h
  ·rcases List.mem_cons.1 h with rfl | h
   ·exact .inr List.mem_cons_self
   ·rcases qDS g ns r x h with e | e
    ·exact .inl e
    ·exact .inr (List.mem_cons_of_mem _ e)
  ·rcases List.mem_append.1 h with h | h
   ·split at h
    ·cases h
    ·exact .inl ⟨List.mem_singleton.1 h,by assumption⟩
   ·split at h
    ·exact .inr (List.mem_cons_of_mem _ h)
    ·exact .inr h
theorem qGh(g:Int)(ns:List Int):∀(l:List qE),l.Pairwise (fun x y=>x.f0<y.f0)→(pinT g ns l).Pairwise (fun x y=>x.f0<y.f0)
 | [],_=>by
  unfold pinT
  split
  ·exact List.Pairwise.nil
  ·exact List.pairwise_singleton _ _
 | t :: r,hp=>by
  obtain ⟨h1,h2⟩:=List.pairwise_cons.1 hp
  unfold pinT
  by_cases c:t.f0<g
  ·rw [if_pos c]
   refine List.pairwise_cons.2 ⟨fun x hx=>?_,qGh g ns r h2⟩
   rcases qDS g ns r x hx with ⟨rfl,_⟩ | hx
   ·exact c
   ·exact h1 x hx
  ·rw [if_neg c]
   have hr:(if t.f0=g then r else t :: r).Pairwise (fun x y=>x.f0<y.f0):=by split <;> assumption
   have hg:∀ x ∈ (if t.f0=g then r else t :: r),g<x.f0:=by
    intro x hx
    split at hx
    ·have:=h1 x hx; omega
    ·rcases List.mem_cons.1 hx with rfl | hx
     ·omega
     ·have:=h1 x hx; omega
   split
   ·exact hr
   ·exact List.pairwise_cons.2 ⟨hg,hr⟩
theorem qBV(m:qG)(since:Int):∀(l seen:List qF)(p:Int),past m since p seen l=true↔(∀ s ∈ l,((0≤s.f0∧s.f0<since)∧m.f2≤(s.f1.length:Int)∧(s.f1.length:Int)≤m.f1)∧riseI 0 s.f1=true)∧(l.Pairwise (fun x y=>x.f0<y.f0∧x.f1≠y.f1)∧∀ s ∈ l,p<s.f0)∧∀ s ∈ l,∀ x ∈ seen,x.f1≠s.f1
 | [],seen,p=>⟨fun _=>⟨(fun _ h=>nomatch h),⟨List.Pairwise.nil,(fun _ h=>nomatch h)⟩,(fun _ h=>nomatch h)⟩,fun _=>rfl⟩
 | s :: l,seen,p=>by
  rw [past,Bool.and_eq_true,Bool.and_eq_true,Bool.and_eq_true,decide_eq_true_eq,Bool.not_eq_true',decide_eq_false_iff_not,qBV m since l (seen++[s]) s.f0,List.pairwise_cons]
  constructor
  ·rintro ⟨⟨⟨h1,h2⟩,h3⟩,h4,⟨h5,h6⟩,h7⟩
   refine ⟨fun x hx=>?_,⟨⟨fun x hx=>⟨h6 x hx,h7 x hx s (by simp)⟩,h5⟩,fun x hx=>?_⟩,fun x hx y hy=>?_⟩
   ·rcases List.mem_cons.1 hx with rfl | hx
    ·exact ⟨⟨h1.1,h1.2.2⟩,h2⟩
    ·exact h4 x hx
   ·rcases List.mem_cons.1 hx with rfl | hx
    ·exact h1.2.1
    ·have:=h6 x hx; have:=h1.2.1; omega
   ·rcases List.mem_cons.1 hx with rfl | hx
    ·exact fun e=>h3 ⟨y,hy,e⟩
    ·exact h7 x hx y (List.mem_append.2 (.inl hy))
  ·rintro ⟨h1,⟨⟨h2,h3⟩,h4⟩,h5⟩
   have h0:=h1 s List.mem_cons_self
   refine ⟨⟨⟨⟨h0.1.1,h4 s List.mem_cons_self,h0.1.2⟩,h0.2⟩,fun ⟨x,hx,e⟩=>h5 s List.mem_cons_self x hx e⟩,fun x hx=>h1 x (List.mem_cons_of_mem _ hx),⟨h3,fun x hx=>(h2 x hx).1⟩,fun x hx y hy=>?_⟩
   rcases List.mem_append.1 hy with hy | hy
   ·exact h5 x (List.mem_cons_of_mem _ hx) y hy
   ·rw [List.mem_singleton.1 hy]
    exact (h2 x hx).2
theorem qBr(m:qG):∀ l:List qD,trails m l=true↔∀ t ∈ l,(0≤t.f0∧t.f0≤m.f0)∧past m t.f0 (-1) [] t.f1=true
 | []=>⟨fun _ _ h=>(nomatch h),fun _=>rfl⟩
 | t :: l=>by
  rw [trails,Bool.and_eq_true,Bool.and_eq_true,decide_eq_true_eq,qBr m l]
  simp only [List.mem_cons,forall_eq_or_imp]
theorem qCS{m m':qG}(h1:m'.f1=m.f1)(h3:m'.f3=m.f3)(l:List qE)(p:Int)(h4:∀ t ∈ l,Topo.apartR m.f4 [] t.f1=true→Topo.apartR m'.f4 [] t.f1=true)(h:temps m p l=true):temps m' p l=true:=by
 rw [qBo]at h ⊢
 rw [h1,h3]
 exact ⟨fun t ht=>⟨(h.1 t ht).1,h4 t ht (h.1 t ht).2⟩,h.2⟩
theorem qBX{m m':qG}(h1:m'.f1=m.f1)(h2:m'.f2=m.f2)(since:Int)(l seen:List qF)(p:Int):past m' since p seen l=past m since p seen l:=by
 rw [Bool.eq_iff_iff,qBV,qBV,h1,h2]
theorem qCZ{m m':qG}(h0:m'.f0=m.f0)(h1:m'.f1=m.f1)(h2:m'.f2=m.f2)(l:List qD):trails m' l=trails m l:=by
 rw [Bool.eq_iff_iff,qBr,qBr,h0]
 simp only [qBX h1 h2]
theorem qCt{m:qG}(h:May m){l:List qA}(hl:Topo.Nodes l)(ht:∀ t ∈ m.f5,Topo.apartR m.f4 [] t.f1=true→Topo.apartR l [] t.f1=true):May (withN m l) :=
 ⟨⟨h.1.1,h.1.2.1,h.1.2.2.1,h.1.2.2.2.1,hl⟩,qCS (m:=m) (m':=withN m l) rfl rfl _ _ ht h.2.1,h.2.2.1,(qCZ (m:=m) (m':=withN m l) rfl rfl rfl _).trans h.2.2.2⟩
theorem qCT{l:List qA}{id:Int}{n:qA}(h:l.find? (fun x=>decide (x.f0=id))=some n):n ∈ l∧n.f0=id:=⟨List.mem_of_find?_eq_some h,oT (List.find?_some (p:=fun x:qA=>decide (x.f0=id)) h)⟩
theorem qEJ{m:qG}(h:May m){n n':qA}(hn:n ∈ m.f4)(h0:n'.f0=n.f0)(h1:n'.f1=n.f1)(hok:Topo.okN n'):May (withN m (putN n' m.f4)):=by
 have hN:=h.1.2.2.2.2
 refine qCt h (qFs hN hok ⟨n,hn,h0.symm⟩) (fun t _ ha=>qCD _ _ (fun id _ x hx=>?_) ha)
 rw [qDR _ _ _ hN.up]
 obtain ⟨q1,q2⟩:=qCT hx
 by_cases c:n'.f0=id
 ·rw [if_pos c]
  refine ⟨n',rfl,?_⟩
  rw [h1,Place.node_uniq hN hn q1 (by omega)]
 ·rw [if_neg c]
  exact ⟨x,hx,rfl⟩
theorem qFu{l:List qA}: ∀(ids met:List Int),Topo.apartR l met ids=true→∀ id ∈ ids,∃ n,l.find? (fun x=>decide (x.f0=id))=some n
 | [],_,_,_,h=>nomatch h
 | i :: r,met,h,id,hi=>by
  rw [Topo.apartR]at h
  cases hf:l.find? (fun x=>decide (x.f0=i)) with
  | none=>rw [hf]at h; cases h
  | some n =>
   rw [hf]at h
   dsimp only at h
   rw [Bool.and_eq_true]at h
   rcases List.mem_cons.1 hi with rfl | hi
   ·exact ⟨n,hf⟩
   ·exact qFu r _ h.2 id hi
theorem qGZ{m:qG}(h:May m){n:qA}(hn:n ∈ m.f4){d:qU}(hd:d.f1=n.f0)(he:(nodeL m n d).2=0):May (nodeL m n d).1:=by
 have hok:=h.1.2.2.2.2.ok n hn
 unfold nodeL at he ⊢
 split at he
 ·rename_i c2
  rw [if_pos c2]
  split at he
  ·rename_i cw
   rw [if_pos cw]
   split at he
   ·cases he
   ·rename_i cn
    rw [if_neg cn]
    refine qEJ h hn rfl rfl ?_
    unfold Topo.okN at hok ⊢
    exact ⟨hok.1,hok.2.1,hok.2.2.1,cw⟩
  ·cases he
 ·rename_i c2
  rw [if_neg c2]
  split at he
  ·rename_i c3
   rw [if_pos c3]
   split at he
   ·cases he
   ·rename_i cn
    rw [if_neg cn]
    exact qEJ h hn rfl rfl hok
  ·rename_i c3
   rw [if_neg c3]
   split at he
   ·rename_i c4
    rw [if_pos c4]
    split at he
    ·cases he
    ·rename_i cn
     rw [if_neg cn]
     exact qEJ h hn rfl rfl hok
   ·rename_i c4
    rw [if_neg c4]
    split at he
    ·cases he
    ·rename_i c5
     rw [if_neg c5]
     refine qCt h (qEt h.1.2.2.2.2 _) (fun t ht ha=>qCD _ _ (fun id hid x hx=>⟨x,?_,rfl⟩) ha)
     rw [qFt]
     ·exact hx
     ·rintro rfl
      refine c5 (.inr (.inr ?_))
      unfold held
      rw [Bool.or_eq_true,List.any_eq_true]
      exact .inl ⟨t,ht,dT hid⟩
theorem qHE{m:qG}(h:May m){d:qU}(he:(addL m d).2=0):May (addL m d).1:=by
 unfold addL at he ⊢
 split at he
 ·cases he
 ·rename_i c1
  rw [if_neg c1]
  split at he
  ·cases he
  ·rename_i c2
   rw [if_neg c2]
   split at he
   ·rename_i c3
    rw [if_pos c3]
    refine qCt h c3 (fun t _ ha=>qCD _ _ (fun id _ x hx=>⟨x,?_,rfl⟩) ha)
    rw [qDR _ _ _ h.1.2.2.2.2.up,if_neg]
    ·exact hx
    ·intro e
     refine c1 ?_
     unfold Topo.find
     rw [show d.f1=id from e,hx]
   ·cases he
theorem qFv{m:qG}(h:May m){l:List qE}(hl:temps m (-1) l=true):May (withT m l) :=
 ⟨h.1,qCS (m:=m) (m':=withT m l) rfl rfl _ _ (fun _ _ q=>q) hl,h.2.2.1,(qCZ (m:=m) (m':=withT m l) rfl rfl rfl _).trans h.2.2.2⟩
theorem qHF{m:qG}(h:May m){d:qU}(he:(pinL m d).2=0):May (pinL m d).1:=by
 unfold pinL at he ⊢
 split at he
 ·rename_i c1
  rw [if_pos c1]
  split at he
  ·cases he
  ·rename_i c2
   rw [if_neg c2]
   split at he
   ·rename_i c3
    rw [if_pos c3]
    have ht:=(qBo m _ _).1 h.2.1
    refine qFv h ((qBo m _ _).2 ⟨fun t hm=>?_,qGh _ _ _ ht.2.1,fun t hm=>?_⟩)
    ·rcases qDS _ _ _ _ hm with ⟨rfl,q⟩ | hm
     ·have:=List.length_pos_iff.2 q
      exact ⟨⟨⟨c1.1,c1.2.1⟩,by show 1≤(d.f6.length:Int); omega,c1.2.2⟩,c3⟩
     ·exact ht.1 t hm
    ·rcases qDS _ _ _ _ hm with ⟨rfl,q⟩ | hm
     ·show -1<d.f5
      have:=c1.1
      omega
     ·exact ht.2.2 t hm
   ·cases he
 ·cases he
theorem qFw{m:qG}(h:May m){l:List qD}(h1:l.length=m.f6.length)(h2:trails m l=true):May (withP m l) :=
 ⟨h.1,qCS (m:=m) (m':=withP m l) rfl rfl _ _ (fun _ _ q=>q) h.2.1,by show (l.length:Int)=m.f3; rw [h1]; exact h.2.2.1,(qCZ (m:=m) (m':=withP m l) rfl rfl rfl _).trans h2⟩
theorem qFx{m:qG}(h:May m){d:qU}(he:(cleanL m d).2=0):May (cleanL m d).1:=by
 unfold cleanL at he ⊢
 split at he
 ·rename_i c1
  rw [if_pos c1]
  split at he
  ·cases he
  ·rename_i c2
   rw [if_neg c2]
   split at he
   ·cases he
   ·rename_i c3
    rw [if_neg c3]
    have hlen:=h.2.2.1
    have hi:d.f5.toNat<m.f6.length:=by omega
    have ht:=(qBr m _).1 h.2.2.2
    refine qFw h (List.length_set ..) ((qBr m _).2 (fun t hm=>?_))
    rcases List.mem_or_eq_of_mem_set hm with hm | rfl
    ·exact ht t hm
    ·have:=(ht _ (gM hi)).1
     have e:nth qD.z m.f6 d.f5=m.f6[d.f5.toNat]:=by
      unfold nth
      rw [List.getD_eq_getElem?_getD,List.getElem?_eq_getElem hi]
      rfl
     rw [e]
     exact ⟨this,rfl⟩
 ·cases he
theorem qDH{m:qG}(h:May m){d:qU}(he:(qHR m d).2=0):May (qHR m d).1:=by
 unfold qHR at he ⊢
 split at he
 ·rename_i c
  rw [if_pos c]
  exact qHE h he
 ·rename_i c
  rw [if_neg c]
  split at he
  ·rename_i c
   rw [if_pos c]
   exact qHF h he
  ·rename_i c
   rw [if_neg c]
   split at he
   ·rename_i c
    rw [if_pos c]
    exact h
   ·rename_i c
    rw [if_neg c]
    split at he
    ·rename_i c
     rw [if_pos c]
     exact qFx h he
    ·rename_i c
     rw [if_neg c]
     cases hf:m.f4.find? (fun n=>decide (n.f0=d.f1)) with
     | none=>rw [hf]at he; cases he
     | some n =>
      rw [hf]at he
      exact qGZ h (qCT hf).1 (qCT hf).2.symm he
theorem qHG{m:qG}(h:May m)(g:Int):qHU m g=[]∨((qHU m g).length:Int)≤m.f1∧Topo.apartR m.f4 [] (qHU m g)=true:=by
 unfold qHU
 cases hf:m.f5.find? (fun t=>decide (t.f0=g)) with
 | none=>exact .inl rfl
 | some t =>
  have ht:=((qBo m _ _).1 h.2.1).1 t (List.mem_of_find?_eq_some hf)
  exact .inr ⟨ht.1.2.2,ht.2⟩
theorem qCL{l:List qA}: ∀(ids met:List Int),Topo.apartR l met ids=true→ids.Nodup∧∀ id ∈ ids,∃ n,l.find? (fun x=>decide (x.f0=id))=some n∧¬ n.f1 ∈ met
 | [],_,_=>⟨List.nodup_nil,(fun _ h=>nomatch h)⟩
 | i :: r,met,h=>by
  rw [Topo.apartR]at h
  cases hf:l.find? (fun x=>decide (x.f0=i)) with
  | none=>rw [hf]at h; cases h
  | some n =>
   rw [hf]at h
   dsimp only at h
   rw [Bool.and_eq_true,Bool.not_eq_true',decide_eq_false_iff_not]at h
   obtain ⟨h1,h2⟩:=qCL r _ h.2
   refine ⟨List.nodup_cons.2 ⟨fun hm=>?_,h1⟩,fun id hid=>?_⟩
   ·obtain ⟨n',e1,e2⟩:=h2 i hm
    rw [hf]at e1
    cases e1
    exact e2 (by simp)
   ·rcases List.mem_cons.1 hid with rfl | hid
    ·exact ⟨n,hf,h.1⟩
    ·obtain ⟨n',e1,e2⟩:=h2 id hid
     exact ⟨n',e1,fun c=>e2 (List.mem_append.2 (.inl c))⟩
theorem qEe{m:qG}(h:May m)(g:Int):(rawL m g).Nodup∧((rawL m g).length:Int)≤m.f1∧∀ id ∈ rawL m g,∃ n ∈ m.f4,n.f0=id:=by
 have h1:=h.1.2.1
 unfold rawL
 split
 ·unfold Place.ofCommon
  split
  ·rename_i hc
   refine ⟨?_,?_,?_⟩
   ·unfold List.Nodup
    rw [List.pairwise_map]
    refine List.Pairwise.imp_of_mem ?_ ((Place.zones_nodup hc.1 g).sublist (List.take_sublist m.f1.toNat _))
    intro a b ha hb hab e
    obtain ⟨n,hn,q1,_,q2,_⟩:=Place.zone_pk hc.1 g (List.mem_of_mem_take ha)
    obtain ⟨n',hn',q1',_,q2',_⟩:=Place.zone_pk hc.1 g (List.mem_of_mem_take hb)
    have:n=n':=Place.node_uniq hc.1 hn hn' (by omega)
    subst this
    exact hab (by omega)
   ·rw [List.length_map,List.length_take]
    omega
   ·intro id hid
    obtain ⟨z,hz,rfl⟩:=List.mem_map.1 hid
    obtain ⟨n,hn,_,_,q2,_⟩:=Place.zone_pk hc.1 g (List.mem_of_mem_take hz)
    exact ⟨n,hn,q2.symm⟩
  ·exact ⟨List.nodup_nil,by simp; omega,(fun _ h=>nomatch h)⟩
 ·rename_i c
  obtain ⟨q1,q2⟩:=(qHG h g).resolve_left c
  refine ⟨(qCL _ _ q2).1,q1,fun id hid=>?_⟩
  obtain ⟨n,e,_⟩:=(qCL _ _ q2).2 id hid
  exact ⟨n,qCT e⟩
theorem qDr{m:qG}(h:May m)(g:Int):(actL m g).Nodup∧((actL m g).length:Int)≤m.f1∧∀ id ∈ actL m g,∃ n ∈ m.f4,n.f0=id:=by
 obtain ⟨h1,h2,h3⟩:=qEe h g
 refine ⟨h1.sublist (List.filter_sublist ..),?_,fun id hid=>h3 id (List.mem_filter.1 hid).1⟩
 have:=List.length_filter_le (upN m.f4) (rawL m g)
 unfold actL
 omega
theorem qEK(l:List Int)(hn:l.Nodup)(hk:∀ x ∈ l,1≤x∧x≤999):riseI 0 (rising l)=true:=by
 have hs:(rising l).Pairwise (fun a b=>decide (b<a)=false):=qBy (ok:=fun _=>True) (lt:=fun a b:Int=>decide (a<b)) ⟨fun x _=>by simp,fun x y z _ _ _ a b=>by simp at a b ⊢; omega,fun x y z _ _ _ a b=>by simp at a b ⊢; omega⟩ l (fun _ _=>trivial)
 have hd:(rising l).Nodup:=(qBv _ l).nodup_iff.2 hn
 have hm:∀ x ∈ rising l,1≤x∧x≤999:=fun x hx=>hk x ((qCA _ l).1 hx)
 generalize rising l=r at hs hd hm
 have go:∀(r:List Int)(p:Int),r.Pairwise (fun a b=>decide (b<a)=false)→r.Nodup→(∀ x ∈ r,1≤x∧x≤999)→(∀ x ∈ r,p<x)→riseI p r=true:=by
  intro r
  induction r with
  | nil=>exact fun _ _ _ _ _=>rfl
  | cons x r ih =>
   intro p h1 h2 h3 h4
   obtain ⟨a1,a2⟩:=List.pairwise_cons.1 h1
   obtain ⟨b1,b2⟩:=List.nodup_cons.1 h2
   rw [riseI,dT ⟨h3 x List.mem_cons_self,h4 x List.mem_cons_self⟩,Bool.true_and]
   refine ih x a2 b2 (fun y hy=>h3 y (List.mem_cons_of_mem _ hy)) (fun y hy=>?_)
   have:=of_decide_eq_false (a1 y hy)
   have hne:x≠y:=fun e=>b1 (e ▸ hy)
   omega
 exact go r 0 hs hd hm (fun x hx=>by have:=hm x hx; omega)
theorem qEL{m m':qG}(h1:m'.f1=m.f1)(h2:m'.f2=m.f2)(h:May m){t:qD}(ht:(0≤t.f0∧t.f0≤m.f0)∧past m t.f0 (-1) [] t.f1=true)(g:Int)(now:List Int)(h0:m'.f0=m.f0+1):(0≤(followT t (actL m g) now m.f2 (m.f0+1)).f0∧(followT t (actL m g) now m.f2 (m.f0+1)).f0≤m'.f0)∧past m' (followT t (actL m g) now m.f2 (m.f0+1)).f0 (-1) [] (followT t (actL m g) now m.f2 (m.f0+1)).f1=true:=by
 have hm0:=h.1.1
 obtain ⟨a1,a2,a3⟩:=qDr h g
 unfold followT
 by_cases c:actL m g=now
 ·rw [if_pos c,qBX h1 h2]
  exact ⟨by omega,ht.2⟩
 ·rw [if_neg c,qBX h1 h2]
  refine ⟨by show 0≤m.f0+1∧m.f0+1≤m'.f0; omega,?_⟩
  obtain ⟨p1,⟨p2,p3⟩,p4⟩:=(qBV m _ _ _ _).1 ht.2
  have hw:∀ s ∈ t.f1,(0≤s.f0∧s.f0<m.f0+1):=fun s hs=>by have:=(p1 s hs).1.1; omega
  show past m (m.f0+1) (-1) [] (if m.f2≤((actL m g).length:Int) then t.f1.filter (fun s => !decide (s.f1=rising (actL m g)))++[⟨t.f0,rising (actL m g)⟩] else t.f1)=true
  by_cases c2:m.f2≤((actL m g).length:Int)
  ·rw [if_pos c2]
   have hrl:(rising (actL m g)).length=(actL m g).length:=qBq _ _
   refine (qBV m _ _ _ _).2 ⟨fun s hs=>?_,⟨?_,fun s hs=>?_⟩,(fun _ _ _ hx=>nomatch hx)⟩
   ·rcases List.mem_append.1 hs with hs | hs
    ·have hs:=(List.mem_filter.1 hs).1
     exact ⟨⟨hw s hs,(p1 s hs).1.2⟩,(p1 s hs).2⟩
    ·rw [List.mem_singleton.1 hs]
     refine ⟨⟨⟨ht.1.1,by show t.f0<m.f0+1; omega⟩,?_⟩,qEK _ a1 (fun x hx=>?_)⟩
     ·show m.f2≤((rising (actL m g)).length:Int)∧((rising (actL m g)).length:Int)≤m.f1
      rw [hrl]
      exact ⟨c2,a2⟩
     ·obtain ⟨n,hn,e⟩:=a3 x hx
      have:=h.1.2.2.2.2.ok n hn
      unfold Topo.okN at this
      omega
   ·refine List.pairwise_append.2 ⟨p2.filter _,List.pairwise_singleton _ _,fun x hx y hy=>?_⟩
    rw [List.mem_singleton.1 hy]
    obtain ⟨q1,q2⟩:=List.mem_filter.1 hx
    refine ⟨(p1 x q1).1.1.2,?_⟩
    simpa using q2
   ·rcases List.mem_append.1 hs with hs | hs
    ·exact p3 s (List.mem_filter.1 hs).1
    ·rw [List.mem_singleton.1 hs]
     show -1<t.f0
     omega
  ·rw [if_neg c2]
   exact (qBV m _ _ _ _).2 ⟨fun s hs=>⟨⟨hw s hs,(p1 s hs).1.2⟩,(p1 s hs).2⟩,⟨p2,p3⟩,p4⟩
theorem qCM{m:qG}{d:qU}: (qHR m d).1.f0=m.f0∧(qHR m d).1.f1=m.f1∧(qHR m d).1.f2=m.f2∧(qHR m d).1.f3=m.f3:=by
 unfold qHR addL pinL cleanL nodeL withN withT withP
 repeat' split
 all_goals exact ⟨rfl,rfl,rfl,rfl⟩
theorem qFy{m:qG}(h:May m)(d:qU):May (qHW m d).1:=by
 unfold qHW
 split
 ·split
  ·exact h
  ·rename_i c0
   split
   ·rename_i c1
    have hx:=qDH h c1
    obtain ⟨e0,e1,e2,e3⟩:=qCM (m:=m) (d:=d)
    have hm0:=h.1.1
    generalize (qHR m d).1=x at hx e0 e1 e2 e3
    refine ⟨⟨by show 0≤m.f0+1∧m.f0+1≤2147483647; omega,h.1.2.1,h.1.2.2.1,h.1.2.2.2.1,hx.1.2.2.2.2⟩,?_,?_,?_⟩
    ·exact qCS (m:=x) (m':=⟨m.f0+1,m.f1,m.f2,m.f3,x.f4,x.f5,qHT m x⟩) e1.symm e3.symm _ _ (fun _ _ q=>q) hx.2.1
    ·show ((qHT m x).length:Int)=m.f3
     unfold qHT
     rw [List.length_mapIdx]
     have:=hx.2.2.1
     omega
    ·refine (qBr _ _).2 (fun t ht=>?_)
     unfold qHT at ht
     obtain ⟨i,hi,rfl⟩:=List.mem_mapIdx.1 ht
     have hxt:=(qBr x _).1 hx.2.2.2 _ (gM hi)
     rw [e0,qBX e1 e2]at hxt
     exact qEL (m:=m) (m':=⟨m.f0+1,m.f1,m.f2,m.f3,x.f4,x.f5,qHT m x⟩) rfl rfl h hxt i _ rfl
   ·exact h
 ·exact h
theorem tfind{l:List qA}(h:Topo.Nodes l)(id:Int):Ev (fun k=>qAi.f k l id) (Topo.find l id):=by
 have hl:=h.1
 have hs:Ev (fun k=>qL.f k l id) (qHV (fun n:qA=>n.f0) id l):=by
  unfold qL.f
  exact searchG qA.z (fun n=>n.f0) id qAt.f (fun a=>by unfold qAt.f; rw [cmpG]; rfl) l _ (fun k a b=>qL.l7_s k l id a b) (by omega) h.up l.length 0 l.length (by omega) (by omega) (qCY _ _ _) (Nat.le_refl _)
 unfold qAi.f
 refine .b hs ?_
 unfold Topo.find
 rcases qCC (fun n:qA=>n.f0) id l h.up with ⟨h1,q1,q2,q3⟩ | ⟨q2,q3⟩
 ·rw [q3]
  refine .t q2 (.b (Topo.chk h) (.s (qAi.j15_s · _ _ _) (.n (by decide) (.t ?_ (.cv ?_)))))
  ·show 0≤((posG (fun n:qA=>n.f0) id l:Nat):Int)∧((posG (fun n:qA=>n.f0) id l:Nat):Int)<_
   omega
  ·have q:nth qA.z l (qHV (fun n:qA=>n.f0) id l).1=_:=nth_get qA.z l _ h1
   rw [q]
 ·rw [q3]
  exact .n (by rw [q2]; decide) (.s (qAi.j15_s · _ _ _) (.t rfl (.c _)))
theorem indexG {α : Type} (z : α) (l:List α) (p : α→Bool) (pO:Nat→α→Option Bool) (hp:∀ x ∈ l,Ev (fun k=>pO k x) (p x)) (hl:l.length<1000000) (L:Nat→Int→Option Int)
  (hL:∀ k x,L (k+1) x=(if x<(l.length:Int) then (if 0≤x∧x<(l.length:Int) then ((pO k (nth z l x)).bind fun t21=>(if t21=true then (some x) else (L k (w64 (x+1))))) else (none)) else (some (-1)))) :
  ∀(d i:Nat),i+d=l.length→(l.take i).filter (fun x => !p x)=l.take i→(l.filter (fun x => !p x)=l∧Ev (fun k=>L k (i:Int)) (-1))∨∃ n:Nat,n<l.length∧(l.take n).filter (fun x => !p x)=l.take n∧(∀ h:n<l.length,p l[n]=true)∧Ev (fun k=>L k (i:Int)) (n:Int):=by
 intro d
 induction d with
 | zero =>
  intro i hi ht
  rw [List.take_of_length_le (by omega)]at ht
  exact .inl ⟨ht,.s (fun k=>hL k _) (.n (by omega) (.c _))⟩
 | succ d ih =>
  intro i hi ht
  have h1:i<l.length:=by omega
  have hx:=hp _ (gM h1)
  have go:∀ v,(∀ w,p l[i]=w→(w=true→v=(i:Int))∧(w=false→Ev (fun k=>L k ((i+1:Nat):Int)) v))→Ev (fun k=>L k (i:Int)) v:=by
   intro v hv
   refine .s (fun k=>hL k _) (.t (by omega) (.t (by omega) ?_))
   rw [nth_get _ _ _ h1,w64n i (by omega)]
   refine .b hx (.i (fun c=>.cv ((hv _ rfl).1 c).symm) (fun c=>(hv _ rfl).2 (eq_false_of_ne_true c)))
  by_cases h0:p l[i]=true
  ·exact .inr ⟨i,h1,ht,fun _=>h0,go _ (fun w hw=>⟨fun _=>rfl,fun e=>absurd (hw.trans e) (by rw [h0]; decide)⟩)⟩
  ·have ht':(l.take (i+1)).filter (fun x => !p x)=l.take (i+1):=by
    rw [← List.take_append_getElem h1,List.filter_append,ht]
    simp [h0]
   rcases ih (i+1) (by omega) ht' with ⟨a,b⟩ | ⟨n,a,b,c,e⟩
   ·exact .inl ⟨a,go _ (fun w hw=>⟨fun q=>absurd (hw.trans q) h0,fun _=>b⟩)⟩
   ·exact .inr ⟨n,a,b,c,go _ (fun w hw=>⟨fun q=>absurd (hw.trans q) h0,fun _=>e⟩)⟩
theorem deleteG {α : Type} (z : α) (l:List α) (p : α→Bool) (pO:Nat→α→Option Bool) (hp:∀ x ∈ l,Ev (fun k=>pO k x) (p x)) (hl:l.length<1000000) (L:Nat→List α→Int→Int→Option (List α))
  (hL:∀ k q n x,L (k+1) q n x=(if x<(l.length:Int) then (if 0≤x∧x<(l.length:Int) then ((pO k (nth z q x)).bind fun t33=>(if t33=true then (L k q n (w64 (x+1))) else (if 0≤n∧n<(l.length:Int) then (L k (q.set (n).toNat (nth z q x)) (w64 (n+1)) (w64 (x+1))) else (none)))) else (none)) else (if 0≤n∧n≤(l.length:Int) then (some (cutl (q.take (n).toNat++List.replicate (l.length - (n).toNat) z) 0 n)) else (none)))) :
  ∀(d i n:Nat)(q:List α),i+d=l.length→n<i→q.length=l.length→q.take n=(l.take i).filter (fun x => !p x)→q.drop i=l.drop i→Ev (fun k=>L k q (n:Int) (i:Int)) (l.filter (fun x => !p x)):=by
 intro d
 induction d with
 | zero =>
  intro i n q hi hn hq ht hd
  refine .s (fun k=>hL k _ _ _) (.n (by omega) (.t (by omega) (.cv ?_)))
  rw [List.take_of_length_le (by omega:l.length≤i)]at ht
  rw [← ht]
  have hlen:(q.take n).length=n:=by rw [List.length_take]; omega
  simp only [cutl,tN,Int.toNat_zero,List.drop_zero]
  rw [List.take_append_of_le_length (by omega),List.take_of_length_le (by omega)]
 | succ d ih =>
  intro i n q hi hn hq ht hd
  have h1:i<l.length:=by omega
  have h2:i<q.length:=by omega
  have hx:=hp _ (gM h1)
  have hd2:q[i]=l[i]∧q.drop (i+1)=l.drop (i+1):=by
   rw [List.drop_eq_getElem_cons h1,List.drop_eq_getElem_cons h2]at hd
   exact ⟨(List.cons.inj hd).1,(List.cons.inj hd).2⟩
  refine .s (fun k=>hL k _ _ _) (.t (by omega) (.t (by omega) ?_))
  rw [nth_get _ _ _ h2,hd2.1,w64n i (by omega),w64n n (by omega)]
  refine .b hx (.i (fun c=>ih (i+1) n q (by omega) (by omega) hq ?_ hd2.2) (fun c=>.t (by omega) (ih (i+1) (n+1) _ (by omega) (by omega) (by rw [List.length_set]; exact hq) ?_ ?_)))
  ·rw [← List.take_append_getElem h1,List.filter_append,ht]
   simp [c]
  ·rw [← List.take_append_getElem h1,List.filter_append,← ht,tN,List.take_add_one,List.take_set_of_le (by omega),List.getElem?_set_self (by omega)]
   simp [c]
  ·rw [tN,List.drop_set_of_lt (by omega)]
   exact hd2.2
theorem up{m:qG}(h:Topo.Nodes m.f4)(l:List Int)(hl:l.length<1000000):Ev (fun k=>qBO.f k m l) (l.filter (upN m.f4)):=by
 have hp:∀ x ∈ l,Ev (fun k=>qAz.f k x m) (!upN m.f4 x):=by
  intro x _
  unfold qAz.f
  exact .b (tfind h x) (.c _)
 have e:l.filter (upN m.f4)=l.filter (fun x => !(!upN m.f4 x)):=by
  congr 1
  funext x
  rw [Bool.not_not]
 unfold qBO.f qd.f qe.f
 rw [e]
 refine .b ?_ (.c _)
 rcases indexG 0 l (fun x => !upN m.f4 x) (fun k x=>qAz.f k x m) hp hl (fun k x=>qe.l5 k l m x) (fun k x=>qe.l5_s k l m x) l.length 0 (by omega) rfl with ⟨a,b⟩ | ⟨n,a,b,c,e⟩
 ·exact .b b (.t rfl (.cv a.symm))
 ·refine .b e (.n (by omega) ?_)
  rw [w64n n (by omega)]
  refine deleteG 0 l (fun x => !upN m.f4 x) (fun k x=>qAz.f k x m) hp hl (fun k q n x=>qd.l15 k l m q n x) (fun k q n x=>qd.l15_s k l m q n x) (l.length - (n+1)) (n+1) n l (by omega) (by omega) rfl ?_ rfl
  rw [← List.take_append_getElem a,List.filter_append,b]
  have ca:upN m.f4 l[n]=false:=by
   have:=c a
   revert this
   cases upN m.f4 l[n] <;> decide
  simp [ca]
theorem qCU{m:qG}(h:May m):m.f5.length≤8:=by
 have ht:=(qBo m _ _).1 h.2.1
 have h3:=h.1.2.2.2.1
 have go:∀(l:List qE)(p:Int),l.Pairwise (fun x y=>x.f0<y.f0)→(∀ t ∈ l,p<t.f0∧t.f0<m.f3)→p<m.f3→(l.length:Int)≤m.f3 - 1 - p:=by
  intro l
  induction l with
  | nil=>intro p _ _ hp; simp; omega
  | cons x r ih =>
   intro p hp hb _
   obtain ⟨h1,h2⟩:=List.pairwise_cons.1 hp
   have hx:=hb x List.mem_cons_self
   have:=ih x.f0 h2 (fun t htm=>⟨h1 t htm,(hb t (List.mem_cons_of_mem _ htm)).2⟩) hx.2
   rw [List.length_cons]
   omega
 have:=go m.f5 (-1) ht.2.1 (fun t hm=>⟨ht.2.2 t hm,(ht.1 t hm).1.1.2⟩) (by omega)
 omega
theorem temp{m:qG}(h:May m)(g:Int):Ev (fun k=>qBG.f k m g) (qHV (fun t:qE=>t.f0) g m.f5):=by
 have ht:=(qBo m _ _).1 h.2.1
 have hl:=qCU h
 unfold qBG.f qM.f
 exact .b (searchG qE.z (fun n=>n.f0) g qAr.f (fun a=>by unfold qAr.f; rw [cmpG]; rfl) m.f5 _ (fun k a b=>qM.l7_s k m.f5 g a b) (by omega) ht.2.1 m.f5.length 0 m.f5.length (by omega) (by omega) (qCY _ _ _) (Nat.le_refl _)) (.c _)
theorem clone(l:List Int)(hl:l.length≤1000000):qAE.f l=some l:=by
 unfold qAE.f
 rw [if_pos]
 ·rfl
 ·simp only [List.length_nil]
  omega
theorem raw{m:qG}(h:May m)(g:Int):Ev (fun k=>qBL.f k m g) (rawL m g):=by
 have ht:=(qBo m _ _).1 h.2.1
 have h1:=h.1.2.1
 unfold qBL.f
 refine .b (temp h g) ?_
 unfold rawL qHU
 rcases qCC (fun n:qE=>n.f0) g m.f5 ht.2.1 with ⟨hp,q1,q2,q3⟩ | ⟨q2,q3⟩
 ·rw [q3]
  have hm:=ht.1 _ (gM hp)
  refine .t q2 (.t ?_ ?_)
  ·show 0≤((posG (fun n:qE=>n.f0) g m.f5:Nat):Int)∧((posG (fun n:qE=>n.f0) g m.f5:Nat):Int)<_
   omega
  ·show Ev (fun k=>(qAE.f ((nth qE.z m.f5 ((posG (fun n:qE=>n.f0) g m.f5:Nat):Int)).f1)).bind fun t21=>some t21) _
   rw [nth_get _ _ _ hp]
   refine .b0 (clone _ (by omega)) (.cv ?_)
   rw [if_neg]
   intro e
   rw [show m.f5[posG (fun n:qE=>n.f0) g m.f5].f1=[] from e]at hm
   have:=hm.1.2.1
   simp at this
 ·rw [q3,if_pos rfl]
  exact .n (by rw [q2]; decide) (.b (Place.of_ m.f4 g m.f1) (.c _))
def rawM(m:qG)(g:Int):List Int:=if May m∧0≤g∧g<m.f3 then rawL m g else []
def actM(m:qG)(g:Int):List Int:=if May m∧0≤g∧g<m.f3 then actL m g else []
theorem mRaw(m:qG)(hm:Small m)(g:Int):Ev (fun k=>qAl.f k m g) (rawM m g):=by
 unfold qAl.f rawM
 refine .b (check m hm) ?_
 by_cases h:May m
 ·have h3:=h.1.2.2.2.1
  rw [dT h]
  refine .t rfl (.b0 (min' g 0 (w64 (m.f3 - 1))) (.s (qAl.j14_s · _ _ _) ?_))
  rw [qBj (n:=m.f3 - 1) (by omega) (by omega)]
  by_cases c:0≤g∧g<m.f3
  ·rw [dT (by omega),if_pos ⟨h,c⟩]
   exact .n (by decide) (.b (raw h g) (.c _))
  ·rw [dF (by omega),if_neg (fun e=>c e.2)]
   exact .t rfl (.c _)
 ·rw [dF h,if_neg (fun e=>h e.1)]
  exact .n (by decide) (.s (qAl.j14_s · _ _ _) (.t rfl (.c _)))
theorem mActing(m:qG)(hm:Small m)(g:Int):Ev (fun k=>qAe.f k m g) (actM m g):=by
 unfold qAe.f
 refine .b (mRaw m hm g) ?_
 unfold rawM actM
 by_cases h:May m∧0≤g∧g<m.f3
 ·rw [if_pos h,if_pos h]
  have h2:=(qEe h.1 g).2.1
  have h1:=h.1.1.2.1
  exact .b (up h.1.1.2.2.2.2 _ (by omega)) (.c _)
 ·rw [if_neg h,if_neg h]
  have:Ev (fun k=>qBO.f k m []) ([]:List Int):=by
   unfold qBO.f qd.f qe.f
   exact .b (.b (.s (qe.l5_s · _ _ _) (.n (by decide) (.c _))) (.t rfl (.c _))) (.c _)
  exact .b this (.c _)
structure Lit8 (m:qG):Prop where
 h4:m.f4.length≤30
 h5:m.f5.length≤20
 h6:m.f6.length≤20
 ht:∀ t ∈ m.f5,t.f1.length≤20
 hp:∀ t ∈ m.f6,t.f1.length≤20
 hs:∀ t ∈ m.f6,∀ s ∈ t.f1,s.f1.length≤20
theorem Lit8.small{m:qG}(h:Lit8 m):Small m:=by
 have h4:=h.h4
 have h5:=h.h5
 have h6:=h.h6
 exact ⟨by omega,by omega,by omega,fun t ht=>by have:=h.hp t ht; omega,fun t ht s hs=>by have:=h.hs t ht s hs; omega⟩
theorem light(m:qG):Ht (fun k=>qS.f k m) (fun b=>b=true→Lit8 m):=by
 have h65:∀(i:Nat)(hi:i<m.f6.length),m.f6[i].f1.length≤20→(∀ t ∈ m.f6.take i,t.f1.length≤20∧∀ s ∈ t.f1,s.f1.length≤20)→(∀ t ∈ m.f5.take 20,t.f1.length≤20) →
   ((∀ t ∈ m.f6.take (i+1),t.f1.length≤20∧∀ s ∈ t.f1,s.f1.length≤20)→Ht (fun k=>qS.l36 k m ((i+1:Nat):Int)) (fun b=>b=true→Lit8 m))→i<20 →
   ∀(d j:Nat),j+d=m.f6[i].f1.length→(∀ s ∈ m.f6[i].f1.take j,s.f1.length≤20)→Ht (fun k=>qS.l65 k m (i:Int) (j:Int)) (fun b=>b=true→Lit8 m):=by
  intro i hi h20 hp ht hk hi20 d
  induction d with
  | zero =>
   intro j hj hs
   refine .s (qS.l65_s · _ _ _) ?_
   rw [nth_get _ _ _ hi,w64n i (by omega)]
   refine .n (by omega) (hk (fun t hm=>?_))
   rw [← List.take_append_getElem hi]at hm
   rcases List.mem_append.1 hm with hm | hm
   ·exact hp t hm
   ·rw [List.mem_singleton.1 hm]
    exact ⟨h20,fun s hsm=>hs s (by rw [List.take_of_length_le (by omega)]; exact hsm)⟩
  | succ d ih =>
   intro j hj hs
   have h1:j<m.f6[i].f1.length:=by omega
   refine .s (qS.l65_s · _ _ _) ?_
   rw [nth_get _ _ _ hi]
   refine .t (by omega) (.t (by omega) ?_)
   rw [nth_get _ _ _ h1,w64n j (by omega)]
   refine .i (fun _=>.c (fun e=>nomatch e)) (fun c=>ih (j+1) (by omega) (fun s hsm=>?_))
   rw [← List.take_append_getElem h1]at hsm
   rcases List.mem_append.1 hsm with hsm | hsm
   ·exact hs s hsm
   ·rw [List.mem_singleton.1 hsm]
    omega
 have h36:∀(d i:Nat),i+d=min 20 m.f6.length→(∀ t ∈ m.f6.take i,t.f1.length≤20∧∀ s ∈ t.f1,s.f1.length≤20)→(∀ t ∈ m.f5.take 20,t.f1.length≤20)→Ht (fun k=>qS.l36 k m (i:Int)) (fun b=>b=true→Lit8 m):=by
  intro d
  induction d with
  | zero =>
   intro i hi hp ht
   have fin:Ht (fun k=>qS.j44 k m (i:Int) false) (fun b=>b=true→Lit8 m):=by
    refine .s (qS.j44_s · _ _ _) (.n (by decide) (.i (fun c4=>.i (fun c5=>.c (fun e=>?_)) (fun _=>.c (fun e=>nomatch e))) (fun _=>.c (fun e=>nomatch e))))
    have c6:=oT e
    rw [List.take_of_length_le (by omega)]at hp
    rw [List.take_of_length_le (by omega)]at ht
    exact ⟨by omega,by omega,by omega,ht,fun t hm=>(hp t hm).1,fun t hm=>(hp t hm).2⟩
   refine .s (qS.l36_s · _ _) (.i (fun c=>?_) (fun _=>fin))
   rw [dF (by omega)]
   exact fin
  | succ d ih =>
   intro i hi hp ht
   have h1:i<m.f6.length:=by omega
   refine .s (qS.l36_s · _ _) (.t (by omega) ?_)
   rw [dT (by omega)]
   refine .s (qS.j44_s · _ _ _) (.t rfl (.t (by omega) ?_))
   rw [nth_get _ _ _ h1]
   exact .i (fun _=>.c (fun e=>nomatch e)) (fun c=>h65 i h1 (by omega) hp ht (fun q=>ih (i+1) (by omega) q ht) (by omega) m.f6[i].f1.length 0 (by omega) (fun _ h=>nomatch h))
 have h7:∀(d i:Nat),i+d=min 20 m.f5.length→(∀ t ∈ m.f5.take i,t.f1.length≤20)→Ht (fun k=>qS.l7 k m (i:Int)) (fun b=>b=true→Lit8 m):=by
  intro d
  induction d with
  | zero =>
   intro i hi ht
   have fin:Ht (fun k=>qS.j15 k m (i:Int) false) (fun b=>b=true→Lit8 m):=by
    refine .s (qS.j15_s · _ _ _) (.n (by decide) (h36 (min 20 m.f6.length) 0 (by omega) (fun _ h=>nomatch h) ?_))
    by_cases c:m.f5.length≤20
    ·rw [List.take_of_length_le (by omega)]at ht ⊢
     exact ht
    ·rwa [show i=20 by omega]at ht
   refine .s (qS.l7_s · _ _) (.i (fun c=>?_) (fun _=>fin))
   rw [dF (by omega)]
   exact fin
  | succ d ih =>
   intro i hi ht
   have h1:i<m.f5.length:=by omega
   refine .s (qS.l7_s · _ _) (.t (by omega) ?_)
   rw [dT (by omega)]
   refine .s (qS.j15_s · _ _ _) (.t rfl (.t (by omega) ?_))
   rw [nth_get _ _ _ h1,w64n i (by omega)]
   refine .i (fun _=>.c (fun e=>nomatch e)) (fun c=>ih (i+1) (by omega) (fun t hm=>?_))
   rw [← List.take_append_getElem h1]at hm
   rcases List.mem_append.1 hm with hm | hm
   ·exact ht t hm
   ·rw [List.mem_singleton.1 hm]
    omega
 exact h7 (min 20 m.f5.length) 0 (by omega) (fun _ h=>nomatch h)
theorem anyG {α : Type} (z : α) (l:List α) (p : α→Bool) (pO:Nat→α→Option Bool) (hp:∀ x ∈ l,Ev (fun k=>pO k x) (p x)) (hl:l.length<1000000) (L:Nat→Int→Option Int)
  (hL:∀ k x,L (k+1) x=(if x<(l.length:Int) then (if 0≤x∧x<(l.length:Int) then ((pO k (nth z l x)).bind fun t21=>(if t21=true then (some x) else (L k (w64 (x+1))))) else (none)) else (some (-1)))) :
  ∀(d i:Nat),i+d=l.length→∃ x,Ev (fun k=>L k (i:Int)) x∧decide (x≥0)=(l.drop i).any p:=by
 intro d
 induction d with
 | zero =>
  intro i hi
  refine ⟨-1,.s (fun k=>hL k _) (.n (by omega) (.c _)),?_⟩
  rw [List.drop_eq_nil_of_le (by omega)]
  rfl
 | succ d ih =>
  intro i hi
  have h1:i<l.length:=by omega
  have hx:=hp _ (gM h1)
  obtain ⟨x,he,hm⟩:=ih (i+1) (by omega)
  rw [List.drop_eq_getElem_cons h1,List.any_cons]
  cases h:p l[i] with
  | true =>
   rw [h]at hx
   refine ⟨i,.s (fun k=>hL k _) (.t (by omega) (.t (by omega) ?_)),?_⟩
   ·rw [nth_get _ _ _ h1]
    exact .b hx (.t rfl (.c _))
   ·rw [Bool.true_or]
    exact dT (by omega)
  | false =>
   rw [h]at hx
   refine ⟨x,.s (fun k=>hL k _) (.t (by omega) (.t (by omega) ?_)),?_⟩
   ·rw [nth_get _ _ _ h1,w64n i (by omega)]
    exact .b hx (.n Bool.false_ne_true he)
   ·rw [Bool.false_or]
    exact hm
theorem cloneN(l:List qA)(hl:l.length≤1000000):qAK.f l=some l:=by
 unfold qAK.f
 rw [if_pos (by simp only [List.length_nil]; omega)]
 rfl
theorem cloneT(l:List qE)(hl:l.length≤1000000):qAL.f l=some l:=by
 unfold qAL.f
 rw [if_pos (by simp only [List.length_nil]; omega)]
 rfl
theorem cloneP(l:List qD)(hl:l.length≤1000000):qy.f l=some l:=by
 unfold qy.f
 rw [if_pos (by simp only [List.length_nil]; omega)]
 rfl
theorem cloneS(l:List qF)(hl:l.length≤1000000):qAM.f l=some l:=by
 unfold qAM.f
 rw [if_pos (by simp only [List.length_nil]; omega)]
 rfl
theorem spansId(l:List qF)(hl:l.length≤1000000)(hs:∀ s ∈ l,s.f1.length≤1000000):Ev (fun k=>qAY.f k l) l:=by
 have go:∀(d i:Nat),i+d=l.length→Ev (fun k=>qAY.l16 k l l (i:Int)) l:=by
  intro d
  induction d with
  | zero=>exact fun i hi=>.s (qAY.l16_s · _ _ _) (.n (by omega) (.c _))
  | succ d ih =>
   intro i hi
   have h1:i<l.length:=by omega
   refine .s (qAY.l16_s · _ _ _) (.t (by omega) (.t (by omega) ?_))
   rw [nth_get _ _ _ h1,w64n i (by omega)]
   refine .b0 (clone _ (hs _ (gM h1))) ?_
   have e:l.set (i:Int).toNat (⟨l[i].f0,l[i].f1⟩:qF)=l:=by
    rw [tN]
    exact List.set_getElem_self h1
   rw [e]
   exact ih (i+1) (by omega)
 unfold qAY.f
 exact .b0 (cloneS l hl) (go l.length 0 (Nat.zero_add _))
def Pasts(b:Nat)(m:qG):Prop:=∀ t ∈ m.f6,t.f1.length≤b
theorem qCa{m:qG}(h:May m):m.f6.length≤8:=by
 have h3:=h.1.2.2.2.1
 have:=h.2.2.1
 omega
theorem qDT{m:qG}(h:May m):∀ t ∈ m.f5,t.f1.length≤3:=fun t ht=>by
 have:=((qBo m _ _).1 h.2.1).1 t ht
 have:=h.1.2.1
 omega
theorem qCV{m:qG}(h:May m):∀ t ∈ m.f6,∀ s ∈ t.f1,s.f1.length≤3:=fun t ht s hs=>by
 have:=((qBV m t.f0 t.f1 [] (-1)).1 ((qBr m m.f6).1 h.2.2.2 t ht).2).1 s hs
 have:=h.1.2.1
 omega
structure Sized (m:qG):Prop where
 h4:m.f4.length<1000000
 h5:m.f5.length<1000000
 h6:m.f6.length<1000000
 ht:∀ t ∈ m.f5,t.f1.length<1000000
 hp:∀ t ∈ m.f6,t.f1.length<1000000
 hs:∀ t ∈ m.f6,∀ s ∈ t.f1,s.f1.length<1000000
theorem May.sized{m:qG}(h:May m){b:Nat}(hb:b≤100000)(hP:Pasts b m):Sized m:=by
 have h4:m.f4.length≤12:=h.1.2.2.2.2.1
 have h5:=qCU h
 have h6:=qCa h
 exact ⟨by omega,by omega,by omega,fun t ht=>by have:=qDT h t ht; omega,fun t ht=>by have:=hP t ht; omega,fun t ht s hs=>by have:=qCV h t ht s hs; omega⟩
theorem Sized.small{m:qG}(h:Sized m):Small m:=⟨by have:=h.h4; omega,by have:=h.h5; omega,by have:=h.h6; omega,fun t ht=>by have:=h.hp t ht; omega,fun t ht s hs=>by have:=h.hs t ht s hs; omega⟩
theorem own{m:qG}(hz:Sized m):Ev (fun k=>qAV.f k m) m:=by
 have h4:=hz.h4
 have h5:=hz.h5
 have h6:=hz.h6
 have l91:∀(d i:Nat),i+d=m.f6.length→Ev (fun k=>qAV.l91 k m m.f4 m.f5 m.f6 m.f6 (i:Int)) m:=by
  intro d
  induction d with
  | zero=>exact fun i hi=>.s (qAV.l91_s · _ _ _ _ _ _) (.n (by omega) (.c _))
  | succ d ih =>
   intro i hi
   have h1:i<m.f6.length:=by omega
   have hmem:=gM h1
   refine .s (qAV.l91_s · _ _ _ _ _ _) (.t (by omega) (.t (by omega) ?_))
   rw [nth_get _ _ _ h1,w64n i (by omega)]
   refine .b (spansId _ (Nat.le_of_lt (hz.hp _ hmem)) (fun s hs=>Nat.le_of_lt (hz.hs _ hmem s hs))) ?_
   have e:m.f6.set (i:Int).toNat (⟨m.f6[i].f0,m.f6[i].f1⟩:qD)=m.f6:=by
    rw [tN]
    exact List.set_getElem_self h1
   rw [e]
   exact ih (i+1) (by omega)
 have l30:∀(d i:Nat),i+d=m.f5.length→Ev (fun k=>qAV.l30 k m m.f4 m.f5 m.f5 (i:Int)) m:=by
  intro d
  induction d with
  | zero=>exact fun i hi=>.s (qAV.l30_s · _ _ _ _ _) (.n (by omega) (.b0 (cloneP _ (by omega)) (l91 m.f6.length 0 (Nat.zero_add _))))
  | succ d ih =>
   intro i hi
   have h1:i<m.f5.length:=by omega
   refine .s (qAV.l30_s · _ _ _ _ _) (.t (by omega) (.t (by omega) ?_))
   rw [nth_get _ _ _ h1,w64n i (by omega)]
   refine .b0 (clone _ (Nat.le_of_lt (hz.ht _ (gM h1)))) ?_
   have e:m.f5.set (i:Int).toNat (⟨m.f5[i].f0,m.f5[i].f1⟩:qE)=m.f5:=by
    rw [tN]
    exact List.set_getElem_self h1
   rw [e]
   exact ih (i+1) (by omega)
 unfold qAV.f
 exact .b0 (cloneN _ (by omega)) (.b0 (cloneT _ (by omega)) (l30 m.f5.length 0 (Nat.zero_add _)))
theorem qHH{α : Type}(z : α)(a b:List α)(i:Nat)(ha:i≤a.length)(hb:i<b.length):nth z (a.take i++b.drop i) (i:Int)=b[i]:=by
 have hl:(a.take i).length=i:=by rw [List.length_take]; omega
 have h1:i<(a.take i++b.drop i).length:=by rw [lA,List.length_drop,hl]; omega
 rw [nth_get _ _ _ h1,List.getElem_append_right (by omega),List.getElem_drop]
 congr 1
 omega
theorem qGa{α : Type}(a b:List α)(i:Nat)(ha:i<a.length)(hb:i<b.length)(h:a[i]=b[i]):a.take i++b.drop i=a.take (i+1)++b.drop (i+1):=by
 rw [List.drop_eq_getElem_cons hb,← List.take_append_getElem ha,List.append_assoc,h]
 rfl
theorem qHI{α : Type}(a b:List α)(i:Nat)(ha:i<a.length)(hb:i<b.length):(a.take i++b.drop i).set (i:Int).toNat a[i]=a.take (i+1)++b.drop (i+1):=by
 have hl:(a.take i).length=i:=by rw [List.length_take]; omega
 rw [tN,List.set_append,if_neg (by omega),hl,Nat.sub_self,List.drop_eq_getElem_cons hb,List.set_cons_zero,← List.take_append_getElem ha,List.append_assoc]
 rfl
theorem qHJ(l:List Int)(hl:l.length≤1000000):qp.f l=some (rising l):=by
 unfold qp.f qu.f qAd.f sortI
 rw [if_pos hl,Option.bind_some,if_pos hl]
 rfl
theorem delSpan(l:List qF)(s:qF)(hl:l.length<1000000)(hs:∀ x ∈ l,x.f1.length<1000000):Ev (fun k=>qP.f k l s) (l.filter (fun y => !decide (y.f1=s.f1))):=by
 have hp:∀ x ∈ l,Ev (fun k=>qAc.f k x s) (decide (x.f1=s.f1)):=by
  intro x hx
  unfold qAc.f
  exact .b (equal _ _ (by have:=hs x hx; omega)) (.c _)
 unfold qP.f qX.f
 rcases indexG qF.z l (fun x=>decide (x.f1=s.f1)) (fun k x=>qAc.f k x s) hp hl (fun k x=>qX.l5 k l s x) (fun k x=>qX.l5_s k l s x) l.length 0 (by omega) rfl with ⟨a,b⟩ | ⟨n,a,b,c,e⟩
 ·exact .b b (.t rfl (.cv a.symm))
 ·refine .b e (.n (by omega) ?_)
  rw [w64n n (by omega)]
  refine deleteG qF.z l (fun x=>decide (x.f1=s.f1)) (fun k x=>qAc.f k x s) hp hl (fun k q n x=>qP.l15 k l s q n x) (fun k q n x=>qP.l15_s k l s q n x) (l.length - (n+1)) (n+1) n l (by omega) (by omega) rfl ?_ rfl
  rw [← List.take_append_getElem a,List.filter_append,b]
  have ca:(decide (l[n].f1=s.f1))=true:=c a
  simp [ca]
theorem followed{m x:qG}(h:May m)(hx:May x)(he:m.f0<2147483647){b:Nat}(hb:b≤100000)(hP:Pasts b x):Ev (fun k=>qAQ.f k m x) (qHT m x):=by
 have hf0:=h.1.1
 have h6:=qCa hx
 have hlen:(qHT m x).length=x.f6.length:=by unfold qHT; exact List.length_mapIdx
 have go:∀(d i:Nat),i+d=x.f6.length→Ev (fun k=>qAQ.l20 k m x x.f6 ((qHT m x).take i++x.f6.drop i) (i:Int)) (qHT m x):=by
  intro d
  induction d with
  | zero =>
   intro i hi
   refine .s (qAQ.l20_s · _ _ _ _ _) (.n (by omega) (.cv ?_))
   rw [List.take_of_length_le (by omega),List.drop_eq_nil_of_le (by omega),List.append_nil]
  | succ d ih =>
   intro i hi
   have h1:i<x.f6.length:=by omega
   have h2:i<(qHT m x).length:=by omega
   have hmem:=gM h1
   have hF:(qHT m x)[i]=followT x.f6[i] (actL m i) (actL x i) m.f2 (m.f0+1):=by
    simp only [qHT,List.getElem_mapIdx]
   have hr:=(qEe h i).2.1
   have hrx:=(qEe hx i).2.1
   have s1:=h.1.2.1
   have s2:=hx.1.2.1
   have ha:=(qDr h i).2.1
   have hax:=(qDr hx i).2.1
   refine .s (qAQ.l20_s · _ _ _ _ _) (.t (by omega) (.t (by omega) ?_))
   rw [qHH _ _ _ _ (by omega) h1,w64n i (by omega)]
   refine .b (raw h i) (.b (up h.1.2.2.2.2 _ (by omega)) (.b (raw hx i) (.b (up hx.1.2.2.2.2 _ (by omega)) ?_)))
   refine .b (equal (actL m i) (actL x i) (by omega)) ?_
   have j144:∀ l141,(⟨m.f0+1,l141⟩:qD)=(qHT m x)[i]→Ev (fun k=>qAQ.j144 k m x x.f6 ((qHT m x).take i++x.f6.drop i) (i:Int) l141) (qHT m x):=by
    intro l141 e
    refine .s (qAQ.j144_s · _ _ _ _ _ _) ?_
    rw [w64n i (by omega),qBj (by omega) (by omega),e,qHI _ _ _ h2 h1]
    exact ih (i+1) (by omega)
   by_cases hw:actL m i=actL x i
   ·have e:(qHT m x)[i]=x.f6[i]:=by
     rw [hF]
     exact if_pos hw
    rw [qGa _ _ _ h2 h1 e]
    exact .t (dT hw) (ih (i+1) (by omega))
   ·refine .n (fun e=>hw (oT e)) ?_
    rw [followT,if_neg hw]at hF
    by_cases hc:m.f2≤((actL m i).length:Int)
    ·rw [if_pos hc]at hF
     have hpl:=hP _ hmem
     have hfl:=List.length_filter_le (fun y:qF => !decide (y.f1=rising (actL m i))) x.f6[i].f1
     refine .t hc (.b0 (qHJ _ (by show (actL m i).length≤_; omega)) (.b (spansId _ (by omega) (fun s hs=>Nat.le_trans (qCV hx _ hmem s hs) (by decide))) (.b (delSpan _ _ (by omega) (fun s hs=>Nat.lt_of_le_of_lt (qCV hx _ hmem s hs) (by decide))) (.t ?_ (j144 _ hF.symm)))))
     show ((((x.f6[i].f1.filter (fun y:qF => !decide (y.f1=rising (actL m i)))).length:Nat):Int)+((1:Nat):Int)) * 32≤140737488355328
     omega
    ·rw [if_neg hc]at hF
     exact .n hc (j144 _ hF.symm)
 unfold qAQ.f
 refine .b0 (cloneP _ (by omega)) ?_
 have h0:=go x.f6.length 0 (Nat.zero_add _)
 rw [List.take_zero,List.drop_zero,List.nil_append]at h0
 exact h0
theorem bare(d:qU):qBP.f d=some (decide (bareD d)):=by
 have hlen:((d.f6.length:Int) == 0)=decide (d.f6=[]):=by
  cases d.f6 with
  | nil=>rfl
  | cons x r=>rw [dF (by simp)]; exact beq_eq_false_iff_ne.2 (by simp only [List.length_cons]; omega)
 have hl0:((d.f6.length:Int)=0)↔d.f6=[]:=by
  cases d.f6 with
  | nil=>exact ⟨fun _=>rfl,fun _=>rfl⟩
  | cons x r=>exact ⟨fun e=>absurd e (by simp only [List.length_cons]; omega),fun e=>(nomatch e)⟩
 have hz:∀ z:Int,(z == 0)=decide (z=0):=fun z=>by rw [Bool.eq_iff_iff,beq_iff_eq,decide_eq_true_eq]
 unfold qBP.f bareD
 rw [hlen]
 by_cases h1:d.f0=1
 ·rw [if_pos h1]
  simp only [if_pos h1]
  by_cases a:d.f5=0 <;> simp [a]
 ·rw [if_neg h1]
  simp only [if_neg h1]
  by_cases h2:d.f0=2
  ·rw [if_pos h2]
   simp only [if_pos h2]
   by_cases a:d.f2=0 <;> by_cases b:d.f3=0 <;> by_cases c:d.f5=0 <;> simp [a,b,c]
  ·rw [if_neg h2]
   simp only [if_neg h2]
   by_cases h10:d.f0=10
   ·rw [if_pos h10]
    simp only [if_pos h10]
    by_cases a:d.f1=0 <;> by_cases b:d.f2=0 <;> by_cases c:d.f3=0 <;> simp [a,b,c]
   ·rw [if_neg h10]
    simp only [if_neg h10]
    by_cases h8:d.f0=8
    ·rw [if_pos h8]
     simp only [if_pos h8]
     by_cases a:d.f1=0 <;> by_cases b:d.f2=0 <;> by_cases c:d.f3=0 <;> simp [a,b,c,hz]
    ·rw [if_neg h8]
     simp only [if_neg h8]
     by_cases a:d.f2=0 <;> by_cases b:d.f3=0 <;> by_cases c:d.f4=0 <;> by_cases e:d.f5=0 <;> by_cases f:d.f6=[] <;> by_cases g:d.f0=9 <;> simp [a,b,c,e,f,g,hl0,hz]
def Same2(R T:qG × Int):Prop:=R.2=T.2∧(T.2=0→R.1=T.1)
theorem err2(a b:qG)(c:Int)(hc:c≠0):Same2 (a,c) (b,c):=⟨rfl,fun e=>absurd e hc⟩
theorem Same2.refl(R:qG × Int):Same2 R R:=⟨rfl,fun _=>rfl⟩
theorem qFz(n:qA):∀(l:List qA),l.Pairwise (fun x y=>x.f0<y.f0)→((∃ h:posG (fun c:qA=>c.f0) n.f0 l<l.length,l[posG (fun c:qA=>c.f0) n.f0 l].f0=n.f0)→putN n l=l.set (posG (fun c:qA=>c.f0) n.f0 l) n)∧(l.find? (fun c=>decide (c.f0=n.f0))=none→putN n l=l.take (posG (fun c:qA=>c.f0) n.f0 l)++n :: l.drop (posG (fun c:qA=>c.f0) n.f0 l))
 | [],_=>⟨fun ⟨h,_⟩=>absurd h (by simp),fun _=>rfl⟩
 | c :: r,hp=>by
  obtain ⟨h1,h2⟩:=List.pairwise_cons.1 hp
  obtain ⟨i1,i2⟩:=qFz n r h2
  by_cases hc:c.f0<n.f0
  ·have e:posG (fun c:qA=>c.f0) n.f0 (c :: r)=posG (fun c:qA=>c.f0) n.f0 r+1:=by rw [posG,if_pos hc]
   rw [e,putN,if_pos hc]
   refine ⟨fun ⟨h,q⟩=>?_,fun q=>?_⟩
   ·rw [List.set_cons_succ,i1 ⟨by rw [List.length_cons]at h; omega,by rw [List.getElem_cons_succ]at q; exact q⟩]
   ·rw [List.find?_cons_of_neg (by simp; omega)]at q
    rw [i2 q]
    rfl
  ·have e:posG (fun c:qA=>c.f0) n.f0 (c :: r)=0:=by rw [posG,if_neg hc]
   rw [e,putN,if_neg hc]
   refine ⟨fun ⟨h,q⟩=>?_,fun q=>?_⟩
   ·rw [List.getElem_cons_zero]at q
    rw [if_pos q]
    rfl
   ·by_cases hx:c.f0=n.f0
    ·rw [List.find?_cons_of_pos (by simpa using hx)]at q
     cases q
    ·rw [if_neg hx]
     rfl
theorem qGA(x:Int):∀(l:List qA),l.Pairwise (fun x y=>x.f0<y.f0)→(∃ h:posG (fun c:qA=>c.f0) x l<l.length,l[posG (fun c:qA=>c.f0) x l].f0=x)→dropN x l=l.take (posG (fun c:qA=>c.f0) x l)++l.drop (posG (fun c:qA=>c.f0) x l+1)
 | [],_,⟨h,_⟩=>absurd h (by simp)
 | c :: r,hp,⟨h,q⟩=>by
  obtain ⟨h1,h2⟩:=List.pairwise_cons.1 hp
  unfold dropN
  by_cases hc:c.f0<x
  ·have e:posG (fun c:qA=>c.f0) x (c :: r)=posG (fun c:qA=>c.f0) x r+1:=by rw [posG,if_pos hc]
   simp only [e,List.getElem_cons_succ]at q
   rw [e,List.filter_cons_of_pos (by simp; omega)]
   have:=qGA x r h2 ⟨by rw [e,List.length_cons]at h; omega,q⟩
   unfold dropN at this
   rw [this]
   rfl
  ·have e:posG (fun c:qA=>c.f0) x (c :: r)=0:=by rw [posG,if_neg hc]
   simp only [e,List.getElem_cons_zero]at q
   rw [e,List.filter_cons_of_neg (by simpa using q),List.filter_eq_self.2 (fun y hy=>by have:=h1 y hy; simp; omega)]
   rfl
theorem qGB(g:Int)(ns:List Int):∀(l:List qE),l.Pairwise (fun x y=>x.f0<y.f0)→((∃ h:posG (fun c:qE=>c.f0) g l<l.length,l[posG (fun c:qE=>c.f0) g l].f0=g)→pinT g ns l=l.take (posG (fun c:qE=>c.f0) g l)++(if ns=[] then [] else [(⟨g,ns⟩:qE)])++l.drop (posG (fun c:qE=>c.f0) g l+1))∧(l.find? (fun c=>decide (c.f0=g))=none→pinT g ns l=l.take (posG (fun c:qE=>c.f0) g l)++(if ns=[] then [] else [(⟨g,ns⟩:qE)])++l.drop (posG (fun c:qE=>c.f0) g l))
 | [],_=>⟨fun ⟨h,_⟩=>absurd h (by simp),fun _=>by
  unfold pinT posG
  rw [List.take_nil,List.drop_nil,List.append_nil,List.nil_append]⟩
 | c :: r,hp=>by
  obtain ⟨h1,h2⟩:=List.pairwise_cons.1 hp
  obtain ⟨i1,i2⟩:=qGB g ns r h2
  by_cases hc:c.f0<g
  ·have e:posG (fun c:qE=>c.f0) g (c :: r)=posG (fun c:qE=>c.f0) g r+1:=by rw [posG,if_pos hc]
   rw [e,pinT,if_pos hc]
   refine ⟨fun ⟨h,q⟩=>?_,fun q=>?_⟩
   ·rw [i1 ⟨by rw [List.length_cons]at h; omega,by rw [List.getElem_cons_succ]at q; exact q⟩]
    rfl
   ·rw [List.find?_cons_of_neg (by simp; omega)]at q
    rw [i2 q]
    rfl
  ·have e:posG (fun c:qE=>c.f0) g (c :: r)=0:=by rw [posG,if_neg hc]
   rw [e,pinT,if_neg hc]
   refine ⟨fun ⟨h,q⟩=>?_,fun q=>?_⟩
   ·rw [List.getElem_cons_zero]at q
    rw [if_pos q]
    rfl
   ·by_cases hx:c.f0=g
    ·rw [List.find?_cons_of_pos (by simpa using hx)]at q
     cases q
    ·rw [if_neg hx]
     rfl
theorem at_{m:qG}(h:May m)(x:Int):Ev (fun k=>qBT.f k m x) (qHV (fun n:qA=>n.f0) x m.f4):=by
 have hn:=h.1.2.2.2.2
 have hl:=hn.1
 unfold qBT.f qO.f
 exact .b (searchG qA.z (fun n=>n.f0) x qBI.f (fun a=>by unfold qBI.f; rw [cmpG]; rfl) m.f4 _ (fun k a b=>qO.l7_s k m.f4 x a b) (by omega) hn.up m.f4.length 0 m.f4.length (by omega) (by omega) (qCY _ _ _) (Nat.le_refl _)) (.c _)
theorem foundAt{m:qG}(h:May m)(x:Int):(∃ hp:posG (fun n:qA=>n.f0) x m.f4<m.f4.length,m.f4[posG (fun n:qA=>n.f0) x m.f4].f0=x∧(qHV (fun n:qA=>n.f0) x m.f4).2=true∧m.f4.find? (fun c=>decide (c.f0=x))=some m.f4[posG (fun n:qA=>n.f0) x m.f4])∨((qHV (fun n:qA=>n.f0) x m.f4).2=false∧m.f4.find? (fun c=>decide (c.f0=x))=none):=qCC (fun n:qA=>n.f0) x m.f4 h.1.2.2.2.2.up
theorem add{m:qG}(h:May m)(d:qU):Ht (fun k=>qBS.f k m d) (fun R=>Same2 R (addL m d)):=by
 have hn:=h.1.2.2.2.2
 have hl:m.f4.length≤12:=hn.1
 unfold qBS.f
 refine .e (at_ h d.f1) ?_
 unfold addL Topo.find
 rcases foundAt h d.f1 with ⟨hp,q1,q2,q3⟩ | ⟨q2,q3⟩
 ·rw [q3]
  exact .t q2 (.c (err2 _ _ _ (by decide)))
 ·rw [q3]
  refine .n (by rw [q2]; decide) ?_
  rw [if_neg (by decide)]
  by_cases h12:m.f4.length=12
  ·rw [if_pos h12]
   exact .t (by omega) (.c (err2 _ _ _ (by decide)))
  ·rw [if_neg h12]
   have hle:=qCY (fun n:qA=>n.f0) d.f1 m.f4
   have ep:putN (addN d) m.f4=m.f4.take (posG (fun n:qA=>n.f0) d.f1 m.f4)++addN d :: m.f4.drop (posG (fun n:qA=>n.f0) d.f1 m.f4):=(qFz (addN d) m.f4 hn.up).2 q3
   have ei:qAF.f m.f4 (qHV (fun n:qA=>n.f0) d.f1 m.f4).1 [(⟨d.f1,d.f2,d.f3,d.f4,false,true⟩:qA)]=some (putN (addN d) m.f4):=by
    unfold qAF.f
    show (if 0≤((posG (fun n:qA=>n.f0) d.f1 m.f4:Nat):Int)∧((posG (fun n:qA=>n.f0) d.f1 m.f4:Nat):Int)≤(m.f4.length:Int)∧m.f4.length≤1000000 then some (m.f4.take ((posG (fun n:qA=>n.f0) d.f1 m.f4:Nat):Int).toNat++(⟨d.f1,d.f2,d.f3,d.f4,false,true⟩:qA) :: m.f4.drop ((posG (fun n:qA=>n.f0) d.f1 m.f4:Nat):Int).toNat) else none)=_
    rw [if_pos (by omega),tN,ep]
    rfl
   refine .n (by omega) (.o ei (.e (Topo.check' _) (.c ?_)))
   by_cases hm:Topo.Nodes (putN (addN d) m.f4)
   ·rw [if_pos hm,dT hm]
    exact ⟨rfl,fun _=>rfl⟩
   ·rw [if_neg hm,dF hm]
    exact err2 _ _ _ (by decide)
theorem foundTemp{m:qG}(h:May m)(x:Int):(∃ hp:posG (fun n:qE=>n.f0) x m.f5<m.f5.length,m.f5[posG (fun n:qE=>n.f0) x m.f5].f0=x∧(qHV (fun n:qE=>n.f0) x m.f5).2=true∧m.f5.find? (fun c=>decide (c.f0=x))=some m.f5[posG (fun n:qE=>n.f0) x m.f5])∨((qHV (fun n:qE=>n.f0) x m.f5).2=false∧m.f5.find? (fun c=>decide (c.f0=x))=none):=qCC (fun n:qE=>n.f0) x m.f5 ((qBo m _ _).1 h.2.1).2.1
theorem pin{m:qG}(h:May m)(d:qU):Ht (fun k=>qAO.f k m d) (fun R=>Same2 R (pinL m d)):=by
 have hf:=h.1
 have h1:=h.1.2.1
 have h3:=h.1.2.2.2.1
 have hl:=qCU h
 have hsort:=((qBo m _ _).1 h.2.1).2.1
 have no:Ht (fun k=>qAO.j15 k m d true) (fun R=>Same2 R ((m,1):qG × Int)):=.s (qAO.j15_s · _ _ _) (.t rfl (.c (err2 _ _ _ (by decide))))
 unfold qAO.f pinL
 refine .o (min' d.f5 0 _) ?_
 rw [qBj (by omega) (by omega)]
 by_cases hg:0≤d.f5∧d.f5≤m.f3 - 1
 ·refine .t (dT hg) ?_
  by_cases hs:(d.f6.length:Int)>m.f1
  ·rw [if_neg (by omega),dT hs]
   exact no
  rw [if_pos ⟨hg.1,by omega,by omega⟩,dF hs]
  have hd6:d.f6.length≤3:=by omega
  have hle:=qCY (fun n:qE=>n.f0) d.f5 m.f5
  have rest:∀ there:Bool,(there=true→∃ hp:posG (fun n:qE=>n.f0) d.f5 m.f5<m.f5.length,m.f5[posG (fun n:qE=>n.f0) d.f5 m.f5].f0=d.f5)→(there=false→m.f5.find? (fun c=>decide (c.f0=d.f5))=none)→∀ same:Bool,(same=true↔qHU m d.f5=d.f6) →
    Ht (fun k=>qAO.j45 k m d (qHV (fun t:qE=>t.f0) d.f5 m.f5) there same) (fun R=>Same2 R (if qHU m d.f5=d.f6 then (m,7) else if Topo.apartR m.f4 [] d.f6=true then (withT m (pinT d.f5 d.f6 m.f5),0) else (m,12))):=by
   intro there ht hf' same hsame
   refine .s (qAO.j45_s · _ _ _ _ _) ?_
   cases same with
   | true =>
    rw [if_pos (hsame.1 rfl)]
    exact .t rfl (.c (err2 _ _ _ (by decide)))
   | false =>
    rw [if_neg (fun e=>Bool.noConfusion (hsame.2 e))]
    refine .n Bool.false_ne_true (.e (Topo.apart m.f4 d.f6 (by have:=h.1.2.2.2.2.1; omega) (by omega)) ?_)
    rw [dT h.1.2.2.2.2,Bool.true_and]
    by_cases ha:Topo.apartR m.f4 [] d.f6=true
    ·rw [if_pos ha]
     have j113:∀ l,l=pinT d.f5 d.f6 m.f5→Ht (fun k=>qAO.j113 k m l) (fun R=>Same2 R (withT m (pinT d.f5 d.f6 m.f5),0)):=by
      intro l hl
      rw [hl]
      exact .s (qAO.j113_s · _ _) (.c (Same2.refl _))
     have j77:∀ l,l.length≤8→posG (fun n:qE=>n.f0) d.f5 m.f5≤l.length→(l.take (posG (fun n:qE=>n.f0) d.f5 m.f5)++(if d.f6=[] then [] else [(⟨d.f5,d.f6⟩:qE)])++l.drop (posG (fun n:qE=>n.f0) d.f5 m.f5))=pinT d.f5 d.f6 m.f5→Ht (fun k=>qAO.j77 k m d (qHV (fun t:qE=>t.f0) d.f5 m.f5) l) (fun R=>Same2 R (withT m (pinT d.f5 d.f6 m.f5),0)):=by
      intro l hl8 hpl he
      refine .s (qAO.j77_s · _ _ _ _) ?_
      by_cases h6:d.f6=[]
      ·rw [if_pos h6,List.append_nil,List.take_append_drop]at he
       refine .n (by rw [h6]; decide) (j113 _ he)
      ·rw [if_neg h6]at he
       have hpos:0<d.f6.length:=List.length_pos_iff.2 h6
       have ei:qAH.f l (qHV (fun n:qE=>n.f0) d.f5 m.f5).1 [(⟨d.f5,d.f6⟩:qE)]=some (pinT d.f5 d.f6 m.f5):=by
        unfold qAH.f
        show (if 0≤((posG (fun n:qE=>n.f0) d.f5 m.f5:Nat):Int)∧((posG (fun n:qE=>n.f0) d.f5 m.f5:Nat):Int)≤(l.length:Int)∧l.length≤1000000 then some (l.take ((posG (fun n:qE=>n.f0) d.f5 m.f5:Nat):Int).toNat++(⟨d.f5,d.f6⟩:qE) :: l.drop ((posG (fun n:qE=>n.f0) d.f5 m.f5:Nat):Int).toNat) else none)=_
        rw [if_pos (by omega),tN,← he,List.append_assoc]
        rfl
       exact .t (by omega) (.o (clone _ (by omega)) (.o ei (j113 _ rfl)))
     refine .t ha ?_
     cases there with
     | true =>
      obtain ⟨hp,hq⟩:=ht rfl
      have ed:qAG.f m.f5 (qHV (fun n:qE=>n.f0) d.f5 m.f5).1 (w64 ((qHV (fun n:qE=>n.f0) d.f5 m.f5).1+1))=some (m.f5.take (posG (fun n:qE=>n.f0) d.f5 m.f5)++m.f5.drop (posG (fun n:qE=>n.f0) d.f5 m.f5+1)):=by
       unfold qAG.f
       show (if 0≤((posG (fun n:qE=>n.f0) d.f5 m.f5:Nat):Int)∧((posG (fun n:qE=>n.f0) d.f5 m.f5:Nat):Int)≤w64 (((posG (fun n:qE=>n.f0) d.f5 m.f5:Nat):Int)+1)∧w64 (((posG (fun n:qE=>n.f0) d.f5 m.f5:Nat):Int)+1)≤(m.f5.length:Int)∧m.f5.length≤1000000 then some (m.f5.take ((posG (fun n:qE=>n.f0) d.f5 m.f5:Nat):Int).toNat++m.f5.drop (w64 (((posG (fun n:qE=>n.f0) d.f5 m.f5:Nat):Int)+1)).toNat) else none)=_
       rw [w64n _ (by omega),if_pos (by omega),tN,tN]
      have hlen:(m.f5.take (posG (fun n:qE=>n.f0) d.f5 m.f5)).length=posG (fun n:qE=>n.f0) d.f5 m.f5:=by rw [List.length_take]; omega
      refine .t rfl (.o ed (j77 _ ?_ ?_ ?_))
      ·rw [lA,hlen,List.length_drop]; omega
      ·rw [lA,hlen]; omega
      ·rw [(qGB d.f5 d.f6 m.f5 hsort).1 ⟨hp,hq⟩,List.take_append_of_le_length (by omega),List.take_of_length_le (by omega),List.drop_append_of_le_length (by omega),List.drop_of_length_le (by omega),List.nil_append]
     | false=>exact .n Bool.false_ne_true (j77 _ hl hle ((qGB d.f5 d.f6 m.f5 hsort).2 (hf' rfl)).symm)
    ·rw [if_neg ha]
     exact .n ha (.c (err2 _ _ _ (by decide)))
  refine .s (qAO.j15_s · _ _ _) (.n Bool.false_ne_true (.e (temp h d.f5) ?_))
  rcases foundTemp h d.f5 with ⟨hp,q1,q2,q3⟩ | ⟨q2,q3⟩
  ·have hto:qHU m d.f5=m.f5[posG (fun n:qE=>n.f0) d.f5 m.f5].f1:=by unfold qHU; rw [q3]
   refine .t q2 (.t ?_ ?_)
   ·show 0≤((posG (fun n:qE=>n.f0) d.f5 m.f5:Nat):Int)∧((posG (fun n:qE=>n.f0) d.f5 m.f5:Nat):Int)<_
    omega
   ·have q:nth qE.z m.f5 (qHV (fun n:qE=>n.f0) d.f5 m.f5).1=_:=nth_get qE.z m.f5 _ hp
    rw [q]
    have htl:=qDT h _ (gM hp)
    refine .e (equal _ _ (by omega)) (rest true (fun _=>⟨hp,q1⟩) (fun e=>Bool.noConfusion e) _ ?_)
    rw [decide_eq_true_eq,hto]
  ·have hto:qHU m d.f5=[]:=by unfold qHU; rw [q3]
   refine .n (by rw [q2]; decide) ?_
   by_cases h0:(d.f6.length:Int)=0
   ·exact .t h0 (rest false (fun e=>Bool.noConfusion e) (fun _=>q3) true ⟨fun _=>by rw [hto]; exact (List.eq_nil_of_length_eq_zero (by omega)).symm,fun _=>rfl⟩)
   ·exact .n h0 (rest false (fun e=>Bool.noConfusion e) (fun _=>q3) false ⟨fun e=>Bool.noConfusion e,fun e=>absurd (by rw [← e,hto]; rfl) h0⟩)
 ·rw [if_neg (fun e=>hg ⟨e.1,by omega⟩)]
  exact .n (fun e=>hg (oT e)) no
theorem cleaned{m:qG}(h:May m)(d:qU):qBM.f m d=some (cleanL m d):=by
 have hf:=h.1
 have h3:=h.1.2.2.2.1
 have hlen:m.f6.length=m.f3:=h.2.2.1
 unfold qBM.f cleanL
 rw [min' d.f5 0 _,Option.bind_some,qBj (by omega) (by omega)]
 by_cases hg:0≤d.f5∧d.f5<m.f3
 ·rw [if_pos hg,if_pos (dT (by omega)),if_pos (by omega)]
  by_cases hs:(nth qD.z m.f6 d.f5).f0=d.f4
  ·rw [if_pos hs,if_neg (show ¬ (nth qD.z m.f6 d.f5).f0≠d.f4 from fun e=>e hs)]
   by_cases hp:(nth qD.z m.f6 d.f5).f1=[]
   ·rw [if_pos hp,if_pos (show (((nth qD.z m.f6 d.f5).f1).length:Int)=0 by rw [hp]; rfl)]
   ·rw [if_neg hp,if_neg (show ¬ (((nth qD.z m.f6 d.f5).f1).length:Int)=0 from fun e=>hp (List.eq_nil_of_length_eq_zero (by omega)))]
    rfl
  ·rw [if_neg hs,if_pos (show (nth qD.z m.f6 d.f5).f0≠d.f4 from hs)]
 ·rw [if_neg hg,if_neg (fun e=>hg ⟨(oT e).1,by have:=(oT e).2; omega⟩)]
theorem heldT(m:qG)(h:May m)(d:qU):Ev (fun k=>qk.f k m.f5 d) (m.f5.any (fun t=>decide (d.f1 ∈ t.f1))):=by
 obtain ⟨x,hx,hm⟩:=anyG qE.z m.f5 (fun t=>decide (d.f1 ∈ t.f1)) (fun k t=>qBF.f k t d) (fun t ht=>by
  unfold qBF.f
  exact .b (Topo.contains t.f1 d.f1 (by have:=qDT h t ht; omega)) (.c _)) (by have:=qCU h; omega) (fun k x=>qa.l5 k m.f5 d x) (fun k x=>qa.l5_s k m.f5 d x) m.f5.length 0 (by omega)
 unfold qk.f qa.f
 exact .b hx (.cv hm)
theorem acted{m:qG}(h:May m){b:Nat}(hb:b≤100000)(hP:Pasts b m)(id:Int):Ev (fun k=>qAv.f k m id) (m.f6.any (fun t=>t.f1.any (fun s=>decide (id ∈ s.f1)))):=by
 have hin:∀ t ∈ m.f6,Ev (fun k=>qAq.f k t id) (t.f1.any (fun s=>decide (id ∈ s.f1))):=by
  intro t ht
  obtain ⟨x,hx,hm⟩:=anyG qF.z t.f1 (fun s=>decide (id ∈ s.f1)) (fun k s=>qAm.f k s id) (fun s hs=>by
   unfold qAm.f
   exact .b (Topo.contains s.f1 id (by have:=qCV h t ht s hs; omega)) (.c _)) (by have:=hP t ht; omega) (fun k x=>qV.l5 k t.f1 id x) (fun k x=>qV.l5_s k t.f1 id x) t.f1.length 0 (by omega)
  unfold qAq.f qm.f qV.f
  exact .b (.b hx (.cv hm)) (.c _)
 obtain ⟨x,hx,hm⟩:=anyG qD.z m.f6 (fun t=>t.f1.any (fun s=>decide (id ∈ s.f1))) (fun k t=>qAq.f k t id) hin (by have:=qCa h; omega) (fun k x=>qW.l5 k m.f6 id x) (fun k x=>qW.l5_s k m.f6 id x) m.f6.length 0 (by omega)
 unfold qAv.f qn.f qW.f
 exact .b (.b hx (.cv hm)) (.c _)
theorem node{m:qG}(h:May m){b:Nat}(hb:b≤100000)(hP:Pasts b m)(d:qU)(hd:2≤d.f0∧d.f0≤7)(hp:posG (fun n:qA=>n.f0) d.f1 m.f4<m.f4.length)(hq:m.f4[posG (fun n:qA=>n.f0) d.f1 m.f4].f0=d.f1):Ht (fun k=>qAN.f k m ((posG (fun n:qA=>n.f0) d.f1 m.f4:Nat):Int) d) (fun R=>Same2 R (nodeL m m.f4[posG (fun n:qA=>n.f0) d.f1 m.f4] d)):=by
 have hn:=h.1.2.2.2.2
 have hl:m.f4.length≤12:=hn.1
 obtain ⟨p,hpe⟩:∃ p,posG (fun n:qA=>n.f0) d.f1 m.f4=p:=⟨_,rfl⟩
 have hput:∀ n:qA,n.f0=d.f1→putN n m.f4=m.f4.set p n:=fun n e=>by
  have:=(qFz n m.f4 hn.up).1
  rw [e,hpe]at this
  simp only [hpe]at hp hq
  exact this ⟨hp,hq⟩
 have hdrop:=qGA d.f1 m.f4 hn.up ⟨hp,hq⟩
 simp only [hpe]at hp hq hdrop ⊢
 have same:∀(b:Bool)(l:List qA),l=putN (if b then m.f4[p] else m.f4[p]) m.f4→True:=fun _ _ _=>trivial
 unfold qAN.f nodeL
 rw [nth_get _ _ _ hp,tN]
 refine .t (by omega) ?_
 by_cases h2:d.f0=2
 ·rw [if_pos h2]
  refine .t h2 (.o (min' d.f4 0 65536) ?_)
  by_cases hw:0≤d.f4∧d.f4≤65536
  ·rw [if_pos hw]
   refine .t (dT hw) ?_
   by_cases he:m.f4[p].f3=d.f4
   ·simp only [if_pos he]
    exact .c (err2 m m 7 (by decide))
   ·simp only [if_neg he]
    refine .c ?_
    rw [hput ⟨m.f4[p].f0,m.f4[p].f1,m.f4[p].f2,d.f4,m.f4[p].f4,m.f4[p].f5⟩ hq]
    exact Same2.refl _
  ·rw [if_neg hw]
   exact .n (fun e=>hw (oT e)) (.c (err2 m m 1 (by decide)))
 ·rw [if_neg h2]
  refine .n h2 ?_
  have e3:(d.f0 == 3)=decide (d.f0=3):=by rw [Bool.eq_iff_iff,beq_iff_eq,decide_eq_true_eq]
  have e4:(d.f0 == 4)=decide (d.f0=4):=by rw [Bool.eq_iff_iff,beq_iff_eq,decide_eq_true_eq]
  have e6:(d.f0 == 6)=decide (d.f0=6):=by rw [Bool.eq_iff_iff,beq_iff_eq,decide_eq_true_eq]
  have j103:∀ y:Bool,y=decide (m.f4[p].f4=true∨(m.f4[p].f5=true∧m.f4[p].f3>0)∨held m d.f1=true)→Ht (fun k=>qAN.j103 k m (p:Int) y) (fun R=>Same2 R (if m.f4[p].f4=true∨(m.f4[p].f5=true∧m.f4[p].f3>0)∨held m d.f1=true then (m,11) else (withN m (dropN d.f1 m.f4),0))):=by
   intro y hy
   refine .s (qAN.j103_s · _ _ _) ?_
   by_cases hc:m.f4[p].f4=true∨(m.f4[p].f5=true∧m.f4[p].f3>0)∨held m d.f1=true
   ·rw [if_pos hc]
    exact .t (hy.trans (dT hc)) (.c (err2 m m 11 (by decide)))
   ·rw [if_neg hc]
    have ed:qAI.f m.f4 (p:Int) (w64 ((p:Int)+1))=some (dropN d.f1 m.f4):=by
     unfold qAI.f
     rw [w64n _ (by omega),if_pos (by omega),tN,tN,hdrop]
    exact .n (by rw [hy,dF hc]; decide) (.o ed (.c (Same2.refl _)))
  have j64:∀ y:Bool,y=decide (d.f0=5∨d.f0=6)→¬ (d.f0=3∨d.f0=4)→Ht (fun k=>qAN.j64 k m (p:Int) d y) (fun R=>Same2 R (if d.f0=5∨d.f0=6 then (if m.f4[p].f5=decide (d.f0=6) then (m,7) else (withN m (putN ⟨m.f4[p].f0,m.f4[p].f1,m.f4[p].f2,m.f4[p].f3,m.f4[p].f4,decide (d.f0=6)⟩ m.f4),0)) else if m.f4[p].f4=true∨(m.f4[p].f5=true∧m.f4[p].f3>0)∨held m d.f1=true then (m,11) else (withN m (dropN d.f1 m.f4),0))):=by
   intro y hy h34
   refine .s (qAN.j64_s · _ _ _ _) ?_
   rw [nth_get _ _ _ hp,tN,e6]
   by_cases h56:d.f0=5∨d.f0=6
   ·rw [if_pos h56]
    refine .t (hy.trans (dT h56)) ?_
    by_cases he:m.f4[p].f5=decide (d.f0=6)
    ·simp only [if_pos he]
     exact .c (err2 m m 7 (by decide))
    ·simp only [if_neg he]
     refine .c ?_
     rw [hput ⟨m.f4[p].f0,m.f4[p].f1,m.f4[p].f2,m.f4[p].f3,m.f4[p].f4,decide (d.f0=6)⟩ hq]
     exact Same2.refl _
   ·rw [if_neg h56]
    refine .n (by rw [hy,dF h56]; decide) (.e (heldT m h d) ?_)
    by_cases c4:m.f4[p].f4=true
    ·exact .t c4 (j103 true (dT (.inl c4)).symm)
    ·refine .n c4 ?_
     have hrest:∀ y:Bool,(¬ (m.f4[p].f5=true∧m.f4[p].f3>0))→y=held m d.f1→y=decide (m.f4[p].f4=true∨(m.f4[p].f5=true∧m.f4[p].f3>0)∨held m d.f1=true):=by
      intro y h1 h2
      rw [h2,Bool.eq_iff_iff,decide_eq_true_eq]
      exact ⟨fun q=>.inr (.inr q),fun q=>(q.resolve_left c4).resolve_left h1⟩
     have hlast:(¬ (m.f4[p].f5=true∧m.f4[p].f3>0))→Ht (fun k=>if m.f5.any (fun t=>decide (d.f1 ∈ t.f1))=true then qAN.j103 k m (p:Int) true else (qAv.f k m d.f1).bind fun t96=>qAN.j103 k m (p:Int) t96) (fun R=>Same2 R (if m.f4[p].f4=true∨(m.f4[p].f5=true∧m.f4[p].f3>0)∨held m d.f1=true then (m,11) else (withN m (dropN d.f1 m.f4),0))):=by
      intro h1
      by_cases ht:m.f5.any (fun t=>decide (d.f1 ∈ t.f1))=true
      ·refine .t ht (j103 true (hrest true h1 ?_))
       unfold held
       rw [ht]
       rfl
      ·refine .n ht (.e (acted h hb hP d.f1) (j103 _ (hrest _ h1 ?_)))
       unfold held
       rw [eq_false_of_ne_true ht]
       rfl
     by_cases c5:m.f4[p].f5=true
     ·refine .t c5 ?_
      by_cases c3:m.f4[p].f3>0
      ·exact .t c3 (j103 true (dT (.inr (.inl ⟨c5,c3⟩))).symm)
      ·exact .n c3 (hlast (fun e=>c3 e.2))
     ·exact .n c5 (hlast (fun e=>c5 e.1))
  have j45:∀ y:Bool,y=decide (d.f0=3∨d.f0=4)→Ht (fun k=>qAN.j45 k m (p:Int) d y) (fun R=>Same2 R (if d.f0=3∨d.f0=4 then (if m.f4[p].f4=decide (d.f0=3) then (m,7) else (withN m (putN ⟨m.f4[p].f0,m.f4[p].f1,m.f4[p].f2,m.f4[p].f3,decide (d.f0=3),m.f4[p].f5⟩ m.f4),0)) else if d.f0=5∨d.f0=6 then (if m.f4[p].f5=decide (d.f0=6) then (m,7) else (withN m (putN ⟨m.f4[p].f0,m.f4[p].f1,m.f4[p].f2,m.f4[p].f3,m.f4[p].f4,decide (d.f0=6)⟩ m.f4),0)) else if m.f4[p].f4=true∨(m.f4[p].f5=true∧m.f4[p].f3>0)∨held m d.f1=true then (m,11) else (withN m (dropN d.f1 m.f4),0))):=by
   intro y hy
   refine .s (qAN.j45_s · _ _ _ _) ?_
   rw [nth_get _ _ _ hp,tN,e3]
   by_cases h34:d.f0=3∨d.f0=4
   ·rw [if_pos h34]
    refine .t (hy.trans (dT h34)) ?_
    by_cases he:m.f4[p].f4=decide (d.f0=3)
    ·simp only [if_pos he]
     exact .c (err2 m m 7 (by decide))
    ·simp only [if_neg he]
     refine .c ?_
     rw [hput ⟨m.f4[p].f0,m.f4[p].f1,m.f4[p].f2,m.f4[p].f3,decide (d.f0=3),m.f4[p].f5⟩ hq]
     exact Same2.refl _
   ·rw [if_neg h34]
    refine .n (by rw [hy,dF h34]; decide) ?_
    by_cases h5:d.f0=5
    ·exact .t h5 (j64 true (dT (.inl h5)).symm h34)
    ·refine .n h5 (j64 _ ?_ h34)
     rw [e6,decide_eq_decide]
     exact ⟨.inr,fun q=>q.resolve_left h5⟩
  by_cases h3:d.f0=3
  ·exact .t h3 (j45 true (dT (.inl h3)).symm)
  ·refine .n h3 (j45 _ ?_)
   rw [e4,decide_eq_decide]
   exact ⟨.inr,fun q=>q.resolve_left h3⟩
theorem turned{m:qG}(h:May m){b:Nat}(hb:b≤100000)(hP:Pasts b m)(d:qU)(hd:1≤d.f0∧d.f0≤10):Ht (fun k=>qAy.f k m d) (fun R=>Same2 R (qHR m d)):=by
 unfold qAy.f qHR
 by_cases h1:d.f0=1
 ·rw [if_pos h1]
  exact .t h1 (.b (add h d) (fun a q=>.c q))
 ·rw [if_neg h1]
  refine .n h1 ?_
  by_cases h8:d.f0=8
  ·rw [if_pos h8]
   exact .t h8 (.b (pin h d) (fun a q=>.c q))
  ·rw [if_neg h8]
   refine .n h8 ?_
   by_cases h9:d.f0=9
   ·simp only [if_pos h9]
    exact .c (Same2.refl _)
   ·simp only [if_neg h9]
    by_cases h10:d.f0=10
    ·rw [if_pos h10]
     exact .t h10 (.o (cleaned h d) (.c (Same2.refl _)))
    ·rw [if_neg h10]
     refine .n h10 (.e (at_ h d.f1) ?_)
     rcases foundAt h d.f1 with ⟨hp,q1,q2,q3⟩ | ⟨q2,q3⟩
     ·rw [q3]
      exact .t q2 (.b (node h hb hP d (by omega) hp q1) (fun a q=>.c q))
     ·rw [q3]
      exact .n (by rw [q2]; decide) (.c (err2 m m 5 (by decide)))
theorem qCc{m:qG}{b:Nat}(hP:Pasts b m)(d:qU):Pasts b (qHR m d).1:=by
 have key:∀ x:qG,x.f6=m.f6→Pasts b x:=fun x e t ht=>hP t (e ▸ ht)
 unfold qHR
 split
 ·unfold addL
  split
  ·exact hP
  ·split
   ·exact hP
   ·split
    ·exact key _ rfl
    ·exact hP
 ·split
  ·unfold pinL
   split
   ·split
    ·exact hP
    ·split
     ·exact key _ rfl
     ·exact hP
   ·exact hP
  ·split
   ·exact hP
   ·split
    ·unfold cleanL
     split
     ·split
      ·exact hP
      ·split
       ·exact hP
       ·intro t ht
        rcases List.mem_or_eq_of_mem_set ht with ht | rfl
        ·exact hP t ht
        ·exact Nat.zero_le _
     ·exact hP
    ·split
     ·unfold nodeL
      repeat' split
      all_goals first | exact hP | exact key _ rfl
     ·exact hP
theorem qEM{m:qG}{b:Nat}(hP:Pasts b m)(d:qU):Pasts (b+1) (qHW m d).1:=by
 have hw:Pasts (b+1) m:=fun t ht=>Nat.le_succ_of_le (hP t ht)
 unfold qHW
 split
 ·split
  ·exact hw
  ·split
   ·intro t ht
    have ht:t ∈ qHT m (qHR m d).1:=ht
    unfold qHT at ht
    obtain ⟨i,hi,rfl⟩:=List.mem_mapIdx.1 ht
    have hT:=qCc hP d _ (gM hi)
    unfold followT
    split
    ·omega
    ·show (if m.f2≤((actL m i).length:Int) then _ else _:List qF).length≤_
     split
     ·rw [lA]
      have:=List.length_filter_le (fun s:qF => !decide (s.f1=rising (actL m i))) (qHR m d).1.f6[i].f1
      show _+1≤_
      omega
     ·omega
   ·exact hw
 ·exact hw
def noMap:qG:=⟨0,0,0,0,[],[],[]⟩
theorem apply(m:qG)(hm:Small m)(d:qU){b:Nat}(hb:b≤100000)(hP:Pasts b m):Ev (fun k=>qAW.f k m d) (if May m then qHW m d else (noMap,1)):=by
 unfold qAW.f
 refine .b (check m hm) ?_
 by_cases h:May m
 ·rw [if_pos h,dT h]
  have ho:=own (h.sized hb hP)
  have hf0:=h.1.1
  have j21:∀ y:Bool,(y=true↔¬ ((1≤d.f0∧d.f0≤10)∧bareD d))→Ev (fun k=>qAW.j21 k m d y) (qHW m d):=by
   intro y hy
   refine .s (qAW.j21_s · _ _ _) ?_
   unfold qHW
   by_cases hc:(1≤d.f0∧d.f0≤10)∧bareD d
   ·rw [if_pos hc]
    refine .n (fun e=>hy.1 e hc) ?_
    by_cases he:m.f0=2147483647
    ·rw [if_pos he]
     exact .t he (.b ho (.c _))
    ·rw [if_neg he]
     obtain ⟨R,hR,hs⟩:=turned h hb hP d hc.1
     refine .n he (.b ho (.b hR ?_))
     by_cases h0:(qHR m d).2=0
     ·rw [if_pos h0]
      refine .t (hs.1.trans h0) ?_
      rw [hs.2 h0]
      have hT:=qCM (m:=m) (d:=d)
      refine .b (followed h (qDH h h0) (by omega) hb (qCc hP d)) (.cv ?_)
      rw [hT.1,hT.2.1,hT.2.2.1,hT.2.2.2,qBj (by omega) (by omega)]
     ·rw [if_neg h0]
      exact .n (fun e=>h0 (hs.1.symm.trans e)) (.b ho (.cv (by rw [hs.1])))
   ·rw [if_neg hc]
    exact .t (hy.2 hc) (.b ho (.c _))
  refine .t rfl ?_
  by_cases c1:d.f0<1
  ·exact .t c1 (j21 true ⟨fun _ q=>by omega,fun _=>rfl⟩)
  ·refine .n c1 ?_
   by_cases c2:d.f0≥11
   ·exact .t c2 (j21 true ⟨fun _ q=>by omega,fun _=>rfl⟩)
   ·refine .n c2 (.b0 (bare d) (j21 _ ?_))
    by_cases hb:bareD d
    ·rw [dT hb]
     exact ⟨fun e=>Bool.noConfusion e,fun q=>absurd ⟨⟨by omega,by omega⟩,hb⟩ q⟩
    ·rw [dF hb]
     exact ⟨fun _ q=>hb q.2,fun _=>rfl⟩
 ·rw [if_neg h,dF h]
  exact .n (by decide) (.c _)
theorem qGC{m:qG}{d:qU}(h:(qHW m d).2≠0):(qHW m d).1=m:=by
 unfold qHW at h ⊢
 split
 ·rename_i c1
  rw [if_pos c1]at h
  split
  ·rfl
  ·rename_i c2
   rw [if_neg c2]at h
   split
   ·rename_i c3
    rw [if_pos c3]at h
    exact absurd rfl h
   ·rfl
 ·rfl
theorem Lit8.pasts{m:qG}(h:Lit8 m):Pasts 20 m:=h.hp
theorem deltasG(l:List qU):Ht (fun k=>qi.f k l) (fun b=>b=true→l.length≤60∧∀ d ∈ l,d.f6.length≤20):=by
 have go:∀(n i:Nat),i+n=min 60 l.length→(∀ d ∈ l.take i,d.f6.length≤20)→Ht (fun k=>qi.l5 k l (i:Int)) (fun b=>b=true→l.length≤60∧∀ d ∈ l,d.f6.length≤20):=by
  intro n
  induction n with
  | zero =>
   intro i hi ht
   have fin:Ht (fun k=>qi.j13 k l (i:Int) false) (fun b=>b=true→l.length≤60∧∀ d ∈ l,d.f6.length≤20):=by
    refine .s (qi.j13_s · _ _ _) (.n Bool.false_ne_true (.c (fun e=>?_)))
    have h60:=oT e
    rw [List.take_of_length_le (by omega)]at ht
    exact ⟨by omega,ht⟩
   refine .s (qi.l5_s · _ _) (.i (fun c=>?_) (fun _=>fin))
   rw [dF (by omega)]
   exact fin
  | succ n ih =>
   intro i hi ht
   have h1:i<l.length:=by omega
   refine .s (qi.l5_s · _ _) (.t (by omega) ?_)
   rw [dT (by omega)]
   refine .s (qi.j13_s · _ _ _) (.t rfl (.t (by omega) ?_))
   rw [nth_get _ _ _ h1,w64n i (by omega)]
   refine .i (fun _=>.c (fun e=>nomatch e)) (fun c=>ih (i+1) (by omega) (fun d hd=>?_))
   rw [← List.take_append_getElem h1]at hd
   rcases List.mem_append.1 hd with hd | hd
   ·exact ht d hd
   ·rw [List.mem_singleton.1 hd]
    omega
 unfold qi.f
 exact go (min 60 l.length) 0 (by omega) (fun _ h=>nomatch h)
def setL(a b:List Int):Prop:=(∀ x ∈ a,x ∈ b)∧a.length=b.length
instance (a b:List Int):Decidable (setL a b):=inferInstanceAs (Decidable (_∧_))
theorem setE(a b:List Int)(ha:a.length<1000000)(hb:b.length<1000000):Ev (fun k=>qZ.f k a b) (decide (setL a b)):=by
 have row:∀(i:Nat)(hi:i<a.length)(v:Bool),(a[i] ∈ b→Ev (fun k=>qZ.l5 k a b ((i+1:Nat):Int)) v)→(¬ a[i] ∈ b→v=false)→∀(n j:Nat)(w:Bool),j+n=b.length→(w=true→a[i] ∈ b)→(w=false→¬ a[i] ∈ b.take j)→Ev (fun k=>qZ.l18 k a b (i:Int) w (j:Int)) v:=by
  intro i hi v h1 h2 n
  induction n with
  | zero =>
   intro j w hj ht hf
   refine .s (qZ.l18_s · _ _ _ _ _) (.n (by omega) ?_)
   cases w with
   | true =>
    rw [w64n i (by omega)]
    exact .t rfl (h1 (ht rfl))
   | false =>
    have:=hf rfl
    rw [List.take_of_length_le (by omega)]at this
    exact .n Bool.false_ne_true (.cv (h2 this).symm)
  | succ n ih =>
   intro j w hj ht hf
   have hjb:j<b.length:=by omega
   refine .s (qZ.l18_s · _ _ _ _ _) (.t (by omega) ?_)
   rw [w64n j (by omega)]
   cases w with
   | true=>exact .t rfl (ih (j+1) true (by omega) ht (fun e=>nomatch e))
   | false =>
    refine .n Bool.false_ne_true (.t (by omega) (.t (by omega) ?_))
    rw [nth_get _ _ _ hi,nth_get _ _ _ hjb]
    refine ih (j+1) _ (by omega) (fun e=>?_) (fun e=>?_)
    ·rw [beq_iff_eq.1 e]
     exact gM hjb
    ·rw [← List.take_append_getElem hjb,List.mem_append,List.mem_singleton]
     exact fun q=>q.elim (hf rfl) (fun q=>by rw [q,beq_self_eq_true]at e; exact nomatch e)
 have go:∀(n i:Nat),i+n=a.length→Ev (fun k=>qZ.l5 k a b (i:Int)) (decide ((∀ x ∈ a.drop i,x ∈ b)∧a.length=b.length)):=by
  intro n
  induction n with
  | zero =>
   intro i hi
   refine .s (qZ.l5_s · _ _ _) (.n (by omega) (.cv ?_))
   rw [List.drop_eq_nil_of_le (by omega)]
   by_cases c:a.length=b.length
   ·rw [dT ⟨(fun _ h=>nomatch h),c⟩,c,beq_self_eq_true]
   ·rw [dF (fun e=>c e.2)]
    exact beq_eq_false_iff_ne.2 (fun e=>c (by omega))
  | succ n ih =>
   intro i hi
   have h1:i<a.length:=by omega
   refine .s (qZ.l5_s · _ _ _) (.t (by omega) (row i h1 _ (fun hm=>(ih (i+1) (by omega)).v ?_) (fun hm=>?_) b.length 0 false (Nat.zero_add _) (fun e=>nomatch e) (fun _ h=>nomatch h)))
   ·rw [decide_eq_decide,List.drop_eq_getElem_cons h1]
    exact ⟨fun e=>⟨fun x hx=>(List.mem_cons.1 hx).elim (fun q=>q ▸ hm) (e.1 x),e.2⟩,fun e=>⟨fun x hx=>e.1 x (List.mem_cons_of_mem _ hx),e.2⟩⟩
   ·rw [List.drop_eq_getElem_cons h1]
    exact dF (fun e=>hm (e.1 _ List.mem_cons_self))
 have:=go a.length 0 (Nat.zero_add _)
 rw [List.drop_zero]at this
 exact this
def hit(m:qG)(g:Nat)(a:List Int):Prop:=setL a (actL m g)∨∃ s ∈ (nth qD.z m.f6 (g:Int)).f1,setL a s.f1
theorem qEu{a w:List Int}(h:setL a w):setL a (rising w):=⟨fun x hx=>(qCA _ _).2 (h.1 x hx),h.2.trans (qBq _ _).symm⟩
theorem qEv{t:qD}{was now a:List Int}{least epoch:Int}(hl:least≤(a.length:Int))(h:setL a was∨∃ s ∈ t.f1,setL a s.f1):setL a now∨∃ s ∈ (followT t was now least epoch).f1,setL a s.f1:=by
 unfold followT
 by_cases e:was=now
 ·rw [if_pos e,← e]
  exact h
 ·rw [if_neg e]
  refine .inr ?_
  show ∃ s ∈ (if least≤(was.length:Int) then t.f1.filter (fun s => !decide (s.f1=rising was))++[⟨t.f0,rising was⟩] else t.f1),setL a s.f1
  rcases h with h | ⟨s,hs,h⟩
  ·rw [if_pos (by have:=h.2; omega)]
   exact ⟨_,List.mem_append_right _ (List.mem_singleton.2 rfl),qEu h⟩
  ·by_cases c:least≤(was.length:Int)
   ·rw [if_pos c]
    by_cases q:s.f1=rising was
    ·exact ⟨_,List.mem_append_right _ (List.mem_singleton.2 rfl),q ▸ h⟩
    ·exact ⟨s,List.mem_append_left _ (List.mem_filter.2 ⟨hs,by simp [q]⟩),h⟩
   ·rw [if_neg c]
    exact ⟨s,hs,h⟩
theorem qCe{m:qG}{d:qU}(h:(qHW m d).2=0):(qHR m d).2=0∧(qHW m d).1=⟨m.f0+1,m.f1,m.f2,m.f3,(qHR m d).1.f4,(qHR m d).1.f5,qHT m (qHR m d).1⟩:=by
 unfold qHW at h ⊢
 split at h
 ·rename_i c1
  rw [if_pos c1]
  split at h
  ·exact absurd (show (6:Int)=0 from h) (by decide)
  ·rename_i c2
   rw [if_neg c2]
   split at h
   ·rename_i c3
    rw [if_pos c3]
    exact ⟨c3,rfl⟩
   ·rename_i c3
    exact absurd h c3
 ·exact absurd (show (1:Int)=0 from h) (by decide)
theorem qDU{m:qG}(h:May m){d:qU}(ht:(qHR m d).2=0):(qHR m d).1.f6.length=m.f6.length∧∀ g:Nat,¬ (d.f0=10∧d.f5=(g:Int))→nth qD.z (qHR m d).1.f6 (g:Int)=nth qD.z m.f6 (g:Int):=by
 unfold qHR at ht ⊢
 by_cases c1:d.f0=1
 ·rw [if_pos c1]at ht ⊢
  unfold addL
  repeat' split
  all_goals exact ⟨rfl,fun _ _=>rfl⟩
 rw [if_neg c1]at ht ⊢
 by_cases c8:d.f0=8
 ·rw [if_pos c8]at ht ⊢
  unfold pinL
  repeat' split
  all_goals exact ⟨rfl,fun _ _=>rfl⟩
 rw [if_neg c8]at ht ⊢
 by_cases c9:d.f0=9
 ·rw [if_pos c9]
  exact ⟨rfl,fun _ _=>rfl⟩
 rw [if_neg c9]at ht ⊢
 by_cases c10:d.f0=10
 ·rw [if_pos c10]
  unfold cleanL
  by_cases q:0≤d.f5∧d.f5<m.f3
  ·rw [if_pos q]
   split
   ·exact ⟨rfl,fun _ _=>rfl⟩
   ·split
    ·exact ⟨rfl,fun _ _=>rfl⟩
    ·refine ⟨List.length_set,fun g hg=>?_⟩
     have:d.f5.toNat≠g:=fun e=>hg ⟨c10,by omega⟩
     show nth qD.z (m.f6.set d.f5.toNat _) (g:Int)=_
     simp [nth,List.getD_eq_getElem?_getD,List.getElem?_set_ne this]
  ·rw [if_neg q]
   exact ⟨rfl,fun _ _=>rfl⟩
 rw [if_neg c10]
 split
 ·unfold nodeL
  repeat' split
  all_goals exact ⟨rfl,fun _ _=>rfl⟩
 ·exact ⟨rfl,fun _ _=>rfl⟩
theorem qDs{m:qG}(h:May m){d:qU}(he:(qHW m d).2=0){g:Nat}(hg:(g:Int)<m.f3)(hc:¬ (d.f0=10∧d.f5=(g:Int))){a:List Int}(hl:m.f2≤(a.length:Int))(hh:hit m g a):hit (qHW m d).1 g a:=by
 obtain ⟨ht,hx⟩:=qCe he
 obtain ⟨s1,s2⟩:=qDU h ht
 have h6:=h.2.2.1
 have hf1:=(qCM (m:=m) (d:=d)).2.1
 have hgl:g<(qHR m d).1.f6.length:=by omega
 have e1:actL (qHW m d).1 (g:Int)=actL (qHR m d).1 (g:Int):=by
  rw [hx]
  unfold actL rawL qHU
  rw [hf1]
 have e2:nth qD.z (qHW m d).1.f6 (g:Int)=followT (nth qD.z m.f6 (g:Int)) (actL m (g:Int)) (actL (qHR m d).1 (g:Int)) m.f2 (m.f0+1):=by
  rw [hx]
  show nth qD.z (qHT m (qHR m d).1) (g:Int)=_
  have hlen:g<(qHT m (qHR m d).1).length:=by unfold qHT; rw [List.length_mapIdx]; exact hgl
  rw [nth_get _ _ _ hlen,← s2 g hc,nth_get _ _ _ hgl]
  exact List.getElem_mapIdx
 unfold hit at hh ⊢
 rw [e1,e2]
 exact qEv hl hh
def Found(m:qG)(A:Nat→List (List Int)):Prop:=∀ g:Nat,(g:Int)<m.f3→∀ a ∈ A g,m.f2≤(a.length:Int)∧a.length≤3∧hit m g a
theorem nthL(l:List (List Int))(i:Nat)(h:i<l.length):nth [] l (i:Int)=l[i]:=nth_get _ _ _ h
theorem lastly{m:qG}(h:May m){b:Nat}(hb:b≤90000)(hP:Pasts b m){A:Nat→List (List Int)}(hA:∀ j,(A j).length≤100)(hF:Found m A)(aw:Ev (fun k=>(qAT.f k).bind fun t=>some t) true):Ev (fun k=>qC.l371 k (A 0) (A 1) (A 2) (A 3) (A 4) (A 5) (A 6) (A 7) m.f0 m.f1 m.f2 m.f3 m.f4 m.f5 m.f6 0) true:=by
 have h3:=h.1.2.2.2.1
 have h6:=h.2.2.1
 have hz:=h.sized (by omega) hP
 obtain ⟨N,hN⟩:∃ N:Nat,(N:Int)=m.f3:=⟨m.f3.toNat,by omega⟩
 have go:∀(n g:Nat),g+n=N→Ev (fun k=>qC.l371 k (A 0) (A 1) (A 2) (A 3) (A 4) (A 5) (A 6) (A 7) m.f0 m.f1 m.f2 m.f3 m.f4 m.f5 m.f6 (g:Int)) true:=by
  intro n
  induction n with
  | zero=>exact fun g hg=>.s (qC.l371_s · _ _ _ _ _ _ _ _ _ _ _ _ _ _ _ _) (.n (by omega) aw)
  | succ n ih =>
   intro g hg
   have ih:=ih (g+1) (by omega)
   have e2:actM m g=actL m g:=if_pos ⟨h,by omega,by omega⟩
   have ha:=(qDr h g).2.1
   have hm1:=h.1.2.1
   have hg6:g<m.f6.length:=by omega
   have hg8:g=0∨g=1∨g=2∨g=3∨g=4∨g=5∨g=6∨g=7:=by omega
   have hpl:=hP _ (gM hg6)
   have hsl:=qCV h _ (gM hg6)
   refine .s (qC.l371_s · _ _ _ _ _ _ _ _ _ _ _ _ _ _ _ _) (.t (by omega) (.b (mActing m hz.small g) ?_))
   rw [e2]
   have row:∀(p i:Nat),i+p=(A g).length→Ev (fun k=>qC.l391 k (A 0) (A 1) (A 2) (A 3) (A 4) (A 5) (A 6) (A 7) m.f0 m.f1 m.f2 m.f3 m.f4 m.f5 m.f6 (actL m g) (g:Int) (i:Int)) true:=by
    intro p
    induction p with
    | zero =>
     intro i hi
     have last:Ev (fun k=>qC.j407 k (A 0) (A 1) (A 2) (A 3) (A 4) (A 5) (A 6) (A 7) m.f0 m.f1 m.f2 m.f3 m.f4 m.f5 m.f6 (actL m g) (i:Int) (g:Int) (decide ((i:Int)<((A g).length:Int)))) true:=by
      rw [dF (by omega)]
      refine .s (qC.j407_s · _ _ _ _ _ _ _ _ _ _ _ _ _ _ _ _ _ _ _) (.n Bool.false_ne_true ?_)
      rw [w64n g (by omega)]
      exact ih
     refine .s (qC.l391_s · _ _ _ _ _ _ _ _ _ _ _ _ _ _ _ _ _ _) ?_
     rcases hg8 with rfl | rfl | rfl | rfl | rfl | rfl | rfl | rfl
     all_goals (repeat (refine .n (by decide) ?_))
     all_goals exact .t (by decide) last
    | succ p ihp =>
     intro i hi
     have ihp:=ihp (i+1) (by omega)
     have h1:i<(A g).length:=by omega
     obtain ⟨q1,q2,q3⟩:=hF g (by omega) _ (gM h1)
     have span:∀(s x:Nat)(w:Bool),x+s=(m.f6[g]).f1.length→(w=true∨∃ y ∈ (m.f6[g]).f1.drop x,setL (A g)[i] y.f1)→Ev (fun k=>qC.l531 k (A 0) (A 1) (A 2) (A 3) (A 4) (A 5) (A 6) (A 7) m.f0 m.f1 m.f2 m.f3 m.f4 m.f5 m.f6 (actL m g) (i:Int) (g:Int) w (x:Int)) true:=by
      intro s
      induction s with
      | zero =>
       intro x w hx hw
       rw [List.drop_eq_nil_of_le (by omega)]at hw
       obtain rfl:w=true:=hw.elim id (fun ⟨_,hy,_⟩=>nomatch hy)
       refine .s (qC.l531_s · _ _ _ _ _ _ _ _ _ _ _ _ _ _ _ _ _ _ _ _) (.t (by omega) ?_)
       rw [nth_get _ _ _ hg6]
       refine .n (by omega) (.t rfl ?_)
       rw [w64n i (by have:=hA g; omega)]
       exact ihp
      | succ s ihs =>
       intro x w hx hw
       have hx1:x<(m.f6[g]).f1.length:=by omega
       have step:∀ w':Bool,(w'=true∨∃ y ∈ (m.f6[g]).f1.drop (x+1),setL (A g)[i] y.f1)→_:=fun w' q=>ihs (x+1) w' (by omega) q
       have hsx:=hsl _ (gM hx1)
       have hset:Ev (fun k=>qZ.f k (nth [] (A g) (i:Int)) (nth qF.z (nth qD.z m.f6 (g:Int)).f1 (x:Int)).f1) (decide (setL (A g)[i] ((m.f6[g]).f1[x]).f1)):=by
        rw [nthL _ i h1,nth_get _ _ _ hg6,nth_get _ _ _ hx1]
        exact setE (A g)[i] ((m.f6[g]).f1[x]).f1 (by omega) (by omega)
       have hb1:0≤(i:Int)∧(i:Int)<((A g).length:Int):=by omega
       have hb2:0≤(g:Int)∧(g:Int)<(m.f6.length:Int):=by omega
       have hb3:0≤(x:Int)∧(x:Int)<((nth qD.z m.f6 (g:Int)).f1.length:Int):=by
        rw [nth_get _ _ _ hg6]
        omega
       refine .s (qC.l531_s · _ _ _ _ _ _ _ _ _ _ _ _ _ _ _ _ _ _ _ _) (.t (by omega) ?_)
       rw [nth_get _ _ _ hg6,w64n x (by omega)]
       refine .t (by omega) ?_
       cases w with
       | true=>exact .t rfl (step true (.inl rfl))
       | false =>
        have hw':decide (setL (A g)[i] ((m.f6[g]).f1[x]).f1)=true∨∃ y ∈ (m.f6[g]).f1.drop (x+1),setL (A g)[i] y.f1:=by
         rcases hw with hw | ⟨y,hy,hw⟩
         ·exact nomatch hw
         ·rw [List.drop_eq_getElem_cons hx1]at hy
          rcases List.mem_cons.1 hy with rfl | hy
          ·exact .inl (dT hw)
          ·exact .inr ⟨y,hy,hw⟩
        have st:=step _ hw'
        have hst:=step _ hw'
        refine .n Bool.false_ne_true ?_
        rcases hg8 with rfl | rfl | rfl | rfl | rfl | rfl | rfl | rfl
        all_goals (repeat (refine .n (by decide) ?_))
        all_goals exact .t (by decide) (.t hb1 (.t hb2 (.t hb3 (.b hset hst))))
     have first:Ev (fun k=>qC.j407 k (A 0) (A 1) (A 2) (A 3) (A 4) (A 5) (A 6) (A 7) m.f0 m.f1 m.f2 m.f3 m.f4 m.f5 m.f6 (actL m g) (i:Int) (g:Int) (decide ((i:Int)<((A g).length:Int)))) true:=by
      rw [dT (by omega)]
      have hset:Ev (fun k=>qZ.f k (nth [] (A g) (i:Int)) (actL m g)) (decide (setL (A g)[i] (actL m g))):=by
       rw [nthL _ i h1]
       exact setE _ _ (by omega) (by omega)
      have hb1:0≤(i:Int)∧(i:Int)<((A g).length:Int):=by omega
      have hq:decide (setL (A g)[i] (actL m g))=true∨∃ y ∈ (m.f6[g]).f1.drop 0,setL (A g)[i] y.f1:=by
       unfold hit at q3
       rw [nth_get _ _ _ hg6]at q3
       exact q3.elim (fun e=>.inl (dT e)) (fun e=>.inr e)
      have hst:Ev (fun k=>qC.j521 k (A 0) (A 1) (A 2) (A 3) (A 4) (A 5) (A 6) (A 7) m.f0 m.f1 m.f2 m.f3 m.f4 m.f5 m.f6 (actL m g) (i:Int) (g:Int) (decide (setL (A g)[i] (actL m g)))) true:=.s (qC.j521_s · _ _ _ _ _ _ _ _ _ _ _ _ _ _ _ _ _ _ _) (span _ 0 _ (Nat.zero_add _) hq)
      refine .s (qC.j407_s · _ _ _ _ _ _ _ _ _ _ _ _ _ _ _ _ _ _ _) (.t rfl ?_)
      rcases hg8 with rfl | rfl | rfl | rfl | rfl | rfl | rfl | rfl
      all_goals (repeat (refine .n (by decide) ?_))
      all_goals exact .t (by decide) (.t hb1 (.b hset hst))
     refine .s (qC.l391_s · _ _ _ _ _ _ _ _ _ _ _ _ _ _ _ _ _ _) ?_
     rcases hg8 with rfl | rfl | rfl | rfl | rfl | rfl | rfl | rfl
     all_goals (repeat (refine .n (by decide) ?_))
     all_goals exact .t (by decide) first
   exact row _ 0 (Nat.zero_add _)
 exact go N 0 (Nat.zero_add _)
def pushA(A:Nat→List (List Int))(g:Nat)(a:List Int):Nat→List (List Int):=fun j=>if j=g then A j++[a] else A j
def wipeA(A:Nat→List (List Int))(g:Nat):Nat→List (List Int):=fun j=>if j=g then [] else A j
theorem qGb{m:qG}{d:qU}(h:d.f0=10)(he:(qHW m d).2=0):0≤d.f5∧d.f5<m.f3:=by
 have ht:=(qCe he).1
 unfold qHR at ht
 rw [if_neg (by omega),if_neg (by omega),if_neg (by omega),if_pos h]at ht
 unfold cleanL at ht
 split at ht
 ·rename_i c
  exact c
 ·exact absurd (show (1:Int)=0 from ht) (by decide)
theorem acts(l:List qU)(hl:l.length≤60)(aw:Ev (fun k=>(qAT.f k).bind fun t=>some t) true):∀(n i:Nat),i+n=l.length→∀(m:qG)(A:Nat→List (List Int)),May m→Pasts (20+i) m→(∀ j,(A j).length≤i)→Found m A→Ev (fun k=>qC.l85 k l (i:Int) (A 0) (A 1) (A 2) (A 3) (A 4) (A 5) (A 6) (A 7) m.f0 m.f1 m.f2 m.f3 m.f4 m.f5 m.f6) true:=by
 intro n
 induction n with
 | zero =>
  intro i hi m A h hP hA hF
  exact .s (qC.l85_s · _ _ _ _ _ _ _ _ _ _ _ _ _ _ _ _ _) (.n (by omega) (lastly h (by omega) hP (fun j=>by have:=hA j; omega) hF aw))
 | succ n ih =>
  intro i hi m A h hP hA hF
  have h1:i<l.length:=by omega
  have h3:=h.1.2.2.2.1
  have hz:=h.sized (by omega) hP
  obtain ⟨N,hN⟩:∃ N:Nat,(N:Int)=m.f3:=⟨m.f3.toNat,by omega⟩
  have push:∀(n g:Nat)(A:Nat→List (List Int)),g+n=N→(∀ j,(A j).length≤i+(if j<g then 1 else 0))→Found m A→Ev (fun k=>qC.l129 k l (i:Int) m.f0 m.f1 m.f2 m.f3 m.f4 m.f5 m.f6 (g:Int) (A 0) (A 1) (A 2) (A 3) (A 4) (A 5) (A 6) (A 7)) true:=by
   intro n
   induction n with
   | zero =>
    intro g A hg hA hF
    have hA':∀ j,(A j).length≤i+1:=fun j=>by have:=hA j; split at this <;> omega
    have nxt:∀ B:Nat→List (List Int),(∀ j,(B j).length≤i+1)→Found (qHW m l[i]).1 B→Ev (fun k=>qC.j343 k l (i:Int) (qHW m l[i]) (B 0) (B 1) (B 2) (B 3) (B 4) (B 5) (B 6) (B 7)) true:=by
     intro B hB hFB
     refine .s (qC.j343_s · _ _ _ _ _ _ _ _ _ _ _) ?_
     rw [w64n i (by omega)]
     exact ih (i+1) (by omega) _ B (qFy h _) (by have:=qEM hP l[i]; exact this) hB hFB
    have stay:¬ ((qHW m l[i]).2=0∧l[i].f0=10)→Ev (fun k=>qC.j283 k l (i:Int) (A 0) (A 1) (A 2) (A 3) (A 4) (A 5) (A 6) (A 7) (qHW m l[i]) false) true:=by
     intro hno
     refine .s (qC.j283_s · _ _ _ _ _ _ _ _ _ _ _ _) (.n Bool.false_ne_true (nxt A hA' ?_))
     by_cases he:(qHW m l[i]).2=0
     ·intro g hg a ha
      have hx:=(qCe he).2
      rw [hx]at hg ⊢
      obtain ⟨q1,q2,q3⟩:=hF g hg a ha
      refine ⟨q1,q2,?_⟩
      rw [← hx]
      exact qDs h he hg (fun e=>hno ⟨he,e.1⟩) q1 q3
     ·rw [qGC he]
      exact hF
    refine .s (qC.l129_s · _ _ _ _ _ _ _ _ _ _ _ _ _ _ _ _ _ _) (.n (by omega) (.t (by omega) ?_))
    rw [nth_get _ _ _ h1]
    refine .b (apply m hz.small l[i] (by omega) hP) ?_
    rw [if_pos h]
    by_cases he:(qHW m l[i]).2=0
    ·refine .t he ?_
     by_cases hk:l[i].f0=10
     ·rw [hk]
      obtain ⟨hc0,hc1⟩:=qGb hk he
      obtain ⟨c,hc⟩:∃ c:Nat,l[i].f5=(c:Int):=⟨l[i].f5.toNat,by omega⟩
      have hB:∀ j,(wipeA A c j).length≤i+1:=fun j=>by
       unfold wipeA
       split
       ·exact Nat.zero_le _
       ·exact hA' j
      have hw:=nxt (wipeA A c) hB (by
       intro g hg a ha
       have hx:=(qCe he).2
       rw [hx]at hg ⊢
       by_cases hgc:g=c
       ·unfold wipeA at ha
        rw [if_pos hgc]at ha
        exact nomatch ha
       ·unfold wipeA at ha
        rw [if_neg hgc]at ha
        obtain ⟨q1,q2,q3⟩:=hF g hg a ha
        refine ⟨q1,q2,?_⟩
        rw [← hx]
        exact qDs h he hg (fun e=>by have:=e.2; omega) q1 q3)
      have hc8:c=0∨c=1∨c=2∨c=3∨c=4∨c=5∨c=6∨c=7:=by omega
      refine .s (qC.j283_s · _ _ _ _ _ _ _ _ _ _ _ _) (.t (by decide) ?_)
      rw [nth_get _ _ _ h1]
      rcases hc8 with rfl | rfl | rfl | rfl | rfl | rfl | rfl | rfl
      all_goals (repeat (refine .n (by omega) ?_))
      all_goals exact .t (by omega) hw
     ·rw [show (l[i].f0 == 10)=false from beq_eq_false_iff_ne.2 hk]
      exact stay (fun e=>hk e.2)
    ·exact .n he (stay (fun e=>he e.1))
   | succ n ihp =>
    intro g A hg hA hF
    have e2:actM m g=actL m g:=if_pos ⟨h,by omega,by omega⟩
    have ha:=(qDr h g).2.1
    have hm1:=h.1.2.1
    have hg8:g=0∨g=1∨g=2∨g=3∨g=4∨g=5∨g=6∨g=7:=by omega
    have hAg:=hA g
    rw [if_neg (Nat.lt_irrefl g)]at hAg
    have more:∀ B:Nat→List (List Int),(∀ j,(B j).length≤(A j).length+(if j=g then 1 else 0))→Found m B→Ev (fun k=>qC.l129 k l (i:Int) m.f0 m.f1 m.f2 m.f3 m.f4 m.f5 m.f6 (w64 ((g:Int)+1)) (B 0) (B 1) (B 2) (B 3) (B 4) (B 5) (B 6) (B 7)) true:=by
     intro B hB hFB
     rw [w64n g (by omega)]
     refine ihp (g+1) B (by omega) (fun j=>?_) hFB
     have q1:=hB j
     have q2:=hA j
     by_cases c:j=g
     ·rw [if_pos c]at q1
      rw [if_neg (by omega)]at q2
      rw [if_pos (by omega)]
      omega
     ·rw [if_neg c]at q1
      by_cases c2:j<g
      ·rw [if_pos c2]at q2
       rw [if_pos (by omega)]
       omega
      ·rw [if_neg c2]at q2
       rw [if_neg (by omega)]
       omega
    refine .s (qC.l129_s · _ _ _ _ _ _ _ _ _ _ _ _ _ _ _ _ _ _) (.t (by omega) (.b (mActing m hz.small g) ?_))
    rw [e2]
    refine .i (fun hmin=>?_) (fun _=>more A (fun j=>Nat.le_add_right _ _) hF)
    have hp:=more (pushA A g (actL m g)) (fun j=>by
     unfold pushA
     split
     ·rw [lA,List.length_singleton]
      exact Nat.le_refl _
     ·exact Nat.le_refl _) (by
     intro g' hg' a ha'
     unfold pushA at ha'
     split at ha'
     ·rename_i e
      rcases List.mem_append.1 ha' with q | q
      ·exact hF g' hg' a q
      ·rw [List.mem_singleton.1 q,e]
       exact ⟨hmin,by omega,.inl ⟨fun _ hx=>hx,rfl⟩⟩
     ·exact hF g' hg' a ha')
    have hlen:(((A g).length:Int)+((1:Nat):Int)) * 24≤140737488355328:=by omega
    rcases hg8 with rfl | rfl | rfl | rfl | rfl | rfl | rfl | rfl
    all_goals (repeat (refine .n (by decide) ?_))
    all_goals exact .t (by decide) (.t hlen hp)
  refine .s (qC.l85_s · _ _ _ _ _ _ _ _ _ _ _ _ _ _ _ _ _) (.t (by omega) ?_)
  exact push N 0 A (Nat.zero_add _) (fun j=>by have:=hA j; omega) hF
theorem awake(k:Nat):qAT.f (k+1500)=some true:=by kernel_rfl
theorem awakes:Ev (fun k=>qAT.f k) true:=⟨1500,fun k hk=>by
 obtain ⟨k,rfl⟩:∃ m,k=m+1500:=⟨k - 1500,by omega⟩
 exact awake k⟩
end Maps
open Maps in
theorem pureMapsTrails:PureMapsTrails:=by
 intro m l _ _
 refine Ev.one (f:=fun k=>qC.f k m l) (v:=true) ?_
 have aw:Ev (fun k=>(qAT.f k).bind fun t=>some t) true:=.b Maps.awakes (.c _)
 have out:Ev (fun k=>qC.j19 k m l true) true:=.s (qC.j19_s · _ _ _) (.t rfl aw)
 unfold qC.f
 obtain ⟨b,hb,hL⟩:=Maps.light m
 refine .b hb ?_
 cases b with
 | false=>exact .n Bool.false_ne_true out
 | true =>
  have h8:=hL rfl
  obtain ⟨b2,hb2,hD⟩:=Maps.deltasG l
  refine .t rfl (.b hb2 ?_)
  cases b2 with
  | false=>exact .n Bool.false_ne_true out
  | true =>
   obtain ⟨hl60,hld⟩:=hD rfl
   refine .t rfl (.b (may m h8.small) ?_)
   by_cases h:May m
   ·rw [dT h]
    refine .t rfl ?_
    by_cases he:m.f0>1000000
    ·rw [dT he]
     exact out
    rw [dF he]
    refine .s (qC.j19_s · _ _ _) (.n Bool.false_ne_true ?_)
    exact acts l hl60 aw l.length 0 (Nat.zero_add _) m (fun _=>[]) h h8.pasts (fun _=>Nat.le_refl _) (fun g hg a ha=>nomatch ha)
   ·rw [dF h]
    exact .n Bool.false_ne_true out
end Go.Proofs.YtpohepinmjmbkaaGreat.MX
