import Derived.Test.YtpohepinmjmbkaaGreatQKoQuorumKeeps
import Derived.Test.YtpohepinmjmbkaaGreatMixn
import Derived.Test.YtpohepinmjmbkaaGreatNegn
namespace Go.Proofs.YtpohepinmjmbkaaGreat.QK
open Go Go.RowKit Go.Proofs.YtpohepinmjmbkaaGreat Go.Proofs.YtpohepinmjmbkaaGreat.Sl
set_option linter.unusedVariables false
set_option linter.unusedSimpArgs false
theorem dT{p:Prop}[Decidable p](h:p):decide p=true:=_root_.decide_eq_true h
theorem dF{p:Prop}[Decidable p](h:¬ p):decide p=false:=_root_.decide_eq_false h
theorem oT{p:Prop}[Decidable p](h:decide p=true):p:=_root_.of_decide_eq_true h
theorem nF:false≠true:=Bool.false_ne_true
theorem gM{α : Type}{l:List α}{n:Nat}(h:n<l.length):l[n] ∈ l:=List.getElem_mem h
theorem tN(n:Nat):(n:Int).toNat=n:=Int.toNat_natCast n
theorem lA{α : Type}{a b:List α}: (a++b).length=a.length+b.length:=List.length_append
theorem w64n(i:Nat)(h:i<9223372036854775807):w64 ((i:Int)+1)=((i+1:Nat):Int):=by rw [qCI (by omega) (by omega)]; omega
theorem w64p(i:Nat)(h:i<9223372036854775807)(h0:0<i):w64 ((i:Int) - 1)=((i - 1:Nat):Int):=by rw [qCI (by omega) (by omega)]; omega
theorem nth_get{α : Type}(z : α)(l:List α)(i:Nat)(h:i<l.length):nth z l (i:Int)=l[i]:=by simp [nth,h]
def Ev{β : Type}(f:Nat→Option β)(v : β):Prop:=∃ K,∀ k,K≤k→f k=some v
theorem Ev.c{β : Type}(v : β):Ev (fun _=>some v) v:=⟨0,fun _ _=>rfl⟩
theorem Ev.cv{β : Type}{v w : β}(h:v=w):Ev (fun _=>some v) w:=⟨0,fun _ _=>congrArg some h⟩
theorem Ev.v{β : Type}{f:Nat→Option β}{v w : β}(h:Ev f v)(e:v=w):Ev f w:=e ▸ h
theorem Ev.s{β : Type}{f g:Nat→Option β}{v : β}(h:∀ k,f (k+1)=g k)(hg:Ev g v):Ev f v:=by
 obtain ⟨K,hK⟩:=hg
 refine ⟨K+1,fun k hk=>?_⟩
 obtain ⟨k,rfl⟩:∃ m,k=m+1:=⟨k - 1,by omega⟩
 rw [h]
 exact hK k (by omega)
theorem Ev.b{α β : Type}{f:Nat→Option α}{g:Nat→α→Option β}{a : α}{v : β}(hf:Ev f a)(hg:Ev (fun k=>g k a) v):Ev (fun k=>(f k).bind (g k)) v:=by
 obtain ⟨K,hK⟩:=hf
 obtain ⟨L,hL⟩:=hg
 refine ⟨K+L,fun k hk=>?_⟩
 show (f k).bind (g k)=some v
 rw [hK k (by omega),Option.bind_some]
 exact hL k (by omega)
theorem Ev.b0{α β : Type}{o:Option α}{g:Nat→α→Option β}{a : α}{v : β}(ho:o=some a)(hg:Ev (fun k=>g k a) v):Ev (fun k=>o.bind (g k)) v:=Ev.b ⟨0,fun _ _=>ho⟩ hg
theorem Ev.i{β : Type}{c:Prop}[Decidable c]{f g:Nat→Option β}{v : β}(hf:c→Ev f v)(hg:¬ c→Ev g v):Ev (fun k=>if c then f k else g k) v:=by
 by_cases h:c
 ·simpa only [if_pos h] using hf h
 ·simpa only [if_neg h] using hg h
theorem Ev.t{β : Type}{c:Prop}[Decidable c]{f g:Nat→Option β}{v : β}(h:c)(hf:Ev f v):Ev (fun k=>if c then f k else g k) v:=Ev.i (fun _=>hf) (fun n=>absurd h n)
theorem Ev.n{β : Type}{c:Prop}[Decidable c]{f g:Nat→Option β}{v : β}(h:¬ c)(hg:Ev g v):Ev (fun k=>if c then f k else g k) v:=Ev.i (fun n=>absurd n h) (fun _=>hg)
theorem Ev.one{α : Type}{f:Nat→Option α}{v : α}(hf:Ev f v):∃ k,f k=some v:=by
 obtain ⟨K,hK⟩:=hf
 exact ⟨K,hK _ (by omega)⟩
def eno:Bool→Int
 | true=>0
 | false=>1
def Ht{β : Type}(f:Nat→Option β)(P : β→Prop):Prop:=∃ v,Ev f v∧P v
theorem Ht.c{β : Type}{v : β}{P : β→Prop}(h:P v):Ht (fun _=>some v) P:=⟨v,.c v,h⟩
theorem Ht.s{β : Type}{f g:Nat→Option β}{P : β→Prop}(h:∀ k,f (k+1)=g k):Ht g P→Ht f P:=fun ⟨v,e,p⟩=>⟨v,.s h e,p⟩
theorem Ht.b{α β : Type}{f:Nat→Option α}{g:Nat→α→Option β}{Q : α→Prop}{P : β→Prop}: Ht f Q→(∀ a,Q a→Ht (fun k=>g k a) P)→Ht (fun k=>(f k).bind (g k)) P:=fun ⟨a,e,q⟩ h=>by
 obtain ⟨v,e2,p⟩:=h a q
 exact ⟨v,.b e e2,p⟩
theorem Ht.e{α β : Type}{f:Nat→Option α}{g:Nat→α→Option β}{a : α}{P : β→Prop}(e:Ev f a):Ht (fun k=>g k a) P→Ht (fun k=>(f k).bind (g k)) P:=fun ⟨v,e2,p⟩=>⟨v,.b e e2,p⟩
theorem Ht.o{α β : Type}{o:Option α}{g:Nat→α→Option β}{a : α}{P : β→Prop}(e:o=some a):Ht (fun k=>g k a) P→Ht (fun k=>o.bind (g k)) P:=fun ⟨v,e2,p⟩=>⟨v,.b0 e e2,p⟩
theorem Ht.i{β : Type}{c:Prop}[Decidable c]{f g:Nat→Option β}{P : β→Prop}(hf:c→Ht f P)(hg:¬ c→Ht g P):Ht (fun k=>if c then f k else g k) P:=by
 by_cases h:c
 ·simpa only [if_pos h] using hf h
 ·simpa only [if_neg h] using hg h
theorem Ht.t{β : Type}{c:Prop}[Decidable c]{f g:Nat→Option β}{P : β→Prop}(h:c)(hf:Ht f P):Ht (fun k=>if c then f k else g k) P:=.i (fun _=>hf) (fun n=>absurd h n)
theorem Ht.n{β : Type}{c:Prop}[Decidable c]{f g:Nat→Option β}{P : β→Prop}(h:¬ c)(hg:Ht g P):Ht (fun k=>if c then f k else g k) P:=.i (fun n=>absurd n h) (fun _=>hg)
namespace Topo
theorem tin(x a b:Int):qBo.f x a b=some (decide (a≤x∧x≤b)):=by
 unfold qBo.f
 by_cases h:x≥a
 ·rw [if_pos h]
  congr 1
  simp only [decide_eq_decide]
  omega
 ·rw [if_neg h,dF (by omega)]
def okN(n:qA):Prop:=(1≤n.f0∧n.f0≤999)∧(1≤n.f1∧n.f1≤9)∧(1≤n.f2∧n.f2≤9)∧0≤n.f3∧n.f3≤65536
instance (n:qA):Decidable (okN n):=inferInstanceAs (Decidable (_∧_))
def rise:Int→List qA→Bool
 | _,[]=>true
 | p,n :: l=>decide (okN n∧p<n.f0)&&rise n.f0 l
def pre(l:List qA)(i:Nat):Int:=if i=0 then 0 else (nth qA.z l (w64 ((i:Int) - 1))).f0
theorem qFD(l:List qA)(i:Nat)(h:i<l.length)(hl:l.length<4611686018427387904):pre l (i+1)=l[i].f0:=by
 unfold pre
 rw [if_neg (by omega),w64p (i+1) (by omega) (by omega),show i+1 - 1=i by omega,nth_get _ _ _ h]
def Nodes(l:List qA):Prop:=l.length≤12∧rise 0 l=true
instance (l:List qA):Decidable (Nodes l):=inferInstanceAs (Decidable (_∧_))
theorem check_l9(l:List qA)(hl:l.length<4611686018427387904):∀(d i:Nat),i+d=l.length→Ev (fun k=>qAL.l9 k l (i:Int)) (eno (rise (pre l i) (l.drop i))):=by
 intro d
 induction d with
 | zero =>
  intro i hi
  refine .s (qAL.l9_s · _ _) (.n (by omega) (.cv ?_))
  rw [List.drop_eq_nil_of_le (by omega)]
  rfl
 | succ d ih =>
  intro i hi
  have h1:i<l.length:=by omega
  refine .s (qAL.l9_s · _ _) (.t (by omega) (.t (by omega) ?_))
  have ih:=ih (i+1) (by omega)
  rw [qFD l i h1 hl]at ih
  rw [List.drop_eq_getElem_cons h1,nth_get _ _ _ h1]
  have hj:∀ b:Bool,(b=true↔¬ (okN l[i]∧pre l i<l[i].f0))→Ev (fun k=>qAL.j49 k l (i:Int) b) (eno (rise (pre l i) (l[i] :: l.drop (i+1)))):=by
   intro b hb
   refine .s (qAL.j49_s · _ _ _) ?_
   simp only [rise]
   by_cases h:okN l[i]∧pre l i<l[i].f0
   ·refine .n (fun e=>(hb.1 e) h) ?_
    rw [w64n i (by omega),dT h,Bool.true_and]
    exact ih
   ·refine .t (hb.2 h) (.cv ?_)
    rw [dF h,Bool.false_and]
    rfl
  clear ih
  have hp0:i=0→pre l i=0:=fun e=>if_pos e
  have hp1:i≠0→(nth qA.z l (w64 ((i:Int) - 1))).f0=pre l i:=fun e=>(if_neg e).symm
  have hw:i≠0→w64 ((i:Int) - 1)=((i - 1:Nat):Int):=fun e=>w64p i (by omega) (by omega)
  unfold okN at hj
  generalize hv:eno (rise (pre l i) (l[i] :: l.drop (i+1)))=v at hj ⊢
  clear hv
  generalize pre l i=p at *
  generalize (nth qA.z l (w64 ((i:Int) - 1))).f0=q at *
  generalize l[i]=n at *
  repeat' (first | refine Ev.b0 (tin _ _ _) ?_ | refine Ev.i (fun _=>?_) (fun _=>?_))
  all_goals simp only [decide_eq_true_eq]at *
  all_goals first
   | exact hj _ (by simp only [decide_eq_true_eq,Bool.false_eq_true,true_iff,false_iff]; omega)
   | (exfalso; omega)
theorem check'(l:List qA):Ev (fun k=>qAL.f k l) (eno (decide (Nodes l))):=by
 unfold qAL.f
 refine .i (fun h=>.cv ?_) (fun h=>(check_l9 l (by omega) l.length 0 (by omega)).v ?_)
 ·rw [dF (fun n:Nodes l=>by have:=n.1; omega)]
  rfl
 ·rw [show pre l 0=0 from rfl,List.drop_zero]
  congr 1
  rw [Bool.eq_iff_iff,decide_eq_true_eq]
  exact ⟨fun h0=>⟨by omega,h0⟩,fun n=>n.2⟩
theorem check(l:List qA)(_:l.length<4611686018427387904):Ev (fun k=>qAL.f k l) (eno (decide (Nodes l))):=check' l
theorem qIG(l:List qA)(hl:l.length<4611686018427387904):∀(d i:Nat),i+d=l.length→Ev (fun k=>qo.l5 k l (i:Int)) (rise (pre l i) (l.drop i)&&decide (l.length≤12)):=by
 intro d
 induction d with
 | zero =>
  intro i hi
  refine .s (qo.l5_s · _ _) (.n (by omega) (.cv ?_))
  rw [List.drop_eq_nil_of_le (by omega)]
  simp only [rise,Bool.true_and,decide_eq_decide]
  omega
 | succ d ih =>
  intro i hi
  have h1:i<l.length:=by omega
  refine .s (qo.l5_s · _ _) (.t (by omega) (.t (by omega) ?_))
  have ih:=ih (i+1) (by omega)
  rw [qFD l i h1 hl]at ih
  rw [List.drop_eq_getElem_cons h1,nth_get _ _ _ h1]
  have hj:∀ b:Bool,(b=true↔¬ (okN l[i]∧pre l i<l[i].f0))→Ev (fun k=>qo.j37 k l (i:Int) b) (rise (pre l i) (l[i] :: l.drop (i+1))&&decide (l.length≤12)):=by
   intro b hb
   refine .s (qo.j37_s · _ _ _) ?_
   simp only [rise]
   by_cases h:okN l[i]∧pre l i<l[i].f0
   ·refine .n (fun e=>(hb.1 e) h) ?_
    rw [w64n i (by omega),dT h,Bool.true_and]
    exact ih
   ·refine .t (hb.2 h) (.cv ?_)
    rw [dF h,Bool.false_and,Bool.false_and]
  clear ih
  have hp0:i=0→pre l i=0:=fun e=>if_pos e
  have hp1:i≠0→(nth qA.z l (w64 ((i:Int) - 1))).f0=pre l i:=fun e=>(if_neg e).symm
  have hw:i≠0→w64 ((i:Int) - 1)=((i - 1:Nat):Int):=fun e=>w64p i (by omega) (by omega)
  unfold okN at hj
  generalize hv:(rise (pre l i) (l[i] :: l.drop (i+1))&&decide (l.length≤12))=v at hj ⊢
  clear hv
  generalize pre l i=p at *
  generalize (nth qA.z l (w64 ((i:Int) - 1))).f0=q at *
  generalize l[i]=n at *
  repeat' (first | refine Ev.i (fun _=>?_) (fun _=>?_))
  all_goals first
   | exact hj _ (by simp only [decide_eq_true_eq,Bool.false_eq_true,true_iff,false_iff]; omega)
   | (exfalso; omega)
theorem may(l:List qA)(hl:l.length<4611686018427387904):Ev (fun k=>qo.f k l) (decide (Nodes l)):=by
 unfold qo.f
 refine (qIG l hl l.length 0 (by omega)).v ?_
 rw [show pre l 0=0 from rfl,List.drop_zero,Bool.eq_iff_iff,Bool.and_eq_true,decide_eq_true_eq,decide_eq_true_eq]
 exact And.comm
theorem qGz(l:List Int)(v:Int)(hl:l.length<4611686018427387904):∀(d i:Nat),i+d=l.length→∃ x,Ev (fun k=>qAH.l5 k l v (i:Int)) x∧(0≤x↔v ∈ l.drop i):=by
 intro d
 induction d with
 | zero =>
  intro i hi
  refine ⟨-1,.s (qAH.l5_s · _ _ _) (.n (by omega) (.c _)),?_⟩
  rw [List.drop_eq_nil_of_le (by omega)]
  simp
 | succ d ih =>
  intro i hi
  have h1:i<l.length:=by omega
  obtain ⟨x,hx,hm⟩:=ih (i+1) (by omega)
  by_cases h:v=l[i]
  ·refine ⟨i,.s (qAH.l5_s · _ _ _) (.t (by omega) (.t (by omega) (.t (by rw [nth_get _ _ _ h1]; exact h) (.c _)))),?_⟩
   rw [List.drop_eq_getElem_cons h1]
   exact ⟨fun _=>List.mem_cons.2 (.inl h),fun _=>by omega⟩
  ·refine ⟨x,.s (qAH.l5_s · _ _ _) (.t (by omega) (.t (by omega) (.n (by rw [nth_get _ _ _ h1]; exact h) ?_))),?_⟩
   ·rw [w64n i (by omega)]
    exact hx
   ·rw [List.drop_eq_getElem_cons h1,hm]
    exact ⟨fun m=>List.mem_cons.2 (.inr m),fun m=>(List.mem_cons.1 m).resolve_left h⟩
theorem contains(l:List Int)(v:Int)(hl:l.length<4611686018427387904):Ev (fun k=>qAO.f k l v) (decide (v ∈ l)):=by
 obtain ⟨x,hx,hm⟩:=qGz l v hl l.length 0 (by omega)
 unfold qAO.f qAH.f
 refine .b hx (.cv ?_)
 rw [decide_eq_decide]
 exact hm
end Topo
namespace Draw
theorem u64n(n:Nat)(h:n<18446744073709551616):IntKind.u64.wrap (n:Int)=n:=by rw [IntKind.wrap_u64]; omega
theorem qGE(a b:Nat)(ha:a<18446744073709551616)(hb:b<18446744073709551616):IntKind.u64.wrap (((BitVec.ofInt 64 (a:Int) ^^^ BitVec.ofInt 64 (b:Int)).toNat:Int))=((a ^^^ b:Nat):Int):=by
 have h:(BitVec.ofInt 64 (a:Int) ^^^ BitVec.ofInt 64 (b:Int)).toNat=a ^^^ b:=by
  rw [BitVec.toNat_xor,BitVec.ofInt_natCast,BitVec.ofInt_natCast,BitVec.toNat_ofNat,BitVec.toNat_ofNat,Nat.mod_eq_of_lt (by omega),Nat.mod_eq_of_lt (by omega)]
 rw [h,u64n _ (Mixn.xor_lt ha hb)]
theorem sh_i(x:Nat)(hx:x<18446744073709551616):IntKind.u64.wrap (((BitVec.ofInt 64 (x:Int) ^^^ BitVec.ofInt 64 ((x:Int).fdiv 4294967296)).toNat:Int))=((Mixn.sh x:Nat):Int):=by
 have e:(x:Int).fdiv 4294967296=((x / 4294967296:Nat):Int):=by rw [Int.fdiv_eq_ediv_of_nonneg _ (by omega)]; omega
 rw [e,qGE _ _ hx (by omega)]
 rfl
theorem mf_i(n:Nat):IntKind.u64.wrap ((n:Int) * 15485907386658061715)=((Mixn.mf n:Nat):Int):=by
 rw [IntKind.wrap_u64]
 rfl
theorem mix(x:Nat)(hx:x<18446744073709551616):Ev (fun k=>qBS.f k (x:Int)) ((Mixn.mix x:Nat):Int):=by
 unfold qBS.f
 refine .s (qBS.l6_s · _ _) (.t (by omega) ?_)
 rw [sh_i x hx,mf_i]
 refine .s (qBS.l6_s · _ _) (.t (by decide) ?_)
 rw [sh_i _ (Mixn.mf_lt _),mf_i]
 refine .s (qBS.l6_s · _ _) (.n (by decide) (.cv ?_))
 rw [sh_i _ (Mixn.mf_lt _)]
 rfl
theorem qIH(s n:Nat)(hs:s<18446744073709551616)(hn:n<18446744073709551616):IntKind.u64.wrap ((IntKind.u64.wrap (((BitVec.ofInt 64 (s:Int) ^^^ BitVec.ofInt 64 (n:Int)).toNat:Int)))+11400714819323198485)=((((s ^^^ n)+11400714819323198485) % 18446744073709551616:Nat):Int):=by
 rw [qGE _ _ hs hn,IntKind.wrap_u64]
 rfl
def ofN(l:List Nat):List Int:=l.map Int.ofNat
theorem qHj(l:List Nat)(i:Nat)(h:i<(ofN l).length):(ofN l)[i]=((l[i]'(by simpa [ofN] using h):Nat):Int):=by simp [ofN]
theorem qHA(l:List Nat)(hl:∀ x ∈ l,x<18446744073709551616)(hn:l.length<4611686018427387904):∀(d i s:Nat),i+d=l.length→s<18446744073709551616→Ev (fun k=>qBB.l10 k (ofN l) (s:Int) (i:Int)) (((l.drop i).foldl Mixn.step s:Nat):Int):=by
 have hlen:(ofN l).length=l.length:=List.length_map ..
 intro d
 induction d with
 | zero =>
  intro i s hi hs
  refine .s (qBB.l10_s · _ _ _) (.n (by omega) (.cv ?_))
  rw [List.drop_eq_nil_of_le (by omega)]
  rfl
 | succ d ih =>
  intro i s hi hs
  have h1:i<l.length:=by omega
  refine .s (qBB.l10_s · _ _ _) (.t (by omega) (.t (by omega) ?_))
  rw [nth_get _ _ _ (by omega),qHj,qIH s _ hs (hl _ (gM h1)),w64n i (by omega),List.drop_eq_getElem_cons h1]
  exact .b (mix _ (Nat.mod_lt _ (by decide))) (ih (i+1) _ (by omega) (Mixn.step_lt _ _))
theorem fold(s:Nat)(hs:s<18446744073709551616)(l:List Nat)(hl:∀ x ∈ l,x<18446744073709551616)(hn:l.length<4611686018427387904):Ev (fun k=>qBB.f k (s:Int) (ofN l)) ((Mixn.fold s l:Nat):Int):=by
 unfold qBB.f
 exact .b (mix s hs) (qHA l hl hn l.length 0 _ (by omega) (Mixn.mix_lt _))
theorem qII(z:Nat)(hz:z≤2147483648):IntKind.u64.wrap (Int.tdiv (IntKind.u64.wrap ((z:Int) * (z:Int))) 2147483648)=((z * z / 2147483648:Nat):Int)∧z * z / 2147483648≤2147483648:=by
 have h1:z * z≤2147483648 * 2147483648:=Nat.mul_le_mul hz hz
 have h2:(2147483648:Nat) * 2147483648=4611686018427387904:=by decide
 rw [h2]at h1
 have e:(z:Int) * (z:Int)=((z * z:Nat):Int):=by rw [Int.natCast_mul]
 have h3:z * z / 2147483648≤2147483648:=by omega
 rw [e,u64n _ (by omega),Int.tdiv_eq_ediv_of_nonneg (Int.natCast_nonneg _)]
 have e2:((z * z:Nat):Int) / 2147483648=((z * z / 2147483648:Nat):Int):=by rw [Int.natCast_ediv]; rfl
 rw [e2,u64n _ (by omega)]
 exact ⟨rfl,h3⟩
theorem p16(i:Nat)(h:i≤16):2 ^ i≤65536:=Nat.le_trans (Nat.pow_le_pow_right (by decide) h) (by decide)
theorem qHB(c:Nat)(hc:c≤17):∀(d z f i:Nat),i+d=16→z≤2147483648→f<2 ^ i→Ev (fun k=>qAJ.l31 k (c:Int) (z:Int) (f:Int) (i:Int)) ((c * 65536+Negn.bitsOf d z f:Nat):Int):=by
 intro d
 induction d with
 | zero =>
  intro z f i hi hz hf
  have hp:=p16 i (by omega)
  refine .s (qAJ.l31_s · _ _ _ _) (.n (by omega) (.cv ?_))
  rw [qCI (n:=(c:Int) * 65536) (by omega) (by omega),qCI (by omega) (by omega)]
  rfl
 | succ d ih =>
  intro z f i hi hz hf
  have hp:=p16 i (by omega)
  have hp2:2 ^ (i+1)=2 * 2 ^ i:=by rw [Nat.pow_succ,Nat.mul_comm]
  obtain ⟨e1,h1⟩:=qII z hz
  have w2:w64 ((f:Int) * 2)=((2 * f:Nat):Int):=by rw [qCI (by omega) (by omega)]; omega
  have w3:w64 (((2 * f:Nat):Int)+1)=((2 * f+1:Nat):Int):=w64n _ (by omega)
  refine .s (qAJ.l31_s · _ _ _ _) (.t (by omega) ?_)
  rw [e1,w2,w3,w64n i (by omega),Negn.bitsOf]
  clear w2 w3 e1
  generalize z * z / 2147483648=y at *
  by_cases cy:y≤1073741824
  ·have w4:IntKind.u64.wrap ((y:Int) * 2)=((2 * y:Nat):Int):=by rw [IntKind.wrap_u64]; omega
   rw [if_pos cy]
   refine .t (by omega) ?_
   rw [w4]
   exact ih (2 * y) (2 * f+1) (i+1) (by omega) (by omega) (by omega)
  ·rw [if_neg cy]
   exact .n (by omega) (ih y (2 * f) (i+1) (by omega) (by omega) (by omega))
theorem qHC:∀(d u c:Nat),32768<u * 2 ^ d→u≤65536→c+d≤16→Ev (fun k=>qAJ.l17 k (u:Int) (c:Int)) ((c * 65536+Negn.cst (d+1) u:Nat):Int):=by
 have base:∀(u c n:Nat),32768<u→u≤65536→c≤16→Ev (fun k=>qAJ.l17 k (u:Int) (c:Int)) ((c * 65536+Negn.cst (n+1) u:Nat):Int):=by
  intro u c n h h1 hc
  have w1:IntKind.u64.wrap (IntKind.u64.wrap (u:Int) * 32768)=((u * 32768:Nat):Int):=by rw [u64n _ (by omega),IntKind.wrap_u64]; omega
  refine .s (qAJ.l17_s · _ _) (.n (by omega) ?_)
  rw [w1,Negn.cst_succ,if_neg (by omega)]
  exact qHB c (by omega) 16 (u * 32768) 0 0 (by omega) (by omega) (by decide)
 intro d
 induction d with
 | zero =>
  intro u c h h1 hc
  rw [Nat.pow_zero,Nat.mul_one]at h
  exact base u c 0 h h1 (by omega)
 | succ d ih =>
  intro u c h h1 hc
  by_cases cu:u≤32768
  ·have h2:u * 2 ^ (d+1)=2 * u * 2 ^ d:=by rw [Nat.pow_succ,Nat.mul_comm (2 ^ d) 2,← Nat.mul_assoc,Nat.mul_comm u 2]
   have w1:w64 ((u:Int) * 2)=((2 * u:Nat):Int):=by rw [qCI (by omega) (by omega)]; omega
   refine .s (qAJ.l17_s · _ _) (.t (by omega) ?_)
   rw [w1,w64n c (by omega),Negn.cst_succ,if_pos cu]
   have ih:=ih (2 * u) (c+1) (by omega) (by omega) (by omega)
   generalize Negn.cst (d+1) (2 * u)=y at *
   exact ih.v (congrArg Int.ofNat (by omega))
  ·exact base u c (d+1) (by omega) h1 (by omega)
def costI(a:Int):Int:=if 1≤a∧a≤65536 then ((Negn.cost a.toNat:Nat):Int) else 0
theorem cost(a:Int):Ev (fun k=>qAJ.f k a) (costI a):=by
 have hbad:¬ (1≤a∧a≤65536)→Ev (fun k=>qAJ.j6 k a true) (costI a):=fun h=>.s (qAJ.j6_s · _ _) (.t rfl (.cv (if_neg h).symm))
 unfold qAJ.f
 refine .i (fun h=>hbad (by omega)) (fun h=>?_)
 by_cases h2:a>65536
 ·rw [dT h2]
  exact hbad (by omega)
 ·rw [dF h2]
  obtain ⟨u,rfl⟩:∃ u:Nat,a=u:=⟨a.toNat,by omega⟩
  refine .s (qAJ.j6_s · _ _) (.n (by decide) ((qHC 16 u 0 (by omega) (by omega) (by omega)).v ?_))
  rw [costI,if_pos ⟨by omega,by omega⟩,tN,Nat.zero_mul,Nat.zero_add]
  rfl
def un(a:Int):Nat:=(IntKind.u64.wrap a).toNat
theorem un_eq(a:Int):IntKind.u64.wrap a=(un a:Int)∧un a<18446744073709551616:=by
 unfold un
 rw [IntKind.wrap_u64]
 omega
def dc(key:Nat)(id:Int):Int:=costI (1+((Mixn.fold key [un id] / 281474976710656:Nat):Int))
theorem qFE(key:Nat)(id:Int):0≤dc key id∧dc key id≤1179648:=by
 unfold dc costI
 split
 ·exact ⟨by omega,by have:=Negn.cost_le (1+((Mixn.fold key [un id] / 281474976710656:Nat):Int)).toNat; omega⟩
 ·omega
theorem fold_lt(key:Nat)(n:Nat):Mixn.fold key [n] < 18446744073709551616:=by
 unfold Mixn.fold
 rw [List.foldl_cons,List.foldl_nil]
 exact Mixn.step_lt _ _
theorem dcost(key:Nat)(hkey:key<18446744073709551616)(id:Int):Ev (fun k=>qBg.f k (key:Int) id) (dc key id):=by
 have hlt:=fold_lt key (un id)
 have h1:=fold key hkey [un id] (fun x hx=>by rw [List.mem_singleton.1 hx]; exact (un_eq id).2) (by simp)
 unfold qBg.f
 rw [(un_eq id).1]
 refine .b h1 ?_
 have e:((Mixn.fold key [un id]:Nat):Int).fdiv 281474976710656=((Mixn.fold key [un id] / 281474976710656:Nat):Int):=by rw [Int.fdiv_eq_ediv_of_nonneg _ (by omega)]; omega
 rw [e,qCI (n:=((Mixn.fold key [un id] / 281474976710656:Nat):Int)) (by omega) (by omega),qCI (by omega) (by omega)]
 exact .b (cost _) (.c _)
theorem nin(x:Int):qBQ.f x=some (decide (0≤x∧x≤2147483647)):=by
 unfold qBQ.f
 by_cases h:x≥0
 ·rw [if_pos h]
  congr 1
  rw [decide_eq_decide]
  omega
 ·rw [if_neg h,dF (by omega)]
theorem qGF{a b:Int}(h0:0≤a)(h1:a≤1179648)(h2:0≤b)(h3:b≤65536):w64 (a * b)=a * b:=by
 have h4:0≤a * b:=Int.mul_nonneg h0 h2
 have h5:a * b≤1179648 * 65536:=Int.mul_le_mul h1 h3 h2 (by omega)
 generalize a * b=p at h4 h5 ⊢
 exact qCI (by omega) (by omega)
theorem better{a b c d:Int}(ha:0≤a∧a≤1179648)(hb:1≤b∧b≤65536)(hc:0≤c∧c≤1179648)(hd:1≤d∧d≤65536):qBC.f a b c d=some (decide (a * d<c * b)):=by
 unfold qBC.f
 rw [nin,nin,nin,nin,dT (show 0≤a∧a≤2147483647 by omega),dT (show 0≤b∧b≤2147483647 by omega),dT (show 0≤c∧c≤2147483647 by omega),dT (show 0≤d∧d≤2147483647 by omega)]
 simp only [Option.bind_some,if_true]
 rw [if_pos (by omega),if_pos (by omega),qGF ha.1 ha.2 (by omega) hd.2,qGF hc.1 hc.2 (by omega) hb.2]
def cmpD(key:Nat)(x y:qB):Int:=if dc key x.f0 * y.f1<dc key y.f0 * x.f1 then -1 else if dc key y.f0 * x.f1<dc key x.f0 * y.f1 then 1 else x.f0 - y.f0
def fineC(x:qB):Prop:=(0≤x.f0∧x.f0≤2147483647)∧1≤x.f1∧x.f1≤65536
theorem compare(key:Nat)(hkey:key<18446744073709551616)(x y:qB)(hx:fineC x)(hy:fineC y):Ev (fun k=>qBV.f k (key:Int) x y) (cmpD key x y):=by
 unfold qBV.f cmpD
 refine .b (dcost key hkey _) (.b (dcost key hkey _) ?_)
 have bx:=qFE key x.f0
 have bY:=qFE key y.f0
 have e1:=better bx hx.2 bY hy.2
 have e2:=better bY hy.2 bx hx.2
 have hx1:=hx.1
 have hy1:=hy.1
 refine .b0 e1 ?_
 by_cases h1:dc key x.f0 * y.f1<dc key y.f0 * x.f1
 ·rw [if_pos h1]
  exact .t (dT h1) (.c _)
 ·rw [if_neg h1]
  refine .n (by simpa using h1) (.b0 e2 ?_)
  by_cases h2:dc key y.f0 * x.f1<dc key x.f0 * y.f1
  ·rw [if_pos h2]
   exact .t (dT h2) (.c _)
  ·rw [if_neg h2]
   exact .n (by simpa using h2) (.cv (qCI (by omega) (by omega)))
theorem qHD{a b c d e f:Int}(hb:0<b)(hd:0<d)(hf:0<f)(h1:a * d≤c * b)(h2:c * f≤e * d):a * f≤e * b:=by
 have h3:=Int.mul_le_mul_of_nonneg_right h1 (Int.le_of_lt hf)
 have h4:=Int.mul_le_mul_of_nonneg_right h2 (Int.le_of_lt hb)
 refine Int.le_of_mul_le_mul_right (a:=d) ?_ hd
 rw [Int.mul_right_comm a f d,Int.mul_right_comm e b d]
 rw [Int.mul_right_comm c b f]at h3
 exact Int.le_trans h3 h4
theorem qCs{a b c d e f:Int}(hb:0<b)(hd:0<d)(hf:0<f)(h1:a * d<c * b)(h2:c * f≤e * d):a * f<e * b:=by
 have h3:=Int.mul_lt_mul_of_pos_right h1 hf
 have h4:=Int.mul_le_mul_of_nonneg_right h2 (Int.le_of_lt hb)
 refine Int.lt_of_mul_lt_mul_right (a:=d) ?_ (Int.le_of_lt hd)
 rw [Int.mul_right_comm a f d,Int.mul_right_comm e b d]
 rw [Int.mul_right_comm c b f]at h3
 exact Int.lt_of_lt_of_le h3 h4
theorem qDd{a b c d e f:Int}(hb:0<b)(hd:0<d)(hf:0<f)(h1:a * d≤c * b)(h2:c * f<e * d):a * f<e * b:=by
 have h3:=Int.mul_le_mul_of_nonneg_right h1 (Int.le_of_lt hf)
 have h4:=Int.mul_lt_mul_of_pos_right h2 hb
 refine Int.lt_of_mul_lt_mul_right (a:=d) ?_ (Int.le_of_lt hd)
 rw [Int.mul_right_comm a f d,Int.mul_right_comm e b d]
 rw [Int.mul_right_comm c b f]at h3
 exact Int.lt_of_le_of_lt h3 h4
def ltD(key:Nat)(x y:qB):Prop:=dc key x.f0 * y.f1<dc key y.f0 * x.f1∨(dc key x.f0 * y.f1≤dc key y.f0 * x.f1∧x.f0<y.f0)
theorem qHk(key:Nat)(x y:qB):cmpD key x y<0↔ltD key x y:=by
 unfold cmpD ltD
 generalize dc key x.f0 * y.f1=a
 generalize dc key y.f0 * x.f1=b
 by_cases h1:a<b
 ·rw [if_pos h1]
  exact ⟨fun _=>.inl h1,fun _=>by omega⟩
 ·rw [if_neg h1]
  by_cases h2:b<a
  ·rw [if_pos h2]
   exact ⟨fun h=>by omega,fun h=>by omega⟩
  ·rw [if_neg h2]
   exact ⟨fun h=>.inr ⟨by omega,by omega⟩,fun h=>by omega⟩
theorem qFW(key:Nat)(x:qB):¬ ltD key x x:=fun h=>by
 unfold ltD at h
 omega
theorem qER{key:Nat}{x y z:qB}(hx:fineC x)(hy:fineC y)(hz:fineC z)(h1:ltD key x y)(h2:ltD key y z):ltD key x z:=by
 have b1:0<x.f1:=by have:=hx.2; omega
 have b2:0<y.f1:=by have:=hy.2; omega
 have b3:0<z.f1:=by have:=hz.2; omega
 rcases h1 with h1 | ⟨h1,i1⟩
 ·rcases h2 with h2 | ⟨h2,i2⟩
  ·exact .inl (qCs b1 b2 b3 h1 (Int.le_of_lt h2))
  ·exact .inl (qCs b1 b2 b3 h1 h2)
 ·rcases h2 with h2 | ⟨h2,i2⟩
  ·exact .inl (qDd b1 b2 b3 h1 h2)
  ·exact .inr ⟨qHD b1 b2 b3 h1 h2,Int.lt_trans i1 i2⟩
theorem qES(key:Nat)(x y:qB)(h:x.f0≠y.f0):ltD key x y∨ltD key y x:=by
 unfold ltD
 omega
theorem qHU{α β : Type}(f:Nat→α→Option β)(v : α→β):∀ l:List α,(∀ x ∈ l,Ev (fun k=>f k x) (v x))→∃ K,∀ k,K≤k→∀ x ∈ l,f k x=some (v x)
 | [],_=>⟨0,fun _ _ _ h=>nomatch h⟩
 | x :: l,h=>by
  obtain ⟨K,hK⟩:=h x List.mem_cons_self
  obtain ⟨L,hL⟩:=qHU f v l (fun y m=>h y (List.mem_cons_of_mem _ m))
  refine ⟨K+L,fun k hk y hy=>?_⟩
  rcases List.mem_cons.1 hy with rfl | hy
  ·exact hK k (by omega)
  ·exact hL k (by omega) y hy
def fineL(l:List qB):Prop:=(∀ x ∈ l,fineC x)∧∀ x ∈ l,∀ y ∈ l,x.f0=y.f0→x=y
instance (key:Nat) (x y:qB):Decidable (ltD key x y):=inferInstanceAs (Decidable (_∨_))
def ltB(key:Nat)(x y:qB):Bool:=decide (ltD key x y)
theorem qCt{α : Type}(f g : α→α→Bool)(x : α):∀ l:List α,(∀ y ∈ l,f x y=g x y)→insertL f x l=insertL g x l
 | [],_=>rfl
 | y :: r,h=>by
  rw [insertL,insertL,h y List.mem_cons_self,qCt f g x r (fun z m=>h z (List.mem_cons_of_mem _ m))]
theorem qDV{α : Type}(f g : α→α→Bool):∀ l:List α,(∀ x ∈ l,∀ y ∈ l,f x y=g x y)→sortL f l=sortL g l
 | [],_=>rfl
 | x :: r,h=>by
  have ih:=qDV f g r (fun a ha b hb=>h a (List.mem_cons_of_mem _ ha) b (List.mem_cons_of_mem _ hb))
  rw [sortL,sortL,ih]
  exact qCt f g x _ (fun y hy=>h x List.mem_cons_self y (List.mem_cons_of_mem _ ((qCY _ _).1 hy)))
set_option maxHeartbeats 4000000 in
theorem sorts(key:Nat)(hkey:key<18446744073709551616)(l:List qB)(hf:fineL l)(hl:l.length≤1000000):Ev (fun k=>qb.f k l (key:Int)) (sortL (ltB key) l):=by
 have hc:∀ p ∈ l.flatMap (fun x=>l.map (fun y=>(x,y))),Ev (fun k=>qb.cmp k (key:Int) p.1 p.2) (cmpD key p.1 p.2):=by
  intro p hp
  obtain ⟨x,hx,hp⟩:=List.mem_flatMap.1 hp
  obtain ⟨y,hy,rfl⟩:=List.mem_map.1 hp
  unfold qb.cmp qBb.f
  exact .b (compare key hkey x y (hf.1 x hx) (hf.1 y hy)) (.c _)
 obtain ⟨K,hK⟩:=qHU (fun k (p:qB × qB)=>qb.cmp k (key:Int) p.1 p.2) (fun p=>cmpD key p.1 p.2) _ hc
 refine ⟨K,fun k hk=>?_⟩
 have hK:∀ x ∈ l,∀ y ∈ l,qb.cmp k (key:Int) x y=some (cmpD key x y):=by
  intro x hx y hy
  have hm:(x,y) ∈ l.flatMap (fun x=>l.map (fun y=>(x,y))):=List.mem_flatMap.2 ⟨x,hx,List.mem_map.2 ⟨y,hy,rfl⟩⟩
  have h:=hK k hk (x,y) hm
  dsimp only at h
  exact h
 have hlt:∀ x ∈ l,∀ y ∈ l,ltO (qb.cmp k (key:Int)) x y=ltB key x y:=by
  intro x hx y hy
  unfold ltO ltB
  rw [hK x hx y hy,Option.getD_some,decide_eq_decide]
  exact qHk key x y
 have hok:okSort (qb.cmp k (key:Int)) l=true:=?_
 ·show sortO (qb.cmp k (key:Int)) l=_
  unfold sortO
  rw [if_pos ⟨hok,hl⟩,qDV _ _ l hlt]
 unfold okSort
 simp only [Bool.and_eq_true,List.all_eq_true]
 refine ⟨⟨⟨?_,?_⟩,?_⟩,?_⟩
 ·intro x hx y hy
  rw [hK x hx y hy]
  rfl
 ·intro x hx
  rw [hlt x hx x hx,ltB,dF (qFW key x)]
  rfl
 ·intro x hx y hy z hz
  rw [hlt x hx y hy,hlt y hy z hz,hlt x hx z hz]
  unfold ltB
  by_cases h1:ltD key x y
  ·by_cases h2:ltD key y z
   ·simp [h1,h2,qER (hf.1 x hx) (hf.1 y hy) (hf.1 z hz) h1 h2]
   ·simp [h1,h2]
  ·by_cases h2:ltD key y z
   ·simp [h1,h2]
   ·have h3:¬ ltD key x z:=by
     intro h3
     by_cases hxy:x.f0=y.f0
     ·exact h2 (hf.2 x hx y hy hxy ▸ h3)
     ·rcases qES key x y hxy with h | h
      ·exact h1 h
      ·exact h2 (qER (hf.1 y hy) (hf.1 x hx) (hf.1 z hz) h h3)
    simp [h1,h2,h3]
 ·intro x hx y hy
  rw [hlt x hx y hy,hlt y hy x hx]
  unfold ltB
  by_cases hxy:x.f0=y.f0
  ·simp [hf.2 x hx y hy hxy]
  ·rcases qES key x y hxy with h | h
   ·simp [h]
   ·simp [h]
structure Chs (l:List qB):Prop where
 len:l.length≤64
 ok:∀ x ∈ l,(0≤x.f0∧x.f0≤2147483647)∧0≤x.f1∧x.f1≤65536
 up:l.Pairwise (fun x y=>x.f0<y.f0)
theorem qGG(l:List qB)(h:Chs l):∀(d i:Nat),i+d=l.length→Ev (fun k=>qAg.l9 k l (i:Int)) 0:=by
 have hl:=h.len
 intro d
 induction d with
 | zero=>exact fun i hi=>.s (qAg.l9_s · _ _) (.n (by omega) (.c _))
 | succ d ih =>
  intro i hi
  have h1:i<l.length:=by omega
  have hok:=h.ok _ (gM h1)
  have hj:Ev (fun k=>qAg.j37 k l (i:Int) false) 0:=by
   refine .s (qAg.j37_s · _ _ _) (.n (by decide) ?_)
   rw [w64n i (by omega)]
   exact ih (i+1) (by omega)
  refine .s (qAg.l9_s · _ _) (.t (by omega) (.t (by omega) ?_))
  rw [nth_get _ _ _ h1]
  refine .n (by omega) (.n (by omega) (.n (by omega) (.n (by omega) (.i (fun h0=>?_) (fun _=>hj)))))
  rw [w64p i (by omega) (by omega)]
  refine .t (by omega) ?_
  rw [nth_get _ _ _ (by omega),dF]
  ·exact hj
  ·have:=List.pairwise_iff_getElem.1 h.up (i - 1) i (by omega) h1 (by omega)
   omega
theorem dcheck(l:List qB)(h:Chs l):Ev (fun k=>qAg.f k l) 0:=by
 have hl:=h.len
 unfold qAg.f
 exact .n (by omega) (qGG l h l.length 0 (by omega))
def heavy(l:List qB):List qB:=l.filter (fun x => !(x.f1 == 0))
theorem qFX{l:List qB}(h:Chs l):fineL (heavy l):=by
 refine ⟨fun x hx=>?_,fun x hx y hy e=>?_⟩
 ·obtain ⟨h1,h2⟩:=List.mem_filter.1 hx
  have:=h.ok x h1
  have h3:x.f1≠0:=by simpa using h2
  exact ⟨this.1,by omega,this.2.2⟩
 ·have hx:=(List.mem_filter.1 hx).1
  have hy:=(List.mem_filter.1 hy).1
  obtain ⟨i,hi,rfl⟩:=List.getElem_of_mem hx
  obtain ⟨j,hj,rfl⟩:=List.getElem_of_mem hy
  have hup:=List.pairwise_iff_getElem.1 h.up
  rcases Nat.lt_trichotomy i j with c | c | c
  ·have:=hup i j hi hj c
   omega
  ·subst c; rfl
  ·have:=hup j i hj hi c
   omega
theorem index0(l:List qB)(hl:l.length≤64):∀(d i:Nat),i+d=l.length→heavy (l.take i)=l.take i→(heavy l=l∧Ev (fun k=>qL.l5 k l (i:Int)) (-1))∨∃ n:Nat,n<l.length∧heavy (l.take n)=l.take n∧(∀ h:n<l.length,l[n].f1=0)∧Ev (fun k=>qL.l5 k l (i:Int)) (n:Int):=by
 intro d
 induction d with
 | zero =>
  intro i hi ht
  rw [List.take_of_length_le (by omega)]at ht
  exact .inl ⟨ht,.s (qL.l5_s · _ _) (.n (by omega) (.c _))⟩
 | succ d ih =>
  intro i hi ht
  have h1:i<l.length:=by omega
  by_cases h0:l[i].f1=0
  ·refine .inr ⟨i,h1,ht,fun _=>h0,.s (qL.l5_s · _ _) (.t (by omega) (.t (by omega) ?_))⟩
   rw [nth_get _ _ _ h1]
   exact .b0 (a:=true) (congrArg some (by simpa using h0)) (.t rfl (.c _))
  ·have hs:Ev (fun k=>qL.l5 k l ((i+1:Nat):Int))=fun v=>Ev (fun k=>qL.l5 k l ((i+1:Nat):Int)) v:=rfl
   have go:∀ v,Ev (fun k=>qL.l5 k l ((i+1:Nat):Int)) v→Ev (fun k=>qL.l5 k l (i:Int)) v:=by
    intro v hv
    refine .s (qL.l5_s · _ _) (.t (by omega) (.t (by omega) ?_))
    rw [nth_get _ _ _ h1,w64n i (by omega)]
    exact .b0 (a:=false) (congrArg some (by simpa using h0)) (.n (by decide) hv)
   have ht':heavy (l.take (i+1))=l.take (i+1):=by
    rw [List.take_add_one,List.getElem?_eq_getElem h1,Option.toList_some]
    unfold heavy at ht ⊢
    rw [List.filter_append,ht]
    simp [h0]
   rcases ih (i+1) (by omega) ht' with ⟨a,b⟩ | ⟨n,a,b,c,e⟩
   ·exact .inl ⟨a,go _ b⟩
   ·exact .inr ⟨n,a,b,c,go _ e⟩
theorem qFY(l:List qB)(hl:l.length≤64):∀(d i n:Nat)(q:List qB),i+d=l.length→n<i→q.length=l.length→q.take n=heavy (l.take i)→q.drop i=l.drop i→Ev (fun k=>qM.l15 k l q (n:Int) (i:Int)) (heavy l):=by
 intro d
 induction d with
 | zero =>
  intro i n q hi hn hq ht hd
  refine .s (qM.l15_s · _ _ _ _) (.n (by omega) (.t (by omega) (.cv ?_)))
  rw [List.take_of_length_le (by omega:l.length≤i)]at ht
  rw [← ht]
  have hlen:(q.take n).length=n:=by rw [List.length_take]; omega
  simp only [cutl,tN,Int.toNat_zero,List.drop_zero]
  rw [List.take_append_of_le_length (by omega),List.take_of_length_le (by omega)]
 | succ d ih =>
  intro i n q hi hn hq ht hd
  have h1:i<l.length:=by omega
  have h2:i<q.length:=by omega
  have hd2:q[i]=l[i]∧q.drop (i+1)=l.drop (i+1):=by
   rw [List.drop_eq_getElem_cons h1,List.drop_eq_getElem_cons h2]at hd
   exact ⟨(List.cons.inj hd).1,(List.cons.inj hd).2⟩
  have hh:heavy (l.take (i+1))=heavy (l.take i)++(if l[i].f1=0 then [] else [l[i]]):=by
   rw [List.take_add_one,List.getElem?_eq_getElem h1,Option.toList_some]
   unfold heavy
   rw [List.filter_append]
   by_cases c:l[i].f1=0
   ·simp [c]
   ·simp [c]
  refine .s (qM.l15_s · _ _ _ _) (.t (by omega) (.t (by omega) ?_))
  rw [nth_get _ _ _ h2,hd2.1,w64n i (by omega),w64n n (by omega)]
  by_cases h0:l[i].f1=0
  ·refine .b0 (a:=true) (congrArg some (by simpa using h0)) (.t rfl (ih (i+1) n q (by omega) (by omega) hq ?_ hd2.2))
   rw [hh,if_pos h0,List.append_nil,ht]
  ·refine .b0 (a:=false) (congrArg some (by simpa using h0)) (.n (by decide) (.t (by omega) (ih (i+1) (n+1) _ (by omega) (by omega) (by rw [List.length_set]; exact hq) ?_ ?_)))
   ·rw [hh,if_neg h0,← ht,tN,List.take_add_one,List.take_set_of_le (by omega),List.getElem?_set_self (by omega)]
    rfl
   ·rw [tN,List.drop_set_of_lt (by omega)]
    exact hd2.2
theorem delete(l:List qB)(hl:l.length≤64):Ev (fun k=>qM.f k l) (heavy l):=by
 unfold qM.f qL.f
 rcases index0 l hl l.length 0 (by omega) rfl with ⟨a,b⟩ | ⟨n,a,b,c,e⟩
 ·exact .b b (.t rfl (.cv a.symm))
 ·refine .b e (.n (by omega) ?_)
  rw [w64n n (by omega)]
  refine qFY l hl (l.length - (n+1)) (n+1) n l (by omega) (by omega) rfl ?_ rfl
  rw [List.take_add_one,List.getElem?_eq_getElem a,Option.toList_some,← b]
  unfold heavy
  rw [List.filter_append,List.filter_filter]
  simp [c a]
def ord(key:Nat)(l:List qB):List qB:=sortL (ltB key) (heavy l)
theorem qGH(t22 t33:List qB)(he:t33.length=t22.length)(hl:t22.length≤64):∀(d i:Nat),i+d=t22.length→Ev (fun k=>qAu.l44 k t22 t33 ((t33.take i).map (fun x=>x.f0)) (i:Int)) (t33.map (fun x=>x.f0)):=by
 intro d
 induction d with
 | zero =>
  intro i hi
  refine .s (qAu.l44_s · _ _ _ _) (.n (by omega) (.cv ?_))
  rw [List.take_of_length_le (by omega)]
 | succ d ih =>
  intro i hi
  have h1:i<t33.length:=by omega
  refine .s (qAu.l44_s · _ _ _ _) (.t (by omega) (.t (by omega) (.t (by rw [List.length_map,List.length_take]; omega) ?_)))
  rw [nth_get _ _ _ h1,w64n i (by omega)]
  have ih:=ih (i+1) (by omega)
  rw [List.take_add_one,List.getElem?_eq_getElem h1,Option.toList_some,List.map_append]at ih
  exact ih
theorem order(key:Nat)(hkey:key<18446744073709551616)(l:List qB)(h:Chs l):Ev (fun k=>qAu.f k (key:Int) l) ((ord key l).map (fun x=>x.f0)):=by
 have hl:=h.len
 have hh:(heavy l).length≤l.length:=List.length_filter_le _ _
 unfold qAu.f
 refine .b (dcheck l h) (.t rfl (.b0 (a:=l) ?_ (.b (delete l hl) (.b (sorts key hkey _ (qFX h) (by omega)) ?_))))
 ·unfold qAW.f
  rw [if_pos]
  ·rfl
  ·simp only [List.length_nil]
   omega
 ·exact qGH _ _ (qCQ _ _) (by omega) (heavy l).length 0 (by omega)
theorem qHE:∀(l:List qB)(m:qB),l.Pairwise (fun x y=>x.f0<y.f0)→m ∈ l→l.Perm (m :: l.filter (fun x => !(x.f0 == m.f0)))
 | [],_,_,h=>nomatch h
 | x :: r,m,hp,h=>by
  obtain ⟨h1,h2⟩:=List.pairwise_cons.1 hp
  rcases List.mem_cons.1 h with rfl | h
  ·rw [List.filter_cons_of_neg (by simp)]
   have e:r.filter (fun x => !(x.f0 == m.f0))=r:=List.filter_eq_self.2 (fun y hy=>by have:=h1 y hy; simp; omega)
   rw [e]
  ·have hlt:=h1 m h
   rw [List.filter_cons_of_pos (by simp; omega)]
   exact ((qHE r m h2 h).cons x).trans (List.Perm.swap m x _)
theorem heavy_up{l:List qB}(h:Chs l):(heavy l).Pairwise (fun x y=>x.f0<y.f0):=h.up.filter _
end Draw
namespace Topo
def weight(n:qA):Int:=if n.f5=true then n.f3 else 0
def addW(id w:Int):List qB→List qB
 | []=>[⟨id,w⟩]
 | c :: r=>if c.f0<id then c :: addW id w r else if c.f0=id then ⟨id,if c.f1+w<65536 then c.f1+w else 65536⟩ :: r else ⟨id,w⟩ :: c :: r
def wOne(is:qA→Bool)(of:qA→Int)(v:List qB)(n:qA):List qB:=if is n=true then addW (of n) (weight n) v else v
def wL(is:qA→Bool)(of:qA→Int)(l:List qA):List qB:=l.foldl (wOne is of) []
def posn(id:Int):List qB→Nat
 | []=>0
 | c :: r=>if c.f0<id then posn id r+1 else 0
theorem qEn(id:Int):∀ l:List qB,posn id l≤l.length
 | []=>Nat.le_refl _
 | c :: r=>by
  unfold posn
  have:=qEn id r
  rw [List.length_cons]
  split <;> omega
theorem qGI(id:Int):∀(l:List qB)(i:Nat)(h:i<l.length),i<posn id l→l[i].f0<id
 | [],_,h,_=>nomatch h
 | c :: r,i,h,hi=>by
  unfold posn at hi
  split at hi
  ·cases i with
   | zero=>assumption
   | succ i=>exact qGI id r i (by simpa using h) (by omega)
  ·omega
theorem qEo(id:Int):∀(l:List qB),l.Pairwise (fun x y=>x.f0<y.f0)→∀(i:Nat)(h:i<l.length),posn id l≤i→id≤l[i].f0
 | [],_,_,h,_=>nomatch h
 | c :: r,hp,i,h,hi=>by
  obtain ⟨h1,h2⟩:=List.pairwise_cons.1 hp
  unfold posn at hi
  split at hi
  ·cases i with
   | zero=>omega
   | succ i=>exact qEo id r h2 i (by simpa using h) (by omega)
  ·cases i with
   | zero=>rename_i hc; exact Int.not_lt.1 hc
   | succ i =>
    rename_i hc
    have hr:i<r.length:=by simpa using h
    have:=h1 _ (gM hr)
    show id≤r[i].f0
    omega
theorem cmpi(a b:Int):qAR.f a b=some (if a<b then -1 else if a>b then 1 else 0):=by
 unfold qAR.f qAz.f
 simp only [beq_self_eq_true,Bool.not_true,Option.bind_some,Bool.false_eq_true,if_false]
 by_cases h:a<b
 ·rw [if_pos h,if_pos h]
 ·rw [if_neg h,if_neg h]
  by_cases h2:a>b
  ·rw [if_pos h2,if_pos h2]
  ·rw [if_neg h2,if_neg h2]
theorem mid(a b:Nat)(h:a+b<4611686018427387904):w64 ((IntKind.u64.wrap (w64 ((a:Int)+b))).fdiv 2)=((a+b) / 2:Nat):=by
 have e:w64 ((a:Int)+b)=((a+b:Nat):Int):=by rw [qCI (by omega) (by omega)]; omega
 have e2:IntKind.u64.wrap ((a+b:Nat):Int)=((a+b:Nat):Int):=by rw [IntKind.wrap_u64]; omega
 rw [e,e2,Int.fdiv_eq_ediv_of_nonneg _ (by omega),qCI (by omega) (by omega)]
 omega
theorem qGJ(l:List qB)(id:Int)(hl:l.length<1000000)(hp:l.Pairwise (fun x y=>x.f0<y.f0)):∀(d a b:Nat),b - a≤d→a≤posn id l→posn id l≤b→b≤l.length→Ev (fun k=>qH.l7 k l id (a:Int) (b:Int)) ((posn id l:Int),match l[posn id l]? with
  | some c=>c.f0 == id
  | none=>false):=by
 intro d
 induction d with
 | zero =>
  intro a b hd h1 h2 h3
  obtain rfl:a=b:=by omega
  obtain rfl:a=posn id l:=by omega
  refine .s (qH.l7_s · _ _ _ _) (.n (by omega) ?_)
  by_cases h4:posn id l<l.length
  ·refine .t (by omega) (.t (by omega) ?_)
   rw [nth_get _ _ _ h4,List.getElem?_eq_getElem h4]
   refine .b0 (a:=if l[posn id l].f0<id then -1 else if l[posn id l].f0>id then 1 else 0) ?_ (.cv ?_)
   ·unfold qBJ.f
    rw [cmpi]
    rfl
   ·have:=qEo id l hp _ h4 (Nat.le_refl _)
    by_cases h5:l[posn id l].f0=id
    ·simp [h5]
    ·rw [if_neg (by omega),if_pos (by omega)]
     simp [h5]
  ·rw [List.getElem?_eq_none (by omega)]
   exact .n (by omega) (.c _)
 | succ d ih =>
  intro a b hd h1 h2 h3
  by_cases hab:a<b
  ·refine .s (qH.l7_s · _ _ _ _) (.t (by omega) ?_)
   rw [mid a b (by omega)]
   have h4:(a+b) / 2<l.length:=by omega
   refine .t (by omega) ?_
   rw [nth_get _ _ _ h4]
   refine .b0 (a:=if l[(a+b) / 2].f0<id then -1 else if l[(a+b) / 2].f0>id then 1 else 0) ?_ ?_
   ·unfold qBJ.f
    rw [cmpi]
    rfl
   ·by_cases h5:l[(a+b) / 2].f0<id
    ·rw [if_pos h5,w64n _ (by omega)]
     refine .t (by decide) (ih _ _ (by omega) ?_ h2 h3)
     rcases Nat.lt_or_ge ((a+b) / 2) (posn id l) with c | c
     ·omega
     ·have:=qEo id l hp _ h4 c
      omega
    ·rw [if_neg h5]
     refine .n (by split <;> decide) (ih _ _ (by omega) h1 ?_ (by omega))
     rcases Nat.lt_or_ge ((a+b) / 2) (posn id l) with c | c
     ·exact absurd (qGI id l _ h4 c) h5
     ·exact c
  ·exact ih a b (by omega) h1 h2 h3
theorem search(l:List qB)(id:Int)(hl:l.length<1000000)(hp:l.Pairwise (fun x y=>x.f0<y.f0)):Ev (fun k=>qH.f k l id) ((posn id l:Int),match l[posn id l]? with
  | some c=>c.f0 == id
  | none=>false):=qGJ l id hl hp l.length 0 l.length (by omega) (by omega) (qEn id l) (Nat.le_refl _)
theorem qFF(id w:Int):∀(l:List qB)(h:posn id l<l.length),l[posn id l].f0=id→addW id w l=l.set (posn id l) ⟨id,if l[posn id l].f1+w<65536 then l[posn id l].f1+w else 65536⟩
 | [],h,_=>nomatch h
 | c :: r,h,he=>by
  unfold addW
  by_cases hc:c.f0<id
  ·have e:posn id (c :: r)=posn id r+1:=by rw [posn,if_pos hc]
   have h':posn id r<r.length:=by rw [e,List.length_cons]at h; omega
   simp only [e,List.getElem_cons_succ]at he
   rw [if_pos hc,qFF id w r h' he]
   simp only [e,List.set_cons_succ,List.getElem_cons_succ]
  ·have e:posn id (c :: r)=0:=by rw [posn,if_neg hc]
   simp only [e,List.getElem_cons_zero]at he
   rw [if_neg hc,if_pos he]
   simp only [e,List.set_cons_zero,List.getElem_cons_zero]
theorem qFG(id w:Int):∀(l:List qB),(∀ h:posn id l<l.length,l[posn id l].f0≠id)→addW id w l=l.take (posn id l)++⟨id,w⟩ :: l.drop (posn id l)
 | [],_=>rfl
 | c :: r,he=>by
  unfold addW
  by_cases hc:c.f0<id
  ·have e:posn id (c :: r)=posn id r+1:=by rw [posn,if_pos hc]
   rw [if_pos hc,qFG id w r (fun h=>by have:=he (by rw [e,List.length_cons]; omega); simpa only [e,List.getElem_cons_succ] using this)]
   simp only [e,List.take_succ_cons,List.drop_succ_cons,List.cons_append]
  ·have e:posn id (c :: r)=0:=by rw [posn,if_neg hc]
   have:=he (by rw [e,List.length_cons]; omega)
   simp only [e,List.getElem_cons_zero]at this
   rw [if_neg hc,if_neg this]
   simp only [e,List.take_zero,List.drop_zero,List.nil_append]
theorem qFH(id w:Int):∀ l:List qB,(addW id w l).length≤l.length+1
 | []=>Nat.le_refl _
 | c :: r=>by
  unfold addW
  have:=qFH id w r
  split
  ·rw [List.length_cons,List.length_cons]; omega
  ·split <;> simp
theorem qFI(id w:Int):∀(l:List qB),l.Pairwise (fun x y=>x.f0<y.f0)→∀ c:qB,c ∈ addW id w l↔(c ∈ l∧c.f0≠id)∨(c.f0=id∧((∃ d ∈ l,d.f0=id∧c.f1=if d.f1+w<65536 then d.f1+w else 65536)∨((∀ d ∈ l,d.f0≠id)∧c.f1=w)))
 | [],_,c=>by
  unfold addW
  rw [List.mem_singleton]
  constructor
  ·rintro rfl
   exact .inr ⟨rfl,.inr ⟨(fun _ h=>nomatch h),rfl⟩⟩
  ·rintro (⟨h,_⟩ | ⟨h,(⟨_,h',_⟩ | ⟨_,h'⟩)⟩)
   ·exact nomatch h
   ·exact nomatch h'
   ·cases c; cases h; cases h'; rfl
 | x :: r,hp,c=>by
  obtain ⟨h1,h2⟩:=List.pairwise_cons.1 hp
  unfold addW
  by_cases hx:x.f0<id
  ·rw [if_pos hx,List.mem_cons,qFI id w r h2 c,List.mem_cons]
   constructor
   ·rintro (rfl | ⟨h,h'⟩ | ⟨h,(⟨d,q1,q2⟩ | ⟨q1,q2⟩)⟩)
    ·exact .inl ⟨.inl rfl,by omega⟩
    ·exact .inl ⟨.inr h,h'⟩
    ·exact .inr ⟨h,.inl ⟨d,List.mem_cons_of_mem _ q1,q2⟩⟩
    ·refine .inr ⟨h,.inr ⟨fun d hd=>?_,q2⟩⟩
     rcases List.mem_cons.1 hd with rfl | hd
     ·omega
     ·exact q1 d hd
   ·rintro (⟨h | h,h'⟩ | ⟨h,(⟨d,q1,q2⟩ | ⟨q1,q2⟩)⟩)
    ·exact .inl h
    ·exact .inr (.inl ⟨h,h'⟩)
    ·rcases List.mem_cons.1 q1 with rfl | q1
     ·have:=q2.1; omega
     ·exact .inr (.inr ⟨h,.inl ⟨d,q1,q2⟩⟩)
    ·exact .inr (.inr ⟨h,.inr ⟨fun d hd=>q1 d (List.mem_cons_of_mem _ hd),q2⟩⟩)
  ·rw [if_neg hx]
   by_cases he:x.f0=id
   ·rw [if_pos he,List.mem_cons,List.mem_cons]
    constructor
    ·rintro (rfl | h)
     ·exact .inr ⟨rfl,.inl ⟨x,List.mem_cons_self,he,rfl⟩⟩
     ·exact .inl ⟨.inr h,by have:=h1 c h; omega⟩
    ·rintro (⟨h | h,h'⟩ | ⟨h,(⟨d,q1,q2,q3⟩ | ⟨q1,q2⟩)⟩)
     ·exact absurd (h ▸ he) h'
     ·exact .inr h
     ·rcases List.mem_cons.1 q1 with rfl | q1
      ·left; cases c; cases h; cases q3; rfl
      ·have:=h1 d q1; omega
     ·exact absurd he (q1 x List.mem_cons_self)
   ·rw [if_neg he,List.mem_cons]
    constructor
    ·rintro (rfl | h)
     ·refine .inr ⟨rfl,.inr ⟨fun d hd=>?_,rfl⟩⟩
      rcases List.mem_cons.1 hd with rfl | hd
      ·exact he
      ·have:=h1 d hd; show d.f0≠id; omega
     ·refine .inl ⟨h,?_⟩
      rcases List.mem_cons.1 h with rfl | hd
      ·exact he
      ·have:=h1 c hd; omega
    ·rintro (⟨h,h'⟩ | ⟨h,(⟨d,q1,q2,q3⟩ | ⟨q1,q2⟩)⟩)
     ·exact .inr h
     ·rcases List.mem_cons.1 q1 with rfl | q1
      ·exact absurd q2 he
      ·have:=h1 d q1; omega
     ·left; cases c; cases h; cases q2; rfl
theorem qHF{id w:Int}{l:List qB}{c:qB}: ∀ _:c ∈ addW id w l,c.f0=id∨∃ d ∈ l,d.f0=c.f0:=by
 induction l with
 | nil=>intro h; rw [addW,List.mem_singleton]at h; exact .inl (h ▸ rfl)
 | cons x r ih =>
  intro h
  unfold addW at h
  split at h
  ·rcases List.mem_cons.1 h with rfl | h
   ·exact .inr ⟨c,List.mem_cons_self,rfl⟩
   ·rcases ih h with e | ⟨d,hd,e⟩
    ·exact .inl e
    ·exact .inr ⟨d,List.mem_cons_of_mem _ hd,e⟩
  ·split at h
   ·rcases List.mem_cons.1 h with rfl | h
    ·exact .inl rfl
    ·exact .inr ⟨c,List.mem_cons_of_mem _ h,rfl⟩
   ·rcases List.mem_cons.1 h with rfl | h
    ·exact .inl rfl
    ·exact .inr ⟨c,h,rfl⟩
theorem qGK(id w:Int):∀(l:List qB),l.Pairwise (fun x y=>x.f0<y.f0)→(addW id w l).Pairwise (fun x y=>x.f0<y.f0)
 | [],_=>List.pairwise_singleton _ _
 | x :: r,hp=>by
  obtain ⟨h1,h2⟩:=List.pairwise_cons.1 hp
  unfold addW
  by_cases hx:x.f0<id
  ·rw [if_pos hx]
   refine List.pairwise_cons.2 ⟨fun y hy=>?_,qGK id w r h2⟩
   rcases qHF hy with e | ⟨d,hd,e⟩
   ·omega
   ·have:=h1 d hd; omega
  ·rw [if_neg hx]
   by_cases he:x.f0=id
   ·rw [if_pos he]
    exact List.pairwise_cons.2 ⟨fun y hy=>by have:=h1 y hy; show id<y.f0; omega,h2⟩
   ·rw [if_neg he]
    refine List.pairwise_cons.2 ⟨fun y hy=>?_,hp⟩
    show id<y.f0
    rcases List.mem_cons.1 hy with rfl | hy
    ·omega
    ·have:=h1 y hy; omega
def wSum(is:qA→Bool)(of:qA→Int)(l:List qA)(id:Int):Int:=((l.filter (fun n=>is n&&decide (of n=id))).map weight).sum
def wIs(is:qA→Bool)(of:qA→Int)(l:List qA)(id:Int):Prop:=∃ n ∈ l,is n=true∧of n=id
def cap(x:Int):Int:=if x<65536 then x else 65536
structure WOf (is:qA→Bool) (of:qA→Int) (l:List qA) (v:List qB):Prop where
 up:v.Pairwise (fun x y=>x.f0<y.f0)
 mem:∀ c,c ∈ v↔wIs is of l c.f0∧c.f1=cap (wSum is of l c.f0)
def okW(n:qA):Prop:=0≤n.f3∧n.f3≤65536
theorem weight_ok{n:qA}(h:okW n):0≤weight n∧weight n≤65536:=by
 unfold weight okW at *
 split <;> omega
theorem qET(is:qA→Bool)(of:qA→Int)(l:List qA)(n:qA)(id:Int):wSum is of (l++[n]) id=wSum is of l id+if is n=true∧of n=id then weight n else 0:=by
 unfold wSum
 rw [List.filter_append,List.map_append,List.sum_append]
 congr 1
 by_cases h1:is n=true
 ·by_cases h2:of n=id
  ·simp [h1,h2]
  ·simp [h1,h2]
 ·simp [h1]
theorem wSum_ge(is:qA→Bool)(of:qA→Int)(l:List qA)(id:Int)(h:∀ n ∈ l,okW n):0≤wSum is of l id∧wSum is of l id≤65536 * l.length:=by
 induction l with
 | nil=>exact ⟨Int.le_refl _,Int.le_refl _⟩
 | cons n l ih =>
  have ih:=ih (fun m hm=>h m (List.mem_cons_of_mem _ hm))
  have hw:=weight_ok (h n List.mem_cons_self)
  unfold wSum at *
  rw [List.length_cons,List.filter_cons]
  split
  ·rw [List.map_cons,List.sum_cons]
   omega
  ·omega
theorem qFJ(is:qA→Bool)(of:qA→Int)(l:List qA)(n:qA)(id:Int):wIs is of (l++[n]) id↔wIs is of l id∨(is n=true∧of n=id):=by
 unfold wIs
 constructor
 ·rintro ⟨m,hm,h⟩
  rcases List.mem_append.1 hm with hm | hm
  ·exact .inl ⟨m,hm,h⟩
  ·rw [List.mem_singleton.1 hm]at h
   exact .inr h
 ·rintro (⟨m,hm,h⟩ | h)
  ·exact ⟨m,List.mem_append.2 (.inl hm),h⟩
  ·exact ⟨n,List.mem_append.2 (.inr (List.mem_singleton.2 rfl)),h⟩
theorem qEU{is:qA→Bool}{of:qA→Int}{l:List qA}{id:Int}(h:¬ wIs is of l id):wSum is of l id=0:=by
 unfold wSum
 rw [List.filter_eq_nil_iff.2]
 ·rfl
 ·intro n hn hc
  rw [Bool.and_eq_true,decide_eq_true_eq]at hc
  exact h ⟨n,hn,hc⟩
theorem WOf.snoc{is:qA→Bool}{of:qA→Int}{l:List qA}{v:List qB}{n:qA}(hv:WOf is of l v)(hl:∀ n ∈ l,okW n)(hn:okW n):WOf is of (l++[n]) (wOne is of v n):=by
 have hw:=weight_ok hn
 unfold wOne
 by_cases hi:is n=true
 ·rw [if_pos hi]
  refine ⟨qGK _ _ _ hv.up,fun c=>?_⟩
  have h0:=wSum_ge is of l c.f0 hl
  rw [qFI _ _ _ hv.up,qFJ,qET,hv.mem]
  by_cases hc:of n=c.f0
  ·rw [if_pos ⟨hi,hc⟩]
   have key:(∃ d ∈ v,d.f0=of n∧c.f1=if d.f1+weight n<65536 then d.f1+weight n else 65536)↔wIs is of l c.f0∧c.f1=cap (wSum is of l c.f0+weight n):=by
    have e:∀ s:Int,0≤s→(if cap s+weight n<65536 then cap s+weight n else 65536)=cap (s+weight n):=by
     intro s hs
     unfold cap
     split <;> split <;> (try split) <;> omega
    constructor
    ·rintro ⟨d,hd,h1,h2⟩
     obtain ⟨h3,h4⟩:=(hv.mem d).1 hd
     have hdc:d.f0=c.f0:=h1.trans hc
     rw [hdc]at h3 h4
     rw [h4,e _ h0.1]at h2
     exact ⟨h3,h2⟩
    ·rintro ⟨h1,h2⟩
     refine ⟨⟨c.f0,cap (wSum is of l c.f0)⟩,(hv.mem _).2 ⟨h1,rfl⟩,hc.symm,?_⟩
     show c.f1=if cap (wSum is of l c.f0)+weight n<65536 then cap (wSum is of l c.f0)+weight n else 65536
     rw [e _ h0.1]
     exact h2
   have key2:(∀ d ∈ v,d.f0≠of n)↔¬ wIs is of l c.f0:=by
    constructor
    ·intro h h1
     exact h ⟨c.f0,cap (wSum is of l c.f0)⟩ ((hv.mem _).2 ⟨h1,rfl⟩) hc.symm
    ·intro h d hd e
     exact h (by have:=((hv.mem d).1 hd).1; rwa [e,hc]at this)
   rw [key,key2]
   constructor
   ·rintro (⟨_,h⟩ | ⟨_,(⟨h1,h2⟩ | ⟨h1,h2⟩)⟩)
    ·exact absurd hc.symm h
    ·exact ⟨.inl h1,h2⟩
    ·refine ⟨.inr ⟨hi,hc⟩,?_⟩
     rw [qEU h1,h2]
     unfold cap
     split <;> omega
   ·rintro ⟨_,h⟩
    refine .inr ⟨hc.symm,?_⟩
    by_cases h1:wIs is of l c.f0
    ·exact .inl ⟨h1,h⟩
    ·refine .inr ⟨h1,?_⟩
     rw [qEU h1]at h
     unfold cap at h
     rw [h]
     split <;> omega
  ·rw [if_neg (fun h=>hc h.2),Int.add_zero]
   constructor
   ·rintro (⟨h,_⟩ | ⟨h,_⟩)
    ·exact ⟨.inl h.1,h.2⟩
    ·exact absurd h.symm hc
   ·rintro ⟨h | h,h'⟩
    ·exact .inl ⟨⟨h,h'⟩,fun e=>hc e.symm⟩
    ·exact absurd h.2 hc
 ·rw [if_neg hi]
  refine ⟨hv.up,fun c=>?_⟩
  rw [hv.mem,qFJ,qET,if_neg (fun h=>hi h.1),Int.add_zero]
  constructor
  ·exact fun h=>⟨.inl h.1,h.2⟩
  ·rintro ⟨h | h,h'⟩
   ·exact ⟨h,h'⟩
   ·exact absurd h.1 hi
theorem WOf.nil(is:qA→Bool)(of:qA→Int):WOf is of [] []:=⟨List.Pairwise.nil,fun c=>⟨(fun h=>nomatch h),(fun h=>by obtain ⟨⟨_,h,_⟩,_⟩:=h; exact nomatch h)⟩⟩
theorem qGL{is:qA→Bool}{of:qA→Int}{l:List qA}(i:Nat)(h:i<l.length):wL is of (l.take (i+1))=wOne is of (wL is of (l.take i)) l[i]:=by
 unfold wL
 rw [← List.take_append_getElem h,List.foldl_append]
 rfl
theorem wL_of(is:qA→Bool)(of:qA→Int)(l:List qA)(hl:∀ n ∈ l,okW n):∀ i,i≤l.length→WOf is of (l.take i) (wL is of (l.take i))∧(wL is of (l.take i)).length≤i:=by
 intro i
 induction i with
 | zero=>exact fun _=>⟨.nil _ _,Nat.le_refl _⟩
 | succ i ih =>
  intro hi
  have h1:i<l.length:=by omega
  obtain ⟨ih,hlen⟩:=ih (by omega)
  rw [qGL i h1]
  refine ⟨?_,?_⟩
  ·rw [← List.take_append_getElem h1]
   exact ih.snoc (fun n hn=>hl n (List.mem_of_mem_take hn)) (hl _ (gM h1))
  ·unfold wOne
   have:=qFH (of l[i]) (weight l[i]) (wL is of (l.take i))
   split <;> omega
theorem qDW {isO:qA→Option Bool} {ofO:qA→Option Int} {is:qA→Bool} {of:qA→Int} (his:∀ n,isO n=some (is n)) (hof:∀ n,ofO n=some (of n)) (l:List qA)
  (L:Nat→List qB→Int→Option (List qB)) (J:Nat→Int→Int × Bool→List qB→Option (List qB))
  (hL:∀ k acc x,L (k+1) acc x=(if x<(l.length:Int) then (if 0≤x∧x<(l.length:Int) then ((isO (⟨(nth qA.z l x).f0,(nth qA.z l x).f1,(nth qA.z l x).f2,(nth qA.z l x).f3,(nth qA.z l x).f4,(nth qA.z l x).f5⟩:qA)).bind fun t39=>(if t39=true then ((ofO (⟨(nth qA.z l x).f0,(nth qA.z l x).f1,(nth qA.z l x).f2,(nth qA.z l x).f3,(nth qA.z l x).f4,(nth qA.z l x).f5⟩:qA)).bind fun t44=>((qH.f k acc t44).bind fun t47=>(if t47.2=true then (J k x t47 acc) else ((ofO (⟨(nth qA.z l x).f0,(nth qA.z l x).f1,(nth qA.z l x).f2,(nth qA.z l x).f3,(nth qA.z l x).f4,(nth qA.z l x).f5⟩:qA)).bind fun t53=>((qw.f acc t47.1 [(⟨t53,0⟩:qB)]).bind fun t60=>(J k x t47 t60)))))) else (L k acc (w64 (x+1))))) else (none)) else (some acc)))
  (hJ:∀ k x t47 l70,J (k+1) x t47 l70=(if ((nth qA.z l x).f5)=true then (if 0≤t47.1∧t47.1<(l70.length:Int) then (L k (l70.set (t47.1).toNat (⟨(nth qB.z l70 t47.1).f0,(if (w64 ((nth qB.z l70 t47.1).f1+(nth qA.z l x).f3))<65536 then (w64 ((nth qB.z l70 t47.1).f1+(nth qA.z l x).f3)) else 65536)⟩:qB)) (w64 (x+1))) else (none)) else (L k l70 (w64 (x+1)))))
  (hl:l.length≤12) (hw:∀ n ∈ l,okW n):∀(d i:Nat),i+d=l.length→Ev (fun k=>L k (wL is of (l.take i)) (i:Int)) (wL is of l):=by
 intro d
 induction d with
 | zero =>
  intro i hi
  refine .s (fun k=>hL k _ _) (.n (by omega) (.cv ?_))
  rw [List.take_of_length_le (by omega)]
 | succ d ih =>
  intro i hi
  have h1:i<l.length:=by omega
  have ih:=ih (i+1) (by omega)
  obtain ⟨hW,hlen⟩:=wL_of is of l hw i (by omega)
  rw [qGL i h1]at ih
  have hn:=hw _ (gM h1)
  refine .s (fun k=>hL k _ _) (.t (by omega) (.t (by omega) ?_))
  rw [nth_get _ _ _ h1,w64n i (by omega)]
  generalize wL is of (l.take i)=v at hW hlen ih ⊢
  refine .b0 (his l[i]) ?_
  unfold wOne at ih
  by_cases hi1:is l[i]=true
  ·rw [if_pos hi1]at ih
   refine .t hi1 (.b0 (hof l[i]) (.b (search v (of l[i]) (by omega) hW.up) ?_))
   have hp:=qEn (of l[i]) v
   by_cases hf:∃ h:posn (of l[i]) v<v.length,v[posn (of l[i]) v].f0=of l[i]
   ·obtain ⟨hlt,he⟩:=hf
    rw [qFF _ _ v hlt he]at ih
    have hmem:=(hW.mem _).1 (gM hlt)
    have hs:=wSum_ge is of (l.take i) v[posn (of l[i]) v].f0 (fun n hn=>hw n (List.mem_of_mem_take hn))
    have hb:0≤v[posn (of l[i]) v].f1∧v[posn (of l[i]) v].f1≤65536:=by
     have:=hmem.2
     unfold cap at this
     split at this <;> omega
    rw [List.getElem?_eq_getElem hlt]
    refine .t (by simpa using he) (.s (fun k=>hJ k _ _ _) ?_)
    dsimp only
    rw [nth_get _ _ _ h1,nth_get _ _ _ hlt,w64n i (by omega),tN]
    unfold weight at ih
    unfold okW at hn
    by_cases h5:l[i].f5=true
    ·rw [if_pos h5]at ih
     refine .t h5 (.t (by omega) ?_)
     rw [qCI (n:=v[posn (of l[i]) v].f1+l[i].f3) (by omega) (by omega)]
     simp only [he]
     exact ih
    ·rw [if_neg h5,Int.add_zero]at ih
     refine .n h5 ?_
     have e:v.set (posn (of l[i]) v) ⟨of l[i],if v[posn (of l[i]) v].f1<65536 then v[posn (of l[i]) v].f1 else 65536⟩=v:=by
      have:(⟨of l[i],if v[posn (of l[i]) v].f1<65536 then v[posn (of l[i]) v].f1 else 65536⟩:qB)=v[posn (of l[i]) v]:=by
       have e2:(if v[posn (of l[i]) v].f1<65536 then v[posn (of l[i]) v].f1 else 65536)=v[posn (of l[i]) v].f1:=by split <;> omega
       rw [e2]
       exact congrArg (fun z=>(⟨z,v[posn (of l[i]) v].f1⟩:qB)) he.symm
      rw [this,List.set_getElem_self]
     rw [e]at ih
     exact ih
   ·have hne:∀ h:posn (of l[i]) v<v.length,v[posn (of l[i]) v].f0≠of l[i]:=fun h e=>hf ⟨h,e⟩
    rw [qFG _ _ v hne]at ih
    refine .n ?_ (.b0 (hof l[i]) (.b0 (a:=v.take (posn (of l[i]) v)++(⟨of l[i],0⟩:qB) :: v.drop (posn (of l[i]) v)) ?_ (.s (fun k=>hJ k _ _ _) ?_)))
    ·by_cases h:posn (of l[i]) v<v.length
     ·rw [List.getElem?_eq_getElem h]
      simpa using hne h
     ·rw [List.getElem?_eq_none (by omega)]
      exact nF
    ·unfold qw.f
     dsimp only
     rw [if_pos ⟨by omega,by omega,by omega⟩,tN]
    ·dsimp only
     have hq:posn (of l[i]) v<(v.take (posn (of l[i]) v)++(⟨of l[i],0⟩:qB) :: v.drop (posn (of l[i]) v)).length:=by
      rw [lA,List.length_take,List.length_cons,List.length_drop]
      omega
     have hg:(v.take (posn (of l[i]) v)++(⟨of l[i],0⟩:qB) :: v.drop (posn (of l[i]) v))[posn (of l[i]) v]=⟨of l[i],0⟩:=by
      rw [List.getElem_append_right (by rw [List.length_take]; omega)]
      simp only [List.length_take,Nat.min_eq_left hp,Nat.sub_self,List.getElem_cons_zero]
     rw [nth_get _ _ _ h1,nth_get _ _ _ hq,hg,w64n i (by omega),tN]
     unfold weight at ih
     unfold okW at hn
     by_cases h5:l[i].f5=true
     ·rw [if_pos h5]at ih
      refine .t h5 (.t (by omega) ?_)
      have e:(v.take (posn (of l[i]) v)++(⟨of l[i],0⟩:qB) :: v.drop (posn (of l[i]) v)).set (posn (of l[i]) v) (⟨of l[i],if w64 (0+l[i].f3)<65536 then w64 (0+l[i].f3) else 65536⟩:qB)=v.take (posn (of l[i]) v)++(⟨of l[i],l[i].f3⟩:qB) :: v.drop (posn (of l[i]) v):=by
       have e2:(if w64 (0+l[i].f3)<65536 then w64 (0+l[i].f3) else 65536)=l[i].f3:=by
        rw [qCI (by omega) (by omega)]
        split <;> omega
       rw [e2,List.set_append_right _ _ (by rw [List.length_take]; omega)]
       simp only [List.length_take,Nat.min_eq_left hp,Nat.sub_self,List.set_cons_zero]
      rw [e]
      exact ih
     ·rw [if_neg h5]at ih
      exact .n h5 ih
  ·rw [if_neg hi1]at ih
   exact .n hi1 ih
theorem qEp:∀(p:Int)(l:List qA),rise p l=true→(∀ n ∈ l,okN n)∧l.Pairwise (fun x y=>x.f0<y.f0)∧∀ n ∈ l,p<n.f0
 | p,[],_=>⟨(fun _ h=>nomatch h),List.Pairwise.nil,(fun _ h=>nomatch h)⟩
 | p,n :: l,h=>by
  rw [rise,Bool.and_eq_true,decide_eq_true_eq]at h
  obtain ⟨h1,h2,h3⟩:=qEp n.f0 l h.2
  refine ⟨fun m hm=>?_,List.pairwise_cons.2 ⟨h3,h2⟩,fun m hm=>?_⟩
  ·rcases List.mem_cons.1 hm with rfl | hm
   ·exact h.1.1
   ·exact h1 m hm
  ·rcases List.mem_cons.1 hm with rfl | hm
   ·exact h.1.2
   ·have:=h3 m hm; have:=h.1.2; omega
theorem Nodes.ok{l:List qA}(h:Nodes l):∀ n ∈ l,okN n:=(qEp 0 l h.2).1
theorem Nodes.up{l:List qA}(h:Nodes l):l.Pairwise (fun x y=>x.f0<y.f0):=(qEp 0 l h.2).2.1
theorem Nodes.okW{l:List qA}(h:Nodes l):∀ n ∈ l,okW n:=fun n hn=>(h.ok n hn).2.2.2
theorem wL_full(is:qA→Bool)(of:qA→Int){l:List qA}(h:Nodes l):WOf is of l (wL is of l)∧(wL is of l).length≤l.length:=by
 have:=wL_of is of l h.okW l.length (Nat.le_refl _)
 rwa [List.take_length]at this
theorem qIJ{x:Int}(h:0≤x):0≤cap x∧cap x≤65536:=by
 unfold cap
 split <;> omega
theorem wL_chs(is:qA→Bool)(of:qA→Int){l:List qA}(h:Nodes l)(hof:∀ n,okN n→0≤of n∧of n≤999):Draw.Chs (wL is of l):=by
 obtain ⟨hW,hlen⟩:=wL_full is of h
 have hl:=h.1
 refine ⟨by omega,fun c hc=>?_,hW.up⟩
 obtain ⟨⟨n,hn,_,he⟩,h2⟩:=(hW.mem c).1 hc
 have:=hof n (h.ok n hn)
 have h3:=wSum_ge is of l c.f0 h.okW
 have h4:=qIJ h3.1
 rw [h2]
 exact ⟨by omega,h4⟩
def isZ(_:qA):Bool:=true
def isR(z:Int)(n:qA):Bool:=n.f1 == z
def isL(z r:Int)(n:qA):Bool:=(z == 0||n.f1 == z)&&(r == 0||n.f2 == r)
def ofZ(n:qA):Int:=n.f1
def ofR(n:qA):Int:=n.f2
def ofL(n:qA):Int:=n.f0
theorem chk{l:List qA}(h:Nodes l):Ev (fun k=>qAL.f k l) 0:=(check l (by have:=h.1; omega)).v (by rw [dT h]; rfl)
theorem zones{l:List qA}(h:Nodes l):Ev (fun k=>qBk.f k l) (wL isZ ofZ l):=by
 have h2:=h.1
 unfold qBk.f qT.f
 refine .b (.b (chk h) (.t rfl ?_)) (.c _)
 exact qDW (isO:=qBZ.f) (ofO:=qBM.f) (fun _=>rfl) (fun _=>rfl) l _ _ (fun k _ _=>qT.l19_s k l _ _) (fun k _ _ _=>qT.j72_s k l _ _ _) h.1 h.okW l.length 0 (by omega)
theorem racks{l:List qA}(h:Nodes l)(z:Int):Ev (fun k=>qBl.f k l z) (wL (isR z) ofR l):=by
 have h2:=h.1
 unfold qBl.f qU.f
 refine .b (.b (chk h) (.t rfl ?_)) (.c _)
 exact qDW (isO:=fun n=>qBa.f n z) (ofO:=qBN.f) (fun _=>rfl) (fun _=>rfl) l _ _ (fun k _ _=>qU.l19_s k l z _ _) (fun k _ _ _=>qU.j72_s k l z _ _ _) h.1 h.okW l.length 0 (by omega)
theorem isl(z r:Int)(n:qA):qBG.f n z r=some (isL z r n):=by
 unfold qBG.f isL
 by_cases h1:z=0
 ·by_cases h2:r=0
  ·simp [h1,h2]
  ·simp [h1,h2]
 ·by_cases h3:n.f1=z
  ·by_cases h2:r=0
   ·simp [h1,h2,h3]
   ·simp [h1,h2,h3]
  ·simp [h1,h3]
theorem leaves{l:List qA}(h:Nodes l)(z r:Int):Ev (fun k=>qBd.f k l z r) (wL (isL z r) ofL l):=by
 have h2:=h.1
 unfold qBd.f qP.f
 refine .b (.b (chk h) (.t rfl ?_)) (.c _)
 exact qDW (isO:=fun n=>qBG.f n z r) (ofO:=qBF.f) (isl z r) (fun _=>rfl) l _ _ (fun k _ _=>qP.l19_s k l z r _ _) (fun k _ _ _=>qP.j72_s k l z r _ _ _) h.1 h.okW l.length 0 (by omega)
end Topo
namespace Rule
theorem w64n(i:Nat)(h:i<9223372036854775807):w64 ((i:Int)+1)=((i+1:Nat):Int):=by rw [qCI (by omega) (by omega)]; omega
theorem nth_get{α : Type}(z : α)(l:List α)(i:Nat)(h:i<l.length):nth z l (i:Int)=l[i]:=by simp [nth,h]
def step(at_:Int)(s:ql):Option Int :=
 if s.f0=1 then (if at_ = -1∧s.f1=0∧s.f2=0 then some 0 else none)
 else if s.f0=3 then (if at_=3∧s.f1=0∧s.f2=0 then some (-1) else none)
 else if s.f0=2 then (if 0≤at_∧at_<s.f1∧s.f1≤3∧(s.f1=2→at_=1)∧1≤s.f2∧s.f2≤12 then some s.f1 else none)
 else none
theorem qHl{a b:Int}{s:ql}(ha : -1≤a)(h:step a s=some b): -1≤b:=by
 unfold step at h
 repeat' (split at h)
 all_goals first | (cases h; omega) | (cases h)
def goes:Int→List ql→Bool
 | _,[]=>true
 | a,s :: l=>match step a s with
  | some b=>goes b l
  | none=>false
def May(l:List ql):Prop:=(1≤l.length∧l.length≤8)∧goes (-1) l=true
instance (l:List ql):Decidable (May l):=inferInstanceAs (Decidable (_∧_))
theorem next(a:Int)(s:ql)(k:Nat)(ha : -1≤a):∃ b,qAt.f (k+1) a s=some (b,(step a s).isSome)∧∀ c,step a s=some c→b=c:=by
 unfold qAt.f step
 by_cases h1:s.f0=1
 ·simp only [if_pos h1]
  by_cases c1:a = -1
  ·by_cases c2:s.f1=0
   ·by_cases c3:s.f2=0
    ·exact ⟨0,by simp [c1,c2,c3],by simp [c1,c2,c3]⟩
    ·exact ⟨0,by simp [c1,c2,c3],by simp [c1,c2,c3]⟩
   ·exact ⟨0,by simp [c1,c2],by simp [c1,c2]⟩
  ·exact ⟨0,by simp [c1],by simp [c1]⟩
 ·simp only [if_neg h1]
  by_cases h3:s.f0=3
  ·simp only [if_pos h3]
   by_cases c1:a=3
   ·by_cases c2:s.f1=0
    ·by_cases c3:s.f2=0
     ·exact ⟨-1,by simp [c1,c2,c3],by simp [c1,c2,c3]⟩
     ·exact ⟨-1,by simp [c1,c2,c3],by simp [c1,c2,c3]⟩
    ·exact ⟨-1,by simp [c1,c2],by simp [c1,c2]⟩
   ·exact ⟨-1,by simp [c1],by simp [c1]⟩
  ·simp only [if_neg h3]
   by_cases h2:s.f0=2
   ·simp only [if_pos h2,qAt.j23_s]
    refine ⟨s.f1,?_,?_⟩
    ·by_cases c0:0≤a∧a<s.f1∧s.f1≤3∧(s.f1=2→a=1)∧1≤s.f2∧s.f2≤12
     ·rw [if_pos c0,if_pos (by omega),if_pos c0.2.2.1]
      have:(if s.f1=2 then (if a = -1 then (some (s.f1,false):Option (Int × Bool)) else (if (a == 1)=true then (if s.f2≥1 then some (s.f1,decide (s.f2≤12)) else some (s.f1,false)) else some (s.f1,false))) else (if a = -1 then some (s.f1,false) else (if true=true then (if s.f2≥1 then some (s.f1,decide (s.f2≤12)) else some (s.f1,false)) else some (s.f1,false))))=some (s.f1,true):=by
       obtain ⟨q1,q2,q3,q4,q5,q6⟩:=c0
       by_cases d:s.f1=2
       ·have:=q4 d
        simp [d,this,q5,q6]
       ·have:¬ a = -1:=by omega
        simp [d,this,q5,q6]
      exact this
     ·rw [if_neg c0]
      have key:∀ y:Bool,(y=true→¬ (0≤a∧1≤s.f2∧s.f2≤12))→(if a = -1 then (some (s.f1,false):Option (Int × Bool)) else (if y=true then (if s.f2≥1 then some (s.f1,decide (s.f2≤12)) else some (s.f1,false)) else some (s.f1,false)))=some (s.f1,false):=by
       intro y hy
       by_cases d:a = -1
       ·rw [if_pos d]
       ·rw [if_neg d]
        cases y with
        | false=>rfl
        | true =>
         rw [if_pos rfl]
         by_cases e1:s.f2≥1
         ·rw [if_pos e1,dF (fun e2=>hy rfl ⟨by omega,e1,e2⟩)]
         ·rw [if_neg e1]
      by_cases d1:s.f1>a
      ·rw [if_pos d1]
       by_cases d2:s.f1≤3
       ·rw [if_pos d2]
        by_cases d3:s.f1=2
        ·rw [if_pos d3]
         exact key _ (fun hy hh=>c0 ⟨hh.1,d1,d2,fun _=>by simpa using hy,hh.2⟩)
        ·rw [if_neg d3]
         simpa using key true (fun _ hh=>c0 ⟨hh.1,d1,d2,fun e=>absurd e d3,hh.2⟩)
       ·rw [if_neg d2]
        exact key _ (fun hy=>by cases hy)
      ·rw [if_neg d1]
       exact key _ (fun hy=>by cases hy)
    ·intro c hc
     split at hc
     ·exact Option.some.inj hc
     ·cases hc
   ·simp only [if_neg h2]
    exact ⟨-1,by simp,by simp⟩
theorem qGM(l:List ql)(hl:l.length≤1000):∀(d k i:Nat)(a:Int), -1≤a→i+d=l.length→d+1<k→qAd.l18 k l a (i:Int)=some (if goes a (l.drop i)=true then 0 else 1):=by
 intro d
 induction d with
 | zero =>
  intro k i a ha hi hk
  obtain ⟨k,rfl⟩:∃ m,k=m+1:=⟨k - 1,by omega⟩
  rw [qAd.l18_s,if_neg (by omega),List.drop_eq_nil_of_le (by omega)]
  rfl
 | succ d ih =>
  intro k i a ha hi hk
  obtain ⟨k,rfl⟩:∃ m,k=m+2:=⟨k - 2,by omega⟩
  have h1:i<l.length:=by omega
  rw [qAd.l18_s,if_pos (by omega),if_pos (by omega),nth_get _ _ _ h1,w64n i (by omega),List.drop_eq_getElem_cons h1]
  obtain ⟨b,hb,hc⟩:=next a (⟨l[i].f0,l[i].f1,l[i].f2⟩:ql) k ha
  rw [hb,Option.bind_some]
  dsimp only
  have hs:(⟨l[i].f0,l[i].f1,l[i].f2⟩:ql)=l[i]:=rfl
  rw [hs]at hc ⊢
  cases hst:step a l[i] with
  | none =>
   simp only [goes,hst,Option.isSome_none,Bool.false_eq_true,if_false]
  | some c =>
   obtain rfl:=hc c hst
   simp only [goes,hst,Option.isSome_some,if_true]
   exact ih (k+1) (i+1) b (qHl ha hst) (by omega) (by omega)
theorem check(l:List ql)(k:Nat)(hk:1100<k):qAd.f k l=some (if May l then 0 else 1):=by
 obtain ⟨k,rfl⟩:∃ m,k=m+1:=⟨k - 1,by omega⟩
 unfold qAd.f
 by_cases h0:(l.length:Int)=0
 ·rw [if_pos h0,qAd.j6_s,if_pos rfl,if_neg (fun h:May l=>by have:=h.1.1; omega)]
 ·rw [if_neg h0,qAd.j6_s]
  by_cases h8:(l.length:Int)>8
  ·rw [if_pos (dT h8),if_neg (fun h:May l=>by have:=h.1.2; omega)]
  ·rw [if_neg (by simpa using h8)]
   refine (qGM l (by omega) l.length k 0 (-1) (by omega) (by omega) (by omega)).trans ?_
   rw [List.drop_zero]
   by_cases h:goes (-1) l=true
   ·rw [if_pos h,if_pos (show May l from ⟨⟨by omega,by omega⟩,h⟩)]
   ·rw [if_neg h,if_neg (fun hh:May l=>h hh.2)]
theorem common(k:Nat)(n:Int):qAl.f (k+1) n=some (if 1≤n∧n≤3 then [(⟨1,0,0⟩:ql),⟨2,1,n⟩,⟨2,2,1⟩,⟨2,3,1⟩,⟨3,0,0⟩] else []):=by
 unfold qAl.f
 simp only [qAl.j6_s]
 by_cases h1:n<1
 ·rw [if_pos h1,if_pos trivial,if_neg (by omega)]
 ·rw [if_neg h1]
  by_cases h3:n>3
  ·rw [if_pos (dT h3),if_neg (by omega)]
  ·rw [if_neg (by simpa using h3),if_pos ⟨by omega,by omega⟩]
end Rule
namespace Place
def kids(l:List qA)(g:Int)(s:ql)(z r:Int):List Int :=
 (Draw.ord (Mixn.fold (Draw.un g) [Draw.un s.f1,Draw.un z,Draw.un r]) (if s.f1=1 then Topo.wL Topo.isZ Topo.ofZ l else if s.f1=2 then Topo.wL (Topo.isR z) Topo.ofR l else Topo.wL (Topo.isL z r) Topo.ofL l)).map (fun x=>x.f0)
def deeper(s:ql)(x:qf)(id:Int):qf:=if s.f1=1 then ⟨id,x.f1,x.f2⟩ else if s.f1=2 then ⟨x.f0,id,x.f2⟩ else ⟨x.f0,x.f1,id⟩
def qIO(l:List qA)(g:Int)(s:ql)(x:qf):List qf:=((kids l g s x.f0 x.f1).take s.f2.toNat).map (deeper s x)
def emit(size:Int)(out:List Int)(x:qf):List Int:=if (out.length:Int)<size∧¬ x.f2 ∈ out then out++[x.f2] else out
def stepL(l:List qA)(g size:Int)(p:List qf × List Int)(s:ql):List qf × List Int :=
 if s.f0=1 then ([⟨0,0,0⟩],p.2) else if s.f0=2 then (p.1.flatMap (qIO l g s),p.2) else ([],p.1.foldl (emit size) p.2)
def runL(l:List qA)(rule:List ql)(g size:Int):List Int:=(rule.foldl (stepL l g size) ([],[])).2
theorem fold_lt(s:Nat)(hs:s<18446744073709551616)(l:List Nat):Mixn.fold s l<18446744073709551616:=by
 unfold Mixn.fold
 have h0:=Mixn.mix_lt s
 generalize Mixn.mix s=x at h0 ⊢
 induction l generalizing x with
 | nil=>exact h0
 | cons a l ih=>exact ih _ (Mixn.step_lt _ _)
theorem qFK{l:List qA}(h:Topo.Nodes l)(g:Int)(s:ql)(z r:Int):(kids l g s z r).length≤12:=by
 have hl:=h.1
 unfold kids Draw.ord
 rw [List.length_map,qCQ]
 refine Nat.le_trans (List.length_filter_le _ _) ?_
 split
 ·exact Nat.le_trans (Topo.wL_full _ _ h).2 hl
 ·split
  ·exact Nat.le_trans (Topo.wL_full _ _ h).2 hl
  ·exact Nat.le_trans (Topo.wL_full _ _ h).2 hl
theorem fold3(g a b c:Int):Ev (fun k=>qBB.f k (IntKind.u64.wrap g) [IntKind.u64.wrap a,IntKind.u64.wrap b,IntKind.u64.wrap c]) ((Mixn.fold (Draw.un g) [Draw.un a,Draw.un b,Draw.un c]:Nat):Int):=by
 have h:=Draw.fold (Draw.un g) (Draw.un_eq g).2 [Draw.un a,Draw.un b,Draw.un c] (fun x hx=>by
  simp only [List.mem_cons,List.not_mem_nil,or_false]at hx
  rcases hx with rfl | rfl | rfl <;> exact (Draw.un_eq _).2) (by simp)
 rw [(Draw.un_eq g).1,(Draw.un_eq a).1,(Draw.un_eq b).1,(Draw.un_eq c).1]
 exact h
theorem qEV{l:List qA}(h:Topo.Nodes l):Draw.Chs (Topo.wL Topo.isZ Topo.ofZ l):=Topo.wL_chs _ _ h (fun n hn=>by unfold Topo.okN at hn; unfold Topo.ofZ; omega)
theorem qGN{l:List qA}(h:Topo.Nodes l)(z:Int):Draw.Chs (Topo.wL (Topo.isR z) Topo.ofR l):=Topo.wL_chs _ _ h (fun n hn=>by unfold Topo.okN at hn; unfold Topo.ofR; omega)
theorem qFZ{l:List qA}(h:Topo.Nodes l)(z r:Int):Draw.Chs (Topo.wL (Topo.isL z r) Topo.ofL l):=Topo.wL_chs _ _ h (fun n hn=>by unfold Topo.okN at hn; unfold Topo.ofL; omega)
theorem qFa(x:qf)(s:ql)(o:List Int)(n:Nat)(hn:n≤o.length)(ho:o.length≤12)(he:(if (o.length:Int)<s.f2 then (o.length:Int) else s.f2)=(n:Int)):∀(d i:Nat),i+d=n→Ev (fun k=>qAF.l80 k x s o ((o.take i).map (deeper s x)) (i:Int)) ((o.take n).map (deeper s x)):=by
 have ec:cutl o 0 (n:Int)=o.take n:=by simp [cutl]
 have el:(o.take n).length=n:=by rw [List.length_take]; omega
 intro d
 induction d with
 | zero =>
  intro i hi
  refine .s (qAF.l80_s · _ _ _ _ _) ?_
  rw [he,ec,el]
  refine .n (by omega) (.cv ?_)
  rw [show i=n by omega]
 | succ d ih =>
  intro i hi
  have ih:=ih (i+1) (by omega)
  have h1:i<o.length:=by omega
  have h2:i<(o.take n).length:=by omega
  refine .s (qAF.l80_s · _ _ _ _ _) ?_
  rw [he,ec,el,nth_get _ _ _ h2,List.getElem_take]
  rw [← List.take_append_getElem h1,List.map_append,List.map_singleton]at ih
  unfold deeper at ih ⊢
  have hq:((o.take i).map (deeper s x)).length≤12:=by rw [List.length_map,List.length_take]; omega
  unfold deeper at hq
  refine .t (by omega) (.t (by omega) ?_)
  refine .i (fun c=>?_) (fun c=>?_)
  ·refine .s (qAF.j110_s · _ _ _ _ _ _ _ _) (.t (by omega) ?_)
   rw [w64n i (by omega)]
   rwa [if_pos c]at ih
  ·rw [if_neg c]at ih
   refine .i (fun c=>?_) (fun c=>?_)
   ·refine .s (qAF.j110_s · _ _ _ _ _ _ _ _) (.t (by omega) ?_)
    rw [w64n i (by omega)]
    rwa [if_pos c]at ih
   ·refine .s (qAF.j110_s · _ _ _ _ _ _ _ _) (.t (by omega) ?_)
    rw [w64n i (by omega)]
    rwa [if_neg c]at ih
theorem choose{l:List qA}(h:Topo.Nodes l)(x:qf)(s:ql)(g:Int)(hs:1≤s.f2):Ev (fun k=>qAF.f k l x s g) (qIO l g s x):=by
 have hk:=qFK h g s x.f0 x.f1
 have hj:∀ c,Draw.Chs c→kids l g s x.f0 x.f1=(Draw.ord (Mixn.fold (Draw.un g) [Draw.un s.f1,Draw.un x.f0,Draw.un x.f1]) c).map (fun x=>x.f0)→Ev (fun k=>qAF.j42 k x s g c) (qIO l g s x):=by
  intro c hc e
  refine .s (qAF.j42_s · _ _ _ _) (.b (fold3 g s.f1 x.f0 x.f1) (.b (Draw.order _ (fold_lt _ (Draw.un_eq g).2 _) c hc) ?_))
  rw [← e]
  unfold qIO
  generalize kids l g s x.f0 x.f1=o at hk ⊢
  have he:(if (o.length:Int)<s.f2 then (o.length:Int) else s.f2)=((min s.f2.toNat o.length:Nat):Int):=by
   split <;> omega
  rw [he]
  refine .t (by omega) ?_
  have:=qFa x s o (min s.f2.toNat o.length) (by omega) hk he (min s.f2.toNat o.length) 0 (by omega)
  rw [← List.take_eq_take_min]at this
  exact this
 unfold qAF.f
 have hz:=qEV h
 have hr:=qGN h x.f0
 have hv:=qFZ h x.f0 x.f1
 unfold kids at hj
 refine .i (fun c=>.b (Topo.zones h) (hj _ hz (by rw [if_pos c]))) (fun c=>.i (fun c2=>.b (Topo.racks h _) (hj _ hr (by rw [if_neg c,if_pos c2]))) (fun c2=>.b (Topo.leaves h _ _) (hj _ hv (by rw [if_neg c,if_neg c2]))))
theorem qHm{a:Int}{s:ql}{r:List ql}(h:Rule.goes a (s :: r)=true):∃ b,Rule.goes b r=true∧((s.f0=1∧a = -1∧b=0)∨(s.f0=2∧(1≤s.f1∧s.f1≤3)∧(1≤s.f2∧s.f2≤12)∧b=s.f1∧0≤a)∨(s.f0=3∧b = -1∧a=3)):=by
 unfold Rule.goes at h
 split at h
 ·rename_i b hb
  refine ⟨b,h,?_⟩
  unfold Rule.step at hb
  by_cases c1:s.f0=1
  ·rw [if_pos c1]at hb
   split at hb
   ·cases hb; exact .inl ⟨c1,by omega,rfl⟩
   ·cases hb
  ·rw [if_neg c1]at hb
   by_cases c3:s.f0=3
   ·rw [if_pos c3]at hb
    split at hb
    ·cases hb; exact .inr (.inr ⟨c3,rfl,by omega⟩)
    ·cases hb
   ·rw [if_neg c3]at hb
    split at hb
    ·split at hb
     ·cases hb; exact .inr (.inl ⟨by assumption,by omega,by omega,rfl,by omega⟩)
     ·cases hb
    ·cases hb
 ·cases h
theorem qDx{α β : Type}(f : α→List β)(hf:∀ x,(f x).length≤12):∀ l:List α,(l.flatMap f).length≤12 * l.length
 | []=>Nat.le_refl _
 | x :: l=>by
  have:=qDx f hf l
  have:=hf x
  rw [List.flatMap_cons,lA,List.length_cons]
  omega
theorem qCl{l:List qA}(h:Topo.Nodes l)(g:Int)(s:ql)(x:qf):(qIO l g s x).length≤12:=by
 unfold qIO
 rw [List.length_map,List.length_take]
 have:=qFK h g s x.f0 x.f1
 omega
theorem qGO{α β : Type}(f : α→List β)(l:List α)(i:Nat)(h:i<l.length):(l.take (i+1)).flatMap f=(l.take i).flatMap f++f l[i]:=by
 rw [← List.take_append_getElem h,List.flatMap_append]
 simp
theorem qHn {l:List qA} (h:Topo.Nodes l) (rule:List ql) (g size:Int) (hand:List qf) (out:List Int) (i:Nat) (hi:i<rule.length) (hs:1≤rule[i].f2) (hh:hand.length≤429981696) {v:List Int × Int}
  (hv:Ev (fun k=>qz.l38 k l rule g size (hand.flatMap (qIO l g rule[i])) out (w64 ((i:Int)+1))) v):∀(d j:Nat),j+d=hand.length→Ev (fun k=>qz.l73 k l rule g size hand out (i:Int) ((hand.take j).flatMap (qIO l g rule[i])) (j:Int)) v:=by
 intro d
 induction d with
 | zero =>
  intro j hj
  refine .s (qz.l73_s · _ _ _ _ _ _ _ _ _) (.n (by omega) ?_)
  rw [List.take_of_length_le (by omega)]
  exact hv
 | succ d ih =>
  intro j hj
  have h1:j<hand.length:=by omega
  have ih:=ih (j+1) (by omega)
  rw [qGO _ _ _ h1]at ih
  have hlen:=qDx (qIO l g rule[i]) (qCl h g rule[i]) (hand.take j)
  have hlen2:=qCl h g rule[i] hand[j]
  rw [List.length_take]at hlen
  refine .s (qz.l73_s · _ _ _ _ _ _ _ _ _) (.t (by omega) (.t (by omega) ?_))
  rw [nth_get _ _ _ h1,nth_get _ _ _ hi,w64n j (by omega)]
  exact .b (choose h hand[j] rule[i] g hs) (.t (by omega) ih)
theorem qDy(size:Int)(hand:List qf):∀ out:List Int,(out.length:Int)≤size→((hand.foldl (emit size) out).length:Int)≤size:=by
 induction hand with
 | nil=>exact fun _ h=>h
 | cons x r ih =>
  intro out h
  refine ih _ ?_
  unfold emit
  split
  ·rw [lA,List.length_singleton]; omega
  ·exact h
theorem qFb{α β : Type}(f : β→α→β)(b : β)(l:List α)(i:Nat)(h:i<l.length):(l.take (i+1)).foldl f b=f ((l.take i).foldl f b) l[i]:=by
 rw [← List.take_append_getElem h,List.foldl_append]
 rfl
theorem qHG (l:List qA) (rule:List ql) (g size:Int) (hz:size≤3) (hand:List qf) (out:List Int) (ho:(out.length:Int)≤size) (i:Nat) (hh:hand.length≤429981696) {v:List Int × Int}
  (hv:Ev (fun k=>qz.l38 k l rule g size [] (hand.foldl (emit size) out) (w64 ((i:Int)+1))) v):∀(d j:Nat),j+d=hand.length→Ev (fun k=>qz.l111 k l rule g size hand (i:Int) ((hand.take j).foldl (emit size) out) (j:Int)) v:=by
 intro d
 induction d with
 | zero =>
  intro j hj
  refine .s (qz.l111_s · _ _ _ _ _ _ _ _) (.n (by omega) ?_)
  rw [List.take_of_length_le (by omega)]
  exact hv
 | succ d ih =>
  intro j hj
  have h1:j<hand.length:=by omega
  have ih:=ih (j+1) (by omega)
  rw [qFb _ _ _ _ h1]at ih
  have hlen:=qDy size (hand.take j) out ho
  generalize (hand.take j).foldl (emit size) out=q at ih hlen ⊢
  have hj:∀ y:Bool,y=decide ((q.length:Int)<size∧¬ hand[j].f2 ∈ q)→Ev (fun k=>qz.j135 k l rule g size hand (i:Int) q (j:Int) y) v:=by
   intro y hy
   subst hy
   refine .s (qz.j135_s · _ _ _ _ _ _ _ _ _) ?_
   rw [nth_get _ _ _ h1,w64n j (by omega)]
   unfold emit at ih
   refine .i (fun c=>?_) (fun c=>?_)
   ·rw [if_pos (oT c)]at ih
    exact .t (by omega) ih
   ·rw [if_neg (fun e=>c (dT e))]at ih
    exact ih
  refine .s (qz.l111_s · _ _ _ _ _ _ _ _) (.t (by omega) (.t (by omega) ?_))
  rw [nth_get _ _ _ h1]
  refine .i (fun c=>.b (Topo.contains q hand[j].f2 (by omega)) (hj _ ?_)) (fun c=>hj _ ?_)
  ·by_cases c2:hand[j].f2 ∈ q
   ·simp [c2]
   ·simp [c,c2]
  ·simp [c]
theorem qHo{l:List qA}(h:Topo.Nodes l)(rule:List ql)(hr:rule.length≤8)(g size:Int)(hz:size≤3):∀(d i:Nat)(hand:List qf)(out:List Int)(a:Int),i+d=rule.length→hand.length≤12 ^ i→(out.length:Int)≤size→Rule.goes a (rule.drop i)=true→Ev (fun k=>qz.l38 k l rule g size hand out (i:Int)) (((rule.drop i).foldl (stepL l g size) (hand,out)).2,0):=by
 intro d
 induction d with
 | zero =>
  intro i hand out a hi _ _ _
  refine .s (qz.l38_s · _ _ _ _ _ _ _) (.n (by omega) (.cv ?_))
  rw [List.drop_eq_nil_of_le (by omega)]
  rfl
 | succ d ih =>
  intro i hand out a hi hh ho hg
  have h1:i<rule.length:=by omega
  have hp:hand.length≤429981696:=Nat.le_trans hh (Nat.le_trans (Nat.pow_le_pow_right (by omega) (show i≤8 by omega)) (by decide))
  have h12:0<12 ^ i:=Nat.pow_pos (by omega)
  rw [List.drop_eq_getElem_cons h1]at hg ⊢
  obtain ⟨b,hb,hc⟩:=qHm hg
  rw [List.foldl_cons]
  refine .s (qz.l38_s · _ _ _ _ _ _ _) (.t (by omega) (.t (by omega) ?_))
  rw [nth_get _ _ _ h1]
  rcases hc with ⟨c1,_,_⟩ | ⟨c1,c2,c3,_,_⟩ | ⟨c1,_,_⟩
  ·refine .t c1 ?_
   rw [w64n i (by omega),stepL,if_pos c1]
   exact ih (i+1) _ _ b (by omega) (by rw [Nat.pow_succ,List.length_singleton]; omega) ho hb
  ·refine .n (by omega) (.t c1 ?_)
   rw [stepL,if_neg (by omega),if_pos c1]
   refine qHn h rule g size hand out i h1 c3.1 hp ?_ hand.length 0 (by omega)
   rw [w64n i (by omega)]
   refine ih (i+1) _ _ b (by omega) ?_ ho hb
   have:=qDx (qIO l g rule[i]) (qCl h g rule[i]) hand
   rw [Nat.pow_succ]
   omega
  ·refine .n (by omega) (.n (by omega) ?_)
   rw [stepL,if_neg (by omega),if_neg (by omega)]
   refine qHG l rule g size hz hand out ho i hp ?_ hand.length 0 (by omega)
   rw [w64n i (by omega)]
   exact ih (i+1) _ _ b (by omega) (Nat.zero_le _) (qDy size hand out ho) hb
def mayRun(l:List qA)(rule:List ql)(g size:Int):Prop:=Topo.Nodes l∧Rule.May rule∧(0≤g∧g<8)∧1≤size∧size≤3
instance (l:List qA) (rule:List ql) (g size:Int):Decidable (mayRun l rule g size):=inferInstanceAs (Decidable (_∧_))
theorem run(l:List qA)(rule:List ql)(g size:Int):Ev (fun k=>qz.f k l rule g size) (if mayRun l rule g size then (runL l rule g size,0) else ([],1)):=by
 have hc:Ev (fun k=>qAd.f k rule) (if Rule.May rule then 0 else 1):=⟨1101,fun k hk=>Rule.check rule k (by omega)⟩
 have hj:∀ y:Bool,y=decide (¬ (1≤size∧size≤3))→Topo.Nodes l→Rule.May rule→(0≤g∧g<8)→Ev (fun k=>qz.j16 k l rule g size y) (if mayRun l rule g size then (runL l rule g size,0) else ([],1)):=by
  intro y hy h1 h2 h3
  subst hy
  refine .s (qz.j16_s · _ _ _ _ _) ?_
  refine .i (fun c=>?_) (fun c=>?_)
  ·rw [if_neg (fun e=>oT c e.2.2.2)]
   exact .c _
  ·have c:1≤size∧size≤3:=Decidable.not_not.1 (fun e=>c (dT e))
   rw [if_pos ⟨h1,h2,h3,c⟩]
   exact qHo h1 rule h2.1.2 g size c.2 rule.length 0 [] [] (-1) (by omega) (Nat.zero_le _) (by have:=c.1; show ((0:Nat):Int)≤size; omega) h2.2
 have hn:¬ mayRun l rule g size→Ev (fun k=>qz.j16 k l rule g size true) (if mayRun l rule g size then (runL l rule g size,0) else ([],1)):=by
  intro c
  rw [if_neg c]
  exact .s (qz.j16_s · _ _ _ _ _) (.t rfl (.c _))
 unfold qz.f
 refine .b (Topo.check' l) ?_
 by_cases h1:Topo.Nodes l
 ·rw [dT h1]
  refine .t rfl (.b hc ?_)
  by_cases h2:Rule.May rule
  ·rw [if_pos h2]
   refine .t rfl (.i (fun c=>hn (fun e=>by have:=e.2.2.1; omega)) (fun c=>.i (fun c=>hn (fun e=>by have:=e.2.2.1; omega)) (fun c2=>.i (fun c=>hn (fun e=>by have:=e.2.2.2; omega)) (fun c3=>hj _ ?_ h1 h2 ⟨by omega,by omega⟩))))
   rw [decide_eq_decide]
   omega
  ·rw [if_neg h2]
   exact .n (by decide) (hn (fun e=>h2 e.2.1))
 ·rw [dF h1]
  exact .n (by decide) (hn (fun e=>h1 e.1))
theorem qEW(l:List qA)(g size:Int):∀(rule:List ql)(p:List qf × List Int),(p.2.length:Int)≤size→((rule.foldl (stepL l g size) p).2.length:Int)≤size
 | [],_,h=>h
 | s :: r,p,h=>by
  refine qEW l g size r _ ?_
  unfold stepL
  split
  ·exact h
  ·split
   ·exact h
   ·exact qDy size _ _ h
theorem qIM(l:List qA)(rule:List ql)(g size:Int)(h:1≤size):((runL l rule g size).length:Int)≤size:=qEW l g size rule ([],[]) (by show ((0:Nat):Int)≤size; omega)
end Place
namespace Topo
def apartR(l:List qA):List Int→List Int→Bool
 | _,[]=>true
 | met,id :: r=>match l.find? (fun n=>decide (n.f0=id)) with
  | some n => !decide (n.f1 ∈ met)&&apartR l (met++[n.f1]) r
  | none=>false
def apartT(l:List qA):List Int→List Int→Bool
 | _,[]=>true
 | met,id :: r=>match l.find? (fun n=>decide (n.f0=id) && !decide (n.f1 ∈ met)) with
  | some n=>apartT l (met++[n.f1]) r
  | none=>false
theorem qGP (l:List qA) (ids met:List Int) (i:Nat) (w:Bool) (hl:l.length<4611686018427387904) (hm:met.length<1000000000000) (hi:i<ids.length) (hil:ids.length<4611686018427387904)
  (hs:∀ n,l.find? (fun n=>decide (n.f0=ids[i]) && !decide (n.f1 ∈ met))=some n→Ev (fun k=>qAP.l18 k l ids (met++[n.f1]) ((i+1:Nat):Int)) w)
  (hn:l.find? (fun n=>decide (n.f0=ids[i]) && !decide (n.f1 ∈ met))=none→w=false) :
  ∀(d j:Nat),j+d=l.length→(l.take j).find? (fun n=>decide (n.f0=ids[i]) && !decide (n.f1 ∈ met))=none→Ev (fun k=>qAP.l35 k l ids met (i:Int) (j:Int)) w:=by
 intro d
 induction d with
 | zero =>
  intro j hj ht
  refine .s (qAP.l35_s · _ _ _ _ _) (.n (by omega) (.cv ?_))
  rw [List.take_of_length_le (by omega)]at ht
  exact (hn ht).symm
 | succ d ih =>
  intro j hj ht
  have h1:j<l.length:=by omega
  refine .s (qAP.l35_s · _ _ _ _ _) (.t (by omega) (.t (by omega) ?_))
  have hb:∀ b:Bool,b=(decide (l[j].f0=ids[i]) && !decide (l[j].f1 ∈ met))→Ev (fun k=>qAP.j58 k l ids met (i:Int) (j:Int) b) w:=by
   intro b hb
   refine .s (qAP.j58_s · _ _ _ _ _ _) ?_
   cases b with
   | true =>
    refine .t rfl (.t (by omega) ?_)
    rw [nth_get _ _ _ h1,w64n i (by omega)]
    refine hs _ ?_
    have e:=congrArg (List.find? (fun n=>decide (n.f0=ids[i]) && !decide (n.f1 ∈ met))) (List.take_append_drop j l)
    rw [← e,List.find?_append,ht,List.drop_eq_getElem_cons h1,List.find?_cons_of_pos (p:=fun n:qA=>decide (n.f0=ids[i]) && !decide (n.f1 ∈ met)) hb.symm]
    rfl
   | false =>
    refine .n (by decide) ?_
    rw [w64n j (by omega)]
    refine ih (j+1) (by omega) ?_
    rw [List.take_add_one,List.find?_append,ht,List.getElem?_eq_getElem h1]
    simp only [Option.toList_some,Option.none_or]
    rw [List.find?_cons_of_neg]
    ·rfl
    ·rw [← hb]; decide
  rw [nth_get _ _ _ h1,nth_get _ _ _ hi]
  by_cases h:l[j].f0=ids[i]
  ·refine .t h (.b (contains met _ (by omega)) (hb _ ?_))
   rw [dT h]; rfl
  ·refine .n h (hb _ ?_)
   rw [dF h]; rfl
theorem qGQ(l:List qA)(ids:List Int)(hl:l.length<4611686018427387904)(hil:ids.length<500000000000):∀(d i:Nat)(met:List Int),i+d=ids.length→met.length=i→Ev (fun k=>qAP.l18 k l ids met (i:Int)) (apartT l met (ids.drop i)):=by
 intro d
 induction d with
 | zero =>
  intro i met hi hm
  refine .s (qAP.l18_s · _ _ _ _) (.n (by omega) (.cv ?_))
  rw [List.drop_eq_nil_of_le (by omega)]
  rfl
 | succ d ih =>
  intro i met hi hm
  have h1:i<ids.length:=by omega
  refine .s (qAP.l18_s · _ _ _ _) (.t (by omega) (.t (by omega) ?_))
  refine qGP l ids met i _ hl (by omega) h1 (by omega) ?_ ?_ l.length 0 (by omega) rfl
  ·intro n hn
   refine (ih (i+1) _ (by omega) (by simp [hm])).v ?_
   rw [List.drop_eq_getElem_cons h1,apartT,hn]
  ·intro hn
   rw [List.drop_eq_getElem_cons h1,apartT,hn]
theorem qGR:∀(p:Int)(l:List qA),rise p l=true→∀ n ∈ l,p<n.f0
 | _,[],_,_,h=>nomatch h
 | p,m :: l,h,n,hn=>by
  simp only [rise,Bool.and_eq_true,decide_eq_true_eq]at h
  rcases List.mem_cons.1 hn with rfl | hn
  ·exact h.1.2
  ·exact Int.lt_trans h.1.2 (qGR _ l h.2 n hn)
theorem qFL(id:Int)(met:List Int):∀(p:Int)(l:List qA),rise p l=true→l.find? (fun n=>decide (n.f0=id) && !decide (n.f1 ∈ met))=match l.find? (fun n=>decide (n.f0=id)) with
  | some n=>if n.f1 ∈ met then none else some n
  | none=>none
 | _,[],_=>rfl
 | p,m :: l,h=>by
  simp only [rise,Bool.and_eq_true,decide_eq_true_eq]at h
  by_cases hm:m.f0=id
  ·rw [List.find?_cons_of_pos (a:=m) (p:=fun n:qA=>decide (n.f0=id)) (by simpa using hm)]
   by_cases hz:m.f1 ∈ met
   ·simp only [hz,if_true]
    rw [List.find?_eq_none]
    intro n hn
    rcases List.mem_cons.1 hn with rfl | hn
    ·simp [hz]
    ·have:=qGR _ _ h.2 n hn
     have:¬ n.f0=id:=by omega
     simp [this]
   ·rw [List.find?_cons_of_pos (by simp [hm,hz])]
    simp only [hz,if_false]
  ·rw [List.find?_cons_of_neg (by simp [hm]),List.find?_cons_of_neg (by simpa using hm)]
   exact qFL id met _ l h.2
theorem qDm(l:List qA)(h:rise 0 l=true):∀(ids met:List Int),apartT l met ids=apartR l met ids
 | [],_=>rfl
 | id :: r,met=>by
  rw [apartT,apartR,qFL id met 0 l h]
  cases l.find? (fun n=>decide (n.f0=id)) with
  | none=>rfl
  | some n =>
   by_cases hz:n.f1 ∈ met
   ·simp [hz]
   ·simp only [hz,if_false,decide_false,Bool.not_false,Bool.true_and]
    exact qDm l h r _
theorem apart(l:List qA)(ids:List Int)(hl:l.length<4611686018427387904)(hil:ids.length<500000000000):Ev (fun k=>qAP.f k l ids) (decide (Nodes l)&&apartR l [] ids):=by
 unfold qAP.f
 refine .b (check l hl) ?_
 by_cases h:Nodes l
 ·rw [dT h]
  refine .t rfl ((qGQ l ids hl hil ids.length 0 [] (by omega) rfl).v ?_)
  rw [List.drop_zero,qDm l h.2,Bool.true_and]
 ·rw [dF h]
  exact .n (by decide) (.c _)
def find(l:List qA)(id:Int):qA × Bool:=match l.find? (fun n=>decide (n.f0=id)) with
 | some n=>(n,true)
 | none=>(⟨0,0,0,0,false,false⟩,false)
theorem qHp(l:List qA)(id:Int)(hl:l.length<4611686018427387904):∀(d i:Nat),i+d=l.length→Ev (fun k=>qAI.l7 k l id (i:Int)) (find (l.drop i) id):=by
 intro d
 induction d with
 | zero =>
  intro i hi
  refine .s (qAI.l7_s · _ _ _) (.n (by omega) (.cv ?_))
  rw [List.drop_eq_nil_of_le (by omega)]
  rfl
 | succ d ih =>
  intro i hi
  have h1:i<l.length:=by omega
  refine .s (qAI.l7_s · _ _ _) (.t (by omega) (.t (by omega) ?_))
  rw [List.drop_eq_getElem_cons h1,nth_get _ _ _ h1]
  by_cases h:l[i].f0=id
  ·refine .t h (.cv ?_)
   rw [find,List.find?_cons_of_pos (by simpa using h)]
  ·refine .n h ?_
   rw [w64n i (by omega)]
   refine (ih (i+1) (by omega)).v ?_
   rw [find,find,List.find?_cons_of_neg (by simpa using h)]
theorem reffind(l:List qA)(id:Int)(hl:l.length<4611686018427387904):Ev (fun k=>qAI.f k l id) (find l id):=by
 unfold qAI.f
 exact qHp l id hl l.length 0 (by omega)
def zn(l:List qA)(id:Int):Int:=(find l id).1.f1
theorem qGS(l:List qA)(ids:List Int)(i:Nat)(t:qA × Bool)(w:Bool)(hl:l.length<4611686018427387904)(hi:i<ids.length)(hil:ids.length<4611686018427387904):∀(d j:Nat),j+d=i →
  (t.1.f1 ∈ ((ids.take i).drop j).map (zn l)→w=false)→(¬ t.1.f1 ∈ ((ids.take i).drop j).map (zn l)→Ev (fun k=>qn.l5 k l ids ((i+1:Nat):Int)) w) →
  Ev (fun k=>qn.l31 k l ids (i:Int) t (j:Int)) w:=by
 intro d
 induction d with
 | zero =>
  intro j hj _ hn
  refine .s (qn.l31_s · _ _ _ _ _) (.n (by omega) ?_)
  rw [w64n i (by omega)]
  refine hn ?_
  rw [List.drop_eq_nil_of_le (by simp; omega)]
  simp
 | succ d ih =>
  intro j hj hy hn
  have h1:j<ids.length:=by omega
  have h2:j<(ids.take i).length:=by simp; omega
  rw [List.drop_eq_getElem_cons h2,List.getElem_take,List.map_cons,List.mem_cons]at hy hn
  refine .s (qn.l31_s · _ _ _ _ _) (.t (by omega) (.t (by omega) ?_))
  rw [nth_get _ _ _ h1]
  refine .b (reffind l _ hl) ?_
  by_cases h:t.1.f1=zn l ids[j]
  ·exact .t h (.cv (hy (.inl h)).symm)
  ·refine .n h ?_
   rw [w64n j (by omega)]
   exact ih (j+1) (by omega) (fun m=>hy (.inr m)) (fun m=>hn (fun o=>o.elim h m))
theorem qHH(l:List qA)(ids:List Int)(hl:l.length<4611686018427387904)(hil:ids.length<500000000000):∀(d i:Nat),i+d=ids.length→Ev (fun k=>qn.l5 k l ids (i:Int)) (apartR l ((ids.take i).map (zn l)) (ids.drop i)):=by
 intro d
 induction d with
 | zero =>
  intro i hi
  refine .s (qn.l5_s · _ _ _) (.n (by omega) (.cv ?_))
  rw [List.drop_eq_nil_of_le (by omega)]
  rfl
 | succ d ih =>
  intro i hi
  have h1:i<ids.length:=by omega
  refine .s (qn.l5_s · _ _ _) (.t (by omega) (.t (by omega) ?_))
  rw [nth_get _ _ _ h1,List.drop_eq_getElem_cons h1,apartR]
  have ih:=ih (i+1) (by omega)
  rw [List.take_add_one,List.getElem?_eq_getElem h1,Option.toList_some,List.map_append,List.map_singleton]at ih
  refine .b (reffind l _ hl) ?_
  have e:zn l ids[i]=(find l ids[i]).1.f1:=rfl
  unfold find at e ⊢
  cases hf:l.find? (fun n=>decide (n.f0=ids[i])) with
  | none=>exact .n (by decide) (.c _)
  | some n =>
   rw [hf]at e
   rw [e]at ih
   refine .t rfl ?_
   refine qGS l ids i (n,true) _ hl h1 (by omega) i 0 (by omega) ?_ ?_
   ·intro h
    rw [List.drop_zero]at h
    show (!decide (n.f1 ∈ _)&&_)=false
    rw [dT h]
    rfl
   ·intro h
    rw [List.drop_zero]at h
    refine ih.v ?_
    show _=(!decide (n.f1 ∈ _)&&_)
    rw [dF h]
    rfl
theorem refapart(l:List qA)(ids:List Int)(hl:l.length<4611686018427387904)(hil:ids.length<500000000000):Ev (fun k=>qn.f k l ids) (apartR l [] ids):=by
 unfold qn.f
 exact qHH l ids hl hil ids.length 0 (by omega)
end Topo
namespace Place
theorem qFM{is:qA→Bool}{of:qA→Int}{l:List qA}{id:Int}(h:∀ n ∈ l,Topo.okW n):0<Topo.wSum is of l id↔∃ n ∈ l,is n=true∧of n=id∧0<Topo.weight n:=by
 induction l with
 | nil=>exact ⟨fun h=>absurd h (Int.lt_irrefl 0),fun h=>by obtain ⟨_,h,_⟩:=h; cases h⟩
 | cons n l ih =>
  have hl:∀ m ∈ l,Topo.okW m:=fun m hm=>h m (List.mem_cons_of_mem _ hm)
  have ih:=ih hl
  have h0:=(Topo.wSum_ge is of l id hl).1
  have hw:=(Topo.weight_ok (h n List.mem_cons_self)).1
  have e:Topo.wSum is of (n :: l) id=Topo.wSum is of l id+if is n=true∧of n=id then Topo.weight n else 0:=by
   unfold Topo.wSum
   rw [List.filter_cons]
   by_cases c:is n=true∧of n=id
   ·rw [if_pos (by simp [c]),if_pos c,List.map_cons,List.sum_cons]
    omega
   ·rw [if_neg (by simpa using c),if_neg c]
    omega
  rw [e]
  constructor
  ·intro hp
   by_cases c:is n=true∧of n=id
   ·rw [if_pos c]at hp
    by_cases hw0:0<Topo.weight n
    ·exact ⟨n,List.mem_cons_self,c.1,c.2,hw0⟩
    ·obtain ⟨m,hm,q⟩:=ih.1 (by omega)
     exact ⟨m,List.mem_cons_of_mem _ hm,q⟩
   ·rw [if_neg c]at hp
    obtain ⟨m,hm,q⟩:=ih.1 (by omega)
    exact ⟨m,List.mem_cons_of_mem _ hm,q⟩
  ·rintro ⟨m,hm,q1,q2,q3⟩
   rcases List.mem_cons.1 hm with rfl | hm
   ·rw [if_pos ⟨q1,q2⟩]
    omega
   ·have:=ih.2 ⟨m,hm,q1,q2,q3⟩
    split <;> omega
theorem qGT{key:Nat}{c:List qB}{x:qB}: x ∈ Draw.ord key c↔x ∈ c∧x.f1≠0:=by
 unfold Draw.ord Draw.heavy
 rw [qCY,List.mem_filter]
 simp
theorem qEq{l:List qA}(h:Topo.Nodes l)(is:qA→Bool)(of:qA→Int)(key:Nat)(id:Int):id ∈ (Draw.ord key (Topo.wL is of l)).map (fun x=>x.f0)↔∃ n ∈ l,is n=true∧of n=id∧0<Topo.weight n:=by
 have hW:=(Topo.wL_full is of h).1
 have h0:=(Topo.wSum_ge is of l id h.okW).1
 rw [← qFM h.okW,List.mem_map]
 have hc:∀ x:Int,0≤x→(Topo.cap x≠0↔0<x):=by
  intro x hx
  unfold Topo.cap
  split <;> omega
 constructor
 ·rintro ⟨c,hc1,rfl⟩
  obtain ⟨h1,h2⟩:=qGT.1 hc1
  rw [((hW.mem c).1 h1).2]at h2
  exact (hc _ h0).1 h2
 ·intro hp
  refine ⟨⟨id,Topo.cap (Topo.wSum is of l id)⟩,qGT.2 ⟨(hW.mem _).2 ⟨?_,rfl⟩,(hc _ h0).2 hp⟩,rfl⟩
  obtain ⟨n,hn,q1,q2,_⟩:=(qFM h.okW).1 hp
  exact ⟨n,hn,q1,q2⟩
def st2(size:Int):ql:=⟨2,1,size⟩
def st3:ql:=⟨2,2,1⟩
def st4:ql:=⟨2,3,1⟩
def commonL(size:Int):List ql:=[⟨1,0,0⟩,st2 size,st3,st4,⟨3,0,0⟩]
def zonesOf(l:List qA)(g:Int):List Int:=(Draw.ord (Mixn.fold (Draw.un g) [Draw.un 1,Draw.un 0,Draw.un 0]) (Topo.wL Topo.isZ Topo.ofZ l)).map (fun x=>x.f0)
def pick(l:List qA)(g:Int)(z:Int):List qf:=(qIO l g st3 ⟨z,0,0⟩).flatMap (qIO l g st4)
def pk(l:List qA)(g:Int)(z:Int):Int:=((pick l g z).headD ⟨0,0,0⟩).f2
theorem qHI{l:List qA}(h:Topo.Nodes l)(g:Int){z:Int}(hz:1≤z)(hn:∃ n ∈ l,n.f1=z∧0<Topo.weight n):∃ n ∈ l,n.f1=z∧0<Topo.weight n∧∃ r,pick l g z=[⟨z,r,n.f0⟩]:=by
 obtain ⟨n,hn,h1,h2⟩:=hn
 have k3:kids l g st3 z 0=(Draw.ord (Mixn.fold (Draw.un g) [Draw.un 2,Draw.un z,Draw.un 0]) (Topo.wL (Topo.isR z) Topo.ofR l)).map (fun x=>x.f0):=rfl
 have m3:=qEq h (Topo.isR z) Topo.ofR (Mixn.fold (Draw.un g) [Draw.un 2,Draw.un z,Draw.un 0])
 rw [← k3]at m3
 have hr:=(m3 n.f2).2 ⟨n,hn,by unfold Topo.isR; simpa using h1,rfl,h2⟩
 generalize hk:kids l g st3 z 0=k at hr m3
 cases k with
 | nil=>cases hr
 | cons r rs =>
  obtain ⟨n2,hn2,i2,o2,w2⟩:=(m3 r).1 List.mem_cons_self
  have e3:qIO l g st3 ⟨z,0,0⟩=[⟨z,r,0⟩]:=by
   unfold qIO
   rw [show kids l g st3 (⟨z,0,0⟩:qf).f0 (⟨z,0,0⟩:qf).f1=r :: rs from hk]
   rfl
  have k4:kids l g st4 z r=(Draw.ord (Mixn.fold (Draw.un g) [Draw.un 3,Draw.un z,Draw.un r]) (Topo.wL (Topo.isL z r) Topo.ofL l)).map (fun x=>x.f0):=rfl
  have m4:=qEq h (Topo.isL z r) Topo.ofL (Mixn.fold (Draw.un g) [Draw.un 3,Draw.un z,Draw.un r])
  rw [← k4]at m4
  have i2:n2.f1=z:=by unfold Topo.isR at i2; simpa using i2
  have hf:=(m4 n2.f0).2 ⟨n2,hn2,by unfold Topo.isL; have:n2.f2=r:=o2; simp [i2,this],rfl,w2⟩
  generalize hk4:kids l g st4 z r=k4' at hf m4
  cases k4' with
  | nil=>cases hf
  | cons q qs =>
   obtain ⟨n3,hn3,i3,o3,w3⟩:=(m4 q).1 List.mem_cons_self
   have o3:n3.f0=q:=o3
   have i3:n3.f1=z:=by
    unfold Topo.isL at i3
    rw [Bool.and_eq_true,Bool.or_eq_true,beq_iff_eq,beq_iff_eq]at i3
    rcases i3.1 with c | c
    ·omega
    ·exact c
   refine ⟨n3,hn3,i3,w3,r,?_⟩
   unfold pick
   rw [e3,List.flatMap_cons,List.flatMap_nil,List.append_nil]
   unfold qIO
   rw [show kids l g st4 (⟨z,r,0⟩:qf).f0 (⟨z,r,0⟩:qf).f1=q :: qs from hk4,o3]
   rfl
theorem qFN(size:Int):∀(hand:List qf)(out:List Int),((out.length+hand.length:Nat):Int)≤size→(hand.map (fun x=>x.f2)).Nodup→(∀ x ∈ hand,¬ x.f2 ∈ out)→hand.foldl (emit size) out=out++hand.map (fun x=>x.f2)
 | [],out,_,_,_=>(List.append_nil _).symm
 | x :: r,out,hl,hn,ho=>by
  rw [List.map_cons]at hn ⊢
  obtain ⟨h1,h2⟩:=List.nodup_cons.1 hn
  rw [List.length_cons]at hl
  rw [List.foldl_cons,emit,if_pos ⟨by omega,ho x List.mem_cons_self⟩,qFN size r (out++[x.f2]) (by rw [lA,List.length_singleton]; omega) h2,List.append_assoc]
  ·rfl
  ·intro y hy hm
   rcases List.mem_append.1 hm with hm | hm
   ·exact ho y (List.mem_cons_of_mem _ hy) hm
   ·exact h1 (List.mem_map.2 ⟨y,hy,List.mem_singleton.1 hm⟩)
theorem qHJ{l:List qA}(h:Topo.Nodes l)(g:Int)(z:Int):z ∈ zonesOf l g↔∃ n ∈ l,n.f1=z∧0<Topo.weight n:=by
 unfold zonesOf
 rw [qEq h]
 exact ⟨fun ⟨n,hn,_,q1,q2⟩=>⟨n,hn,q1,q2⟩,fun ⟨n,hn,q1,q2⟩=>⟨n,hn,rfl,q1,q2⟩⟩
theorem zone_pk{l:List qA}(h:Topo.Nodes l)(g:Int){z:Int}(hz:z ∈ zonesOf l g):∃ n ∈ l,n.f1=z∧0<Topo.weight n∧pk l g z=n.f0∧∃ r,pick l g z=[⟨z,r,pk l g z⟩]:=by
 have hz':=(qHJ h g z).1 hz
 have h1:1≤z:=by
  obtain ⟨n,hn,q,_⟩:=hz'
  have:=h.ok n hn
  unfold Topo.okN at this
  omega
 obtain ⟨n,hn,q1,q2,r,e⟩:=qHI h g h1 hz'
 have e2:pk l g z=n.f0:=by unfold pk; rw [e]; rfl
 exact ⟨n,hn,q1,q2,e2,r,e2 ▸ e⟩
theorem qGU{key:Nat}{c:List qB}(h:Draw.Chs c):((Draw.ord key c).map (fun x=>x.f0)).Nodup:=by
 have hp:((Draw.heavy c).map (fun x=>x.f0)).Nodup:=by
  unfold List.Nodup
  rw [List.pairwise_map]
  exact (Draw.heavy_up h).imp (fun {a b} hab e=>by omega)
 exact ((qCV _ _).map (fun x:qB=>x.f0)).nodup_iff.2 hp
theorem zones_nodup{l:List qA}(h:Topo.Nodes l)(g:Int):(zonesOf l g).Nodup:=qGU (qEV h)
theorem node_uniq{l:List qA}(h:Topo.Nodes l){a b:qA}(ha:a ∈ l)(hb:b ∈ l)(e:a.f0=b.f0):a=b:=by
 obtain ⟨i,hi,rfl⟩:=List.getElem_of_mem ha
 obtain ⟨j,hj,rfl⟩:=List.getElem_of_mem hb
 have hup:=List.pairwise_iff_getElem.1 h.up
 rcases Nat.lt_trichotomy i j with c | c | c
 ·have:=hup i j hi hj c; omega
 ·subst c; rfl
 ·have:=hup j i hj hi c; omega
theorem qCk{α β : Type}{f g : α→List β}: ∀ {l:List α},(∀ x ∈ l,f x=g x)→l.flatMap f=l.flatMap g
 | [],_=>rfl
 | x :: l,h=>by
  rw [List.flatMap_cons,List.flatMap_cons,h x List.mem_cons_self,qCk (fun y hy=>h y (List.mem_cons_of_mem _ hy))]
theorem qEr{α β : Type}(f : α→β)(l:List α):l.flatMap (fun x=>[f x])=l.map f:=by
 induction l with
 | nil=>rfl
 | cons x l ih=>rw [List.flatMap_cons,ih]; rfl
theorem qFc{l:List qA}(h:Topo.Nodes l)(g size:Int)(hs:1≤size∧size≤3):runL l (commonL size) g size=((zonesOf l g).take size.toNat).map (pk l g):=by
 have e:runL l (commonL size) g size=((((zonesOf l g).take size.toNat).map (fun z=>(⟨z,0,0⟩:qf))).flatMap (qIO l g st3) |>.flatMap (qIO l g st4)).foldl (emit size) []:=by
  have e2:qIO l g (st2 size) ⟨0,0,0⟩=((zonesOf l g).take size.toNat).map (fun z=>(⟨z,0,0⟩:qf)):=rfl
  have e1:runL l (commonL size) g size=((([⟨0,0,0⟩]:List qf).flatMap (qIO l g (st2 size))).flatMap (qIO l g st3) |>.flatMap (qIO l g st4)).foldl (emit size) []:=rfl
  rw [e1,List.flatMap_cons,List.flatMap_nil,List.append_nil,e2]
 have hmem:∀ z ∈ (zonesOf l g).take size.toNat,z ∈ zonesOf l g:=fun z hz=>List.mem_of_mem_take hz
 have e3:((((zonesOf l g).take size.toNat).map (fun z=>(⟨z,0,0⟩:qf))).flatMap (qIO l g st3)).flatMap (qIO l g st4)=((zonesOf l g).take size.toNat).map (fun z=>(pick l g z).headD ⟨0,0,0⟩):=by
  rw [List.flatMap_assoc,List.flatMap_map,← qEr]
  refine qCk (fun z hz=>?_)
  obtain ⟨n,_,_,_,_,r,e⟩:=zone_pk h g (hmem z hz)
  show pick l g z=[(pick l g z).headD ⟨0,0,0⟩]
  rw [e]
  rfl
 have hmap:∀ L:List Int,(L.map (fun z=>(pick l g z).headD ⟨0,0,0⟩)).map (fun x=>x.f2)=L.map (pk l g):=fun L=>by rw [List.map_map]; rfl
 rw [e,e3,qFN,List.nil_append,hmap]
 ·rw [List.length_map,List.length_take,List.length_nil]
  omega
 ·rw [hmap]
  have hnd:((zonesOf l g).take size.toNat).Nodup:=(zones_nodup h g).sublist (List.take_sublist _ _)
  unfold List.Nodup
  rw [List.pairwise_map]
  refine List.Pairwise.imp_of_mem ?_ hnd
  intro a b ha hb hab e
  obtain ⟨n,hn,q1,_,q2,_⟩:=zone_pk h g (hmem a ha)
  obtain ⟨n',hn',q1',_,q2',_⟩:=zone_pk h g (hmem b hb)
  have:n=n':=node_uniq h hn hn' (by omega)
  subst this
  exact hab (by omega)
 ·intro x _ hx
  cases hx
theorem qFd{size:Int}(hs:1≤size∧size≤3):Rule.May (commonL size):=by
 have:size=1∨size=2∨size=3:=by omega
 rcases this with rfl | rfl | rfl <;> decide
def ofCommon(l:List qA)(g size:Int):List Int:=if Topo.Nodes l∧(0≤g∧g<8)∧1≤size∧size≤3 then ((zonesOf l g).take size.toNat).map (pk l g) else []
theorem of_(l:List qA)(g size:Int):Ev (fun k=>qBs.f k l g size) (ofCommon l g size):=by
 unfold qBs.f
 have hc:Ev (fun k=>qAl.f k size) (if 1≤size∧size≤3 then commonL size else []):=⟨1,fun k hk=>by
  obtain ⟨k,rfl⟩:∃ m,k=m+1:=⟨k - 1,by omega⟩
  exact Rule.common k size⟩
 refine .b hc (.b (run l _ g size) (.cv ?_))
 unfold ofCommon
 by_cases c:Topo.Nodes l∧(0≤g∧g<8)∧1≤size∧size≤3
 ·rw [if_pos c,if_pos c.2.2,if_pos ⟨c.1,qFd c.2.2,c.2.1,c.2.2⟩]
  exact qFc c.1 g size c.2.2
 ·rw [if_neg c,if_neg]
  ·exact fun m=>c ⟨m.1,m.2.2.1,m.2.2.2⟩
end Place
namespace Q
def c3(a b:Int):Int:=if a<b then -1 else if a>b then 1 else 0
theorem cmp3(a b:Int):qAR.f a b=some (c3 a b):=by
 unfold qAR.f qAz.f c3
 simp only [Option.bind_some]
 rw [if_neg (by simp),if_neg (by simp)]
 split
 ·rfl
 ·split <;> rfl
def orL:List Int→Int
 | []=>0
 | x :: r=>if x=0 then orL r else x
theorem or_l6(l:List Int)(hl:l.length<1000000):∀(d i:Nat),i+d=l.length→Ev (fun k=>qAw.l6 k l (i:Int)) (orL (l.drop i)):=by
 intro d
 induction d with
 | zero =>
  intro i hi
  rw [List.drop_eq_nil_of_le (by omega)]
  exact .s (qAw.l6_s · _ _) (.n (by omega) (.c _))
 | succ d ih =>
  intro i hi
  have h1:i<l.length:=by omega
  rw [List.drop_eq_getElem_cons h1]
  refine .s (qAw.l6_s · _ _) (.t (by omega) (.t (by omega) ?_))
  rw [nth_get _ _ _ h1,w64n i (by omega)]
  unfold orL
  by_cases h:l[i]=0
  ·rw [if_pos h]
   exact .t h (ih (i+1) (by omega))
  ·rw [if_neg h]
   exact .n h (.c _)
def cmpI(a b:qJ):Int:=orL [c3 b.f1 a.f1,c3 b.f2 a.f2,c3 b.f3 a.f3,c3 a.f0 b.f0]
theorem compare(a b:qJ):Ev (fun k=>qBI.f k a b) (cmpI a b):=by
 unfold qBI.f
 exact .b0 (cmp3 _ _) (.b0 (cmp3 _ _) (.b0 (cmp3 _ _) (.b0 (cmp3 _ _) (.b (or_l6 [c3 b.f1 a.f1,c3 b.f2 a.f2,c3 b.f3 a.f3,c3 a.f0 b.f0] (by show 4<1000000; omega) 4 0 rfl) (.c _)))))
def bet(a b:qJ):Bool:=if a.f1=b.f1 then if a.f2=b.f2 then if a.f3=b.f3 then decide (a.f0<b.f0) else decide (a.f3>b.f3) else decide (a.f2>b.f2) else decide (a.f1>b.f1)
theorem c3c(a b:Int):(c3 a b = -1∧a<b)∨(c3 a b=1∧b<a)∨(c3 a b=0∧a=b):=by
 unfold c3
 by_cases h:a<b
 ·exact .inl ⟨if_pos h,h⟩
 ·by_cases h2:a>b
  ·exact .inr (.inl ⟨by rw [if_neg h,if_pos h2],h2⟩)
  ·exact .inr (.inr ⟨by rw [if_neg h,if_neg h2],by omega⟩)
theorem qHq(a b:qJ):decide (cmpI a b<0)=bet a b:=by
 unfold cmpI bet
 show decide ((if c3 b.f1 a.f1=0 then if c3 b.f2 a.f2=0 then if c3 b.f3 a.f3=0 then if c3 a.f0 b.f0=0 then 0 else c3 a.f0 b.f0 else c3 b.f3 a.f3 else c3 b.f2 a.f2 else c3 b.f1 a.f1)<0)=_
 rcases c3c b.f1 a.f1 with ⟨e,h⟩ | ⟨e,h⟩ | ⟨e,h⟩
 ·rw [e,if_neg (by omega),if_neg (by omega),decide_eq_decide]; omega
 ·rw [e,if_neg (by omega),if_neg (by omega),decide_eq_decide]; omega
 rw [if_pos e,if_pos h.symm]
 rcases c3c b.f2 a.f2 with ⟨e,h⟩ | ⟨e,h⟩ | ⟨e,h⟩
 ·rw [e,if_neg (by omega),if_neg (by omega),decide_eq_decide]; omega
 ·rw [e,if_neg (by omega),if_neg (by omega),decide_eq_decide]; omega
 rw [if_pos e,if_pos h.symm]
 rcases c3c b.f3 a.f3 with ⟨e,h⟩ | ⟨e,h⟩ | ⟨e,h⟩
 ·rw [e,if_neg (by omega),if_neg (by omega),decide_eq_decide]; omega
 ·rw [e,if_neg (by omega),if_neg (by omega),decide_eq_decide]; omega
 rw [if_pos e,if_pos h.symm]
 rcases c3c a.f0 b.f0 with ⟨e,h⟩ | ⟨e,h⟩ | ⟨e,h⟩
 ·rw [e,if_neg (by omega),decide_eq_decide]; omega
 ·rw [e,if_neg (by omega),decide_eq_decide]; omega
 ·rw [if_pos e,decide_eq_decide]; omega
theorem bet_asym(a b:qJ)(h:bet a b=true):bet b a=false:=by
 unfold bet at *
 by_cases h1:a.f1=b.f1
 ·rw [if_pos h1]at h
  rw [if_pos h1.symm]
  by_cases h2:a.f2=b.f2
  ·rw [if_pos h2]at h
   rw [if_pos h2.symm]
   by_cases h3:a.f3=b.f3
   ·rw [if_pos h3]at h
    rw [if_pos h3.symm]
    have:=oT h
    exact dF (by omega)
   ·rw [if_neg h3]at h
    rw [if_neg (Ne.symm h3)]
    have:=oT h
    exact dF (by omega)
  ·rw [if_neg h2]at h
   rw [if_neg (Ne.symm h2)]
   have:=oT h
   exact dF (by omega)
 ·rw [if_neg h1]at h
  rw [if_neg (Ne.symm h1)]
  have:=oT h
  exact dF (by omega)
def goodI(x:qJ):Bool:=decide ((1≤x.f0∧x.f0≤999)∧(0≤x.f1∧x.f1≤2147483647)∧(0≤x.f2∧x.f2≤2147483647)∧(0≤x.f3∧x.f3≤2147483647)∧0≤x.f4∧x.f4≤x.f3)
def mayG:List qJ→List qJ→Bool
 | _,[]=>true
 | s,x :: r=>if goodI x=true∧s.any (fun y=>y.f0 == x.f0)=false then mayG (s++[x]) r else false
def mayI(l:List qJ):Bool:=mayG [] l&&decide (l.length≤12)
theorem qin(x a b:Int):qBE.f x a b=some (decide (a≤x∧x≤b)):=by
 unfold qBE.f
 by_cases h:x≥a
 ·rw [if_pos h]
  congr 1
  rw [decide_eq_decide]
  omega
 ·rw [if_neg h,dF (by omega)]
theorem qIK(l:List qJ)(id:Int)(hl:l.length<1000000):∀(d i:Nat),i+d=l.length→∃ x,Ev (fun k=>qW.l5 k l id (i:Int)) x∧decide (x≥0)=(l.drop i).any (fun y=>y.f0 == id):=by
 intro d
 induction d with
 | zero =>
  intro i hi
  refine ⟨-1,.s (qW.l5_s · _ _ _) (.n (by omega) (.c _)),?_⟩
  rw [List.drop_eq_nil_of_le (by omega)]
  rfl
 | succ d ih =>
  intro i hi
  have h1:i<l.length:=by omega
  obtain ⟨x,hx,hm⟩:=ih (i+1) (by omega)
  rw [List.drop_eq_getElem_cons h1,List.any_cons]
  cases h:l[i].f0 == id with
  | true =>
   refine ⟨i,.s (qW.l5_s · _ _ _) (.t (by omega) (.t (by omega) ?_)),?_⟩
   ·rw [nth_get _ _ _ h1]
    exact .b0 (congrArg some h) (.t rfl (.c _))
   ·rw [Bool.true_or]
    exact dT (by omega)
  | false =>
   refine ⟨x,.s (qW.l5_s · _ _ _) (.t (by omega) (.t (by omega) ?_)),?_⟩
   ·rw [nth_get _ _ _ h1,w64n i (by omega)]
    exact .b0 (congrArg some h) (.n nF hx)
   ·rw [Bool.false_or]
    exact hm
theorem has(l:List qJ)(id:Int)(hl:l.length<1000000):Ev (fun k=>qBY.f k l id) (l.any (fun y=>y.f0 == id)):=by
 obtain ⟨x,hx,hm⟩:=qIK l id hl l.length 0 (by omega)
 unfold qBY.f qy.f qW.f
 refine .b (.b hx (.c _)) (.cv hm)
theorem check_l9(l:List qJ)(hl:l.length<1000000):∀(d i:Nat),i+d=l.length→Ev (fun k=>qAE.l9 k l (i:Int)) (eno (mayG (l.take i) (l.drop i))):=by
 intro d
 induction d with
 | zero =>
  intro i hi
  rw [List.drop_eq_nil_of_le (by omega)]
  exact .s (qAE.l9_s · _ _) (.n (by omega) (.c _))
 | succ d ih =>
  intro i hi
  have h1:i<l.length:=by omega
  have hn:=ih (i+1) (by omega)
  have et:l.take (i+1)=l.take i++[l[i]]:=by rw [List.take_add_one,List.getElem?_eq_getElem h1]; rfl
  rw [et]at hn
  rw [List.drop_eq_getElem_cons h1]
  unfold mayG
  have j65:∀ b:Bool,Ev (fun k=>qAE.j65 k l (i:Int) b) (eno (if b=true then false else mayG (l.take i++[l[i]]) (l.drop (i+1)))):=by
   intro b
   refine .s (qAE.j65_s · _ _ _) ?_
   cases b with
   | true=>exact .t rfl (.c _)
   | false =>
    refine .n nF ?_
    rw [w64n i (by omega)]
    exact hn
  have j41:∀ b:Bool,Ev (fun k=>qAE.j41 k l (i:Int) b) (eno (if b=false∧(0≤l[i].f1∧l[i].f1≤2147483647)∧(0≤l[i].f2∧l[i].f2≤2147483647)∧(0≤l[i].f3∧l[i].f3≤2147483647)∧0≤l[i].f4∧l[i].f4≤l[i].f3 then mayG (l.take i++[l[i]]) (l.drop (i+1)) else false)):=by
   intro b
   refine .s (qAE.j41_s · _ _ _) ?_
   rw [nth_get _ _ _ h1]
   cases b with
   | true=>exact .t rfl (.cv (by rw [if_neg (fun h=>Bool.noConfusion h.1)]; rfl))
   | false =>
    refine .n nF (.b0 (qin _ _ _) ?_)
    by_cases g1:0≤l[i].f1∧l[i].f1≤2147483647
    rotate_left
    ·rw [if_neg (fun h=>g1 h.2.1)]
     exact .n (fun h=>g1 (oT h)) (j65 true)
    refine .t (dT g1) (.b0 (qin _ _ _) ?_)
    by_cases g2:0≤l[i].f2∧l[i].f2≤2147483647
    rotate_left
    ·rw [if_neg (fun h=>g2 h.2.2.1)]
     exact .n (fun h=>g2 (oT h)) (j65 true)
    refine .t (dT g2) (.b0 (qin _ _ _) ?_)
    by_cases g3:0≤l[i].f3∧l[i].f3≤2147483647
    rotate_left
    ·rw [if_neg (fun h=>g3 h.2.2.2.1)]
     exact .n (fun h=>g3 (oT h)) (j65 true)
    refine .t (dT g3) (.b0 (qin _ _ _) ?_)
    by_cases g4:0≤l[i].f4∧l[i].f4≤l[i].f3
    ·rw [if_pos ⟨rfl,g1,g2,g3,g4⟩,dT g4]
     exact j65 false
    ·rw [if_neg (fun h=>g4 h.2.2.2.2),dF g4]
     exact j65 true
  refine .s (qAE.l9_s · _ _) (.t (by omega) (.t (by omega) ?_))
  rw [nth_get _ _ _ h1]
  refine .b0 (qin _ _ _) ?_
  by_cases g0:1≤l[i].f0∧l[i].f0≤999
  ·refine .t (dT g0) (.t (by omega) ?_)
   rw [show cutl l 0 (i:Int)=l.take i by simp [cutl]]
   refine .b (has _ _ (by rw [List.length_take]; omega)) ?_
   refine (j41 _).v (congrArg eno ?_)
   unfold goodI
   exact ite_congr (propext ⟨fun h=>⟨dT ⟨g0,h.2⟩,h.1⟩,fun h=>⟨h.2,(oT h.1).2⟩⟩) (fun _=>rfl) (fun _=>rfl)
  ·refine .n (fun h=>g0 (oT h)) ((j41 true).v (congrArg eno ?_))
   rw [if_neg (fun h=>Bool.noConfusion h.1),if_neg (fun h=>g0 (oT h.1).1)]
theorem check(l:List qJ)(hl:l.length<1000000):Ev (fun k=>qAE.f k l) (eno (mayI l)):=by
 unfold qAE.f mayI
 by_cases h:(l.length:Int)>12
 ·exact .t h (.cv (by rw [dF (by omega),Bool.and_false]; rfl))
 ·refine .n h ((check_l9 l hl l.length 0 (by omega)).v ?_)
  rw [dT (by omega),Bool.and_true]
  rfl
def pick(m x:qJ):qJ:=if bet x m=true then x else m
def bestI:List qJ→qJ
 | []=>⟨0,0,0,0,0⟩
 | x :: r=>r.foldl pick x
theorem qHr(l:List qJ)(hl:l.length<1000000):∀(d i:Nat)(m:qJ),i+d=l.length→Ev (fun k=>qR.l24 k l (i:Int) m.f0 m.f1 m.f2 m.f3 m.f4) ((l.drop i).foldl pick m):=by
 intro d
 induction d with
 | zero =>
  intro i m hi
  rw [List.drop_eq_nil_of_le (by omega)]
  exact .s (qR.l24_s · _ _ _ _ _ _ _) (.n (by omega) (.c _))
 | succ d ih =>
  intro i m hi
  have h1:i<l.length:=by omega
  rw [List.drop_eq_getElem_cons h1,List.foldl_cons]
  refine .s (qR.l24_s · _ _ _ _ _ _ _) (.t (by omega) (.t (by omega) ?_))
  rw [nth_get _ _ _ h1,w64n i (by omega)]
  refine .b (compare l[i] m) ?_
  have hb:=qHq l[i] m
  by_cases h:cmpI l[i] m<0
  ·rw [dT h]at hb
   rw [show pick m l[i]=l[i] from if_pos hb.symm]
   exact .t h (ih (i+1) l[i] (by omega))
  ·rw [dF h]at hb
   rw [show pick m l[i]=m from if_neg (by rw [← hb]; decide)]
   exact .n h (ih (i+1) m (by omega))
theorem minF(l:List qJ)(hl:l.length<1000000)(h0:0<l.length):Ev (fun k=>qR.f k l) (bestI l):=by
 cases l with
 | nil=>exact absurd h0 (Nat.lt_irrefl 0)
 | cons x r =>
  unfold qR.f
  exact .n (by omega) (.t (by omega) (qHr (x :: r) hl r.length 1 x (Nat.add_comm 1 _)))
def bestP(l:List qJ):qJ × Bool:=if 0<l.length∧mayI l=true then (bestI l,true) else (⟨0,0,0,0,0⟩,false)
theorem best(l:List qJ)(hl:l.length<1000000):Ev (fun k=>qAn.f k l) (bestP l):=by
 unfold qAn.f bestP
 by_cases h0:(l.length:Int)=0
 ·rw [if_neg (by omega)]
  exact .t h0 (.s (qAn.j11_s · _ _) (.t rfl (.c _)))
 ·refine .n h0 (.b (check l hl) (.s (qAn.j11_s · _ _) ?_))
  cases hm:mayI l with
  | true =>
   rw [if_pos ⟨by omega,rfl⟩]
   exact .n (by decide) (.b (minF l hl (by omega)) (.c _))
  | false =>
   rw [if_neg (fun h=>Bool.noConfusion h.2)]
   exact .t (by decide) (.c _)
end Q
namespace Maps
theorem min'(x a b:Int):qAq.f x a b=some (decide (a≤x∧x≤b)):=by
 unfold qAq.f
 by_cases h:x≥a
 ·rw [if_pos h]
  congr 1
  simp only [decide_eq_decide]
  omega
 ·rw [if_neg h,dF (by omega)]
def temps(m:qG):Int→List qE→Bool
 | _,[]=>true
 | p,t :: l=>(decide ((0≤t.f0∧t.f0<m.f3)∧p<t.f0∧1≤(t.f1.length:Int)∧(t.f1.length:Int)≤m.f1)&&Topo.apartR m.f4 [] t.f1)&&temps m t.f0 l
def riseI:Int→List Int→Bool
 | _,[]=>true
 | p,n :: l=>decide ((1≤n∧n≤999)∧p<n)&&riseI n l
def past(m:qG)(since:Int):Int→List qF→List qF→Bool
 | _,_,[]=>true
 | p,seen,s :: l=>(decide ((0≤s.f0∧s.f0<since)∧p<s.f0∧m.f2≤(s.f1.length:Int)∧(s.f1.length:Int)≤m.f1)&&riseI 0 s.f1 && !decide (∃ x ∈ seen,x.f1=s.f1))&&past m since s.f0 (seen++[s]) l
def trails(m:qG):List qC→Bool
 | []=>true
 | t :: l=>(decide (0≤t.f0∧t.f0≤m.f0)&&past m t.f0 (-1) [] t.f1)&&trails m l
def Flat(m:qG):Prop:=(0≤m.f0∧m.f0≤2147483647)∧(1≤m.f1∧m.f1≤3)∧(1≤m.f2∧m.f2≤m.f1)∧(1≤m.f3∧m.f3≤8)∧Topo.Nodes m.f4
instance (m:qG):Decidable (Flat m):=inferInstanceAs (Decidable (_∧_))
def May(m:qG):Prop:=Flat m∧temps m (-1) m.f5=true∧(m.f6.length:Int)=m.f3∧trails m m.f6=true
instance (m:qG):Decidable (May m):=inferInstanceAs (Decidable (_∧_))
structure Small (m:qG):Prop where
 h4:m.f4.length<4611686018427387904
 h5:m.f5.length<4611686018427387904
 h6:m.f6.length<4611686018427387904
 hp:∀ t ∈ m.f6,t.f1.length<4611686018427387904
 hs:∀ t ∈ m.f6,∀ s ∈ t.f1,s.f1.length<4611686018427387904
def preT(l:List qE)(i:Nat):Int:=if i=0 then -1 else (nth qE.z l (w64 ((i:Int) - 1))).f0
theorem qEX(l:List qE)(i:Nat)(h:i<l.length)(hl:l.length<4611686018427387904):preT l (i+1)=l[i].f0:=by
 unfold preT
 rw [if_neg (by omega),w64p (i+1) (by omega) (by omega),show i+1 - 1=i by omega,nth_get _ _ _ h]
def preS(l:List qF)(i:Nat):Int:=if i=0 then -1 else (nth qF.z l (w64 ((i:Int) - 1))).f0
theorem qGV(l:List qF)(i:Nat)(h:i<l.length)(hl:l.length<4611686018427387904):preS l (i+1)=l[i].f0:=by
 unfold preS
 rw [if_neg (by omega),w64p (i+1) (by omega) (by omega),show i+1 - 1=i by omega,nth_get _ _ _ h]
def preI(l:List Int)(i:Nat):Int:=if i=0 then 0 else nth 0 l (w64 ((i:Int) - 1))
theorem qEY(l:List Int)(i:Nat)(h:i<l.length)(hl:l.length<4611686018427387904):preI l (i+1)=l[i]:=by
 unfold preI
 rw [if_neg (by omega),w64p (i+1) (by omega) (by omega),show i+1 - 1=i by omega,nth_get _ _ _ h]
theorem qDz{α : Type}(a b:List α)(i:Nat)(ha:i<a.length)(hb:i<b.length):(a.drop i=b.drop i)↔(a[i]=b[i]∧a.drop (i+1)=b.drop (i+1)):=by
 rw [List.drop_eq_getElem_cons ha,List.drop_eq_getElem_cons hb,List.cons.injEq]
theorem qHK(a b:List Int)(hab:a.length=b.length)(hl:a.length<4611686018427387904):∀(d i:Nat),i+d=a.length→Ev (fun k=>qt.l9 k a b (i:Int)) (decide (a.drop i=b.drop i)):=by
 intro d
 induction d with
 | zero =>
  intro i hi
  refine .s (qt.l9_s · _ _ _) (.n (by omega) (.cv ?_))
  rw [List.drop_eq_nil_of_le (by omega),List.drop_eq_nil_of_le (by omega)]
  rfl
 | succ d ih =>
  intro i hi
  have h1:i<a.length:=by omega
  have h2:i<b.length:=by omega
  refine .s (qt.l9_s · _ _ _) (.t (by omega) (.t (by omega) (.t (by omega) ?_)))
  rw [nth_get _ _ _ h1,nth_get _ _ _ h2,w64n i (by omega)]
  refine .i (fun h=>(ih (i+1) (by omega)).v ?_) (fun h=>.cv ?_)
  ·simp only [qDz a b i h1 h2,h,true_and]
  ·simp only [qDz a b i h1 h2,h,false_and,decide_false]
theorem equal(a b:List Int)(hl:a.length<4611686018427387904):Ev (fun k=>qt.f k a b) (decide (a=b)):=by
 unfold qt.f
 refine .i (fun h=>qHK a b (by omega) hl a.length 0 (by omega)) (fun h=>.cv ?_)
 exact (dF (fun e=>h (by rw [e]))).symm
theorem qHs(a b:List Int)(hab:a.length=b.length)(hl:a.length<4611686018427387904):∀(d i:Nat),i+d=a.length→Ev (fun k=>qAM.l9 k a b (i:Int)) (decide (a.drop i=b.drop i)):=by
 intro d
 induction d with
 | zero =>
  intro i hi
  refine .s (qAM.l9_s · _ _ _) (.n (by omega) (.cv ?_))
  rw [List.drop_eq_nil_of_le (by omega),List.drop_eq_nil_of_le (by omega)]
  rfl
 | succ d ih =>
  intro i hi
  have h1:i<a.length:=by omega
  have h2:i<b.length:=by omega
  refine .s (qAM.l9_s · _ _ _) (.t (by omega) (.t (by omega) (.t (by omega) ?_)))
  rw [nth_get _ _ _ h1,nth_get _ _ _ h2,w64n i (by omega)]
  refine .i (fun h=>(ih (i+1) (by omega)).v ?_) (fun h=>.cv ?_)
  ·simp only [qDz a b i h1 h2,h,true_and]
  ·simp only [qDz a b i h1 h2,h,false_and,decide_false]
theorem ints(a b:List Int)(hl:a.length<4611686018427387904):Ev (fun k=>qAM.f k a b) (decide (a=b)):=by
 unfold qAM.f
 refine .i (fun h=>qHs a b (by omega) hl a.length 0 (by omega)) (fun h=>.cv ?_)
 exact (dF (fun e=>h (by rw [e]))).symm
theorem qHt(l:List qF)(s:qF)(hl:l.length<4611686018427387904)(hs:∀ x ∈ l,x.f1.length<4611686018427387904):∀(d i:Nat),i+d=l.length→∃ x,Ev (fun k=>qX.l5 k l s (i:Int)) x∧(0≤x↔∃ y ∈ l.drop i,y.f1=s.f1):=by
 intro d
 induction d with
 | zero =>
  intro i hi
  refine ⟨-1,.s (qX.l5_s · _ _ _) (.n (by omega) (.c _)),?_⟩
  rw [List.drop_eq_nil_of_le (by omega)]
  simp
 | succ d ih =>
  intro i hi
  have h1:i<l.length:=by omega
  obtain ⟨x,hx,hm⟩:=ih (i+1) (by omega)
  have hq:Ev (fun k=>qBc.f k l[i] s) (decide (l[i].f1=s.f1)):=by
   unfold qBc.f
   exact .b (equal _ _ (hs _ (gM h1))) (.c _)
  by_cases h:l[i].f1=s.f1
  ·refine ⟨i,.s (qX.l5_s · _ _ _) (.t (by omega) (.t (by omega) ?_)),?_⟩
   ·rw [nth_get _ _ _ h1]
    exact .b hq (.t (dT h) (.c _))
   ·rw [List.drop_eq_getElem_cons h1]
    exact ⟨fun _=>⟨_,List.mem_cons_self,h⟩,fun _=>by omega⟩
  ·refine ⟨x,.s (qX.l5_s · _ _ _) (.t (by omega) (.t (by omega) ?_)),?_⟩
   ·rw [nth_get _ _ _ h1,w64n i (by omega)]
    exact .b hq (.n (by simpa using h) hx)
   ·rw [List.drop_eq_getElem_cons h1,hm]
    exact ⟨fun ⟨y,m,e⟩=>⟨y,List.mem_cons.2 (.inr m),e⟩,fun ⟨y,m,e⟩=>⟨y,(List.mem_cons.1 m).resolve_left (fun q=>h (q ▸ e)),e⟩⟩
theorem seen(l:List qF)(s:qF)(hl:l.length<4611686018427387904)(hs:∀ x ∈ l,x.f1.length<4611686018427387904):Ev (fun k=>qq.f k l s) (decide (∃ y ∈ l,y.f1=s.f1)):=by
 obtain ⟨x,hx,hm⟩:=qHt l s hl hs l.length 0 (by omega)
 unfold qq.f qX.f
 refine .b hx (.cv ?_)
 rw [decide_eq_decide]
 exact hm
theorem qHL (m:qG) (t:qC) (i:Nat) (hl:t.f1.length<4611686018427387904) (hs:∀ s ∈ t.f1,s.f1.length<4611686018427387904) (hi:i<t.f1.length) (w:Bool)
  (hc:riseI 0 t.f1[i].f1=true→(∃ y ∈ t.f1.take i,y.f1=t.f1[i].f1)→w=false)
  (hn:riseI 0 t.f1[i].f1=true→(¬ ∃ y ∈ t.f1.take i,y.f1=t.f1[i].f1)→Ev (fun k=>qAQ.l9 k m t ((i+1:Nat):Int)) w)
  (hr:¬ riseI 0 t.f1[i].f1=true→w=false):∀(d j:Nat),j+d=t.f1[i].f1.length→(riseI 0 t.f1[i].f1=riseI (preI t.f1[i].f1 j) (t.f1[i].f1.drop j))→Ev (fun k=>qAQ.l61 k m t (i:Int) (j:Int)) w:=by
 have hz:=nth_get qF.z _ _ hi
 have hsl:=hs _ (gM hi)
 intro d
 induction d with
 | zero =>
  intro j hj he
  refine .s (qAQ.l61_s · _ _ _ _) ?_
  rw [hz]
  rw [List.drop_eq_nil_of_le (by omega)]at he
  refine .n (by omega) (.t (by omega) ?_)
  rw [show cutl t.f1 0 (i:Int)=t.f1.take i by simp [cutl],w64n i (by omega)]
  refine .b (seen _ _ (by simp; omega) (fun x m=>hs x (List.mem_of_mem_take m))) ?_
  refine .i (fun h=>.cv (hc he ?_).symm) (fun h=>hn he ?_)
  ·simpa using h
  ·simpa using h
 | succ d ih =>
  intro j hj he
  have h1:j<t.f1[i].f1.length:=by omega
  refine .s (qAQ.l61_s · _ _ _ _) ?_
  rw [hz]
  refine .t (by omega) (.t (by omega) ?_)
  rw [List.drop_eq_getElem_cons h1]at he
  simp only [riseI]at he
  have hb:∀ b:Bool,(b=true↔¬ ((1≤t.f1[i].f1[j]∧t.f1[i].f1[j]≤999)∧preI t.f1[i].f1 j<t.f1[i].f1[j]))→Ev (fun k=>qAQ.j86 k m t (i:Int) (j:Int) b) w:=by
   intro b hb
   refine .s (qAQ.j86_s · _ _ _ _ _) ?_
   by_cases h:(1≤t.f1[i].f1[j]∧t.f1[i].f1[j]≤999)∧preI t.f1[i].f1 j<t.f1[i].f1[j]
   ·refine .n (fun e=>(hb.1 e) h) ?_
    rw [w64n j (by omega)]
    refine ih (j+1) (by omega) ?_
    rw [he,qEY _ j h1 hsl,dT h,Bool.true_and]
   ·refine .t (hb.2 h) (.cv (hr ?_).symm)
    rw [he,dF h]
    simp
  clear he ih hr hn hc
  rw [nth_get _ _ _ h1]
  have hp0:j=0→preI t.f1[i].f1 j=0:=fun e=>if_pos e
  have hp1:j≠0→nth 0 t.f1[i].f1 (w64 ((j:Int) - 1))=preI t.f1[i].f1 j:=fun e=>(if_neg e).symm
  have hw:j≠0→w64 ((j:Int) - 1)=((j - 1:Nat):Int):=fun e=>w64p j (by omega) (by omega)
  generalize preI t.f1[i].f1 j=p at *
  generalize nth 0 t.f1[i].f1 (w64 ((j:Int) - 1))=q at *
  generalize t.f1[i].f1[j]=n at *
  repeat' (first | refine Ev.b0 (min' _ _ _) ?_ | refine Ev.i (fun _=>?_) (fun _=>?_))
  all_goals simp only [decide_eq_true_eq]at *
  all_goals first
   | exact hb _ (by simp only [decide_eq_true_eq,Bool.false_eq_true,true_iff,false_iff]; omega)
   | (exfalso; omega)
theorem qHu(m:qG)(t:qC)(hl:t.f1.length<4611686018427387904)(hs:∀ s ∈ t.f1,s.f1.length<4611686018427387904)(ht:0≤t.f0∧t.f0≤2147483647):∀(d i:Nat),i+d=t.f1.length→Ev (fun k=>qAQ.l9 k m t (i:Int)) (past m t.f0 (preS t.f1 i) (t.f1.take i) (t.f1.drop i)):=by
 intro d
 induction d with
 | zero =>
  intro i hi
  refine .s (qAQ.l9_s · _ _ _) (.n (by omega) (.cv ?_))
  rw [List.drop_eq_nil_of_le (by omega)]
  rfl
 | succ d ih =>
  intro i hi
  have h1:i<t.f1.length:=by omega
  refine .s (qAQ.l9_s · _ _ _) (.t (by omega) (.t (by omega) ?_))
  have ih:=ih (i+1) (by omega)
  rw [qGV _ i h1 hl,List.take_add_one,List.getElem?_eq_getElem h1,Option.toList_some]at ih
  rw [nth_get _ _ _ h1,List.drop_eq_getElem_cons h1]
  simp only [past]
  have hj:∀ b:Bool,(b=true↔¬ ((0≤t.f1[i].f0∧t.f1[i].f0<t.f0)∧preS t.f1 i<t.f1[i].f0∧m.f2≤(t.f1[i].f1.length:Int)∧(t.f1[i].f1.length:Int)≤m.f1))→Ev (fun k=>qAQ.j51 k m t (i:Int) b) (decide ((0≤t.f1[i].f0∧t.f1[i].f0<t.f0)∧preS t.f1 i<t.f1[i].f0∧m.f2≤(t.f1[i].f1.length:Int)∧(t.f1[i].f1.length:Int)≤m.f1)&&riseI 0 t.f1[i].f1 && !decide (∃ x ∈ t.f1.take i,x.f1=t.f1[i].f1)&&past m t.f0 t.f1[i].f0 (t.f1.take i++[t.f1[i]]) (t.f1.drop (i+1))):=by
   intro b hb
   refine .s (qAQ.j51_s · _ _ _ _) ?_
   by_cases h:(0≤t.f1[i].f0∧t.f1[i].f0<t.f0)∧preS t.f1 i<t.f1[i].f0∧m.f2≤(t.f1[i].f1.length:Int)∧(t.f1[i].f1.length:Int)≤m.f1
   ·refine .n (fun e=>(hb.1 e) h) ?_
    rw [dT h,Bool.true_and]
    refine qHL m t i hl hs h1 _ ?_ ?_ ?_ t.f1[i].f1.length 0 (by omega) (by rw [List.drop_zero]; rfl)
    ·intro h2 h3
     rw [h2,dT h3]
     simp
    ·intro h2 h3
     refine ih.v ?_
     rw [h2,dF h3]
     simp
    ·intro h2
     simp [h2]
   ·refine .t (hb.2 h) (.cv ?_)
    rw [dF h]
    simp
  clear ih
  have hp0:i=0→preS t.f1 i = -1:=fun e=>if_pos e
  have hp1:i≠0→(nth qF.z t.f1 (w64 ((i:Int) - 1))).f0=preS t.f1 i:=fun e=>(if_neg e).symm
  have hw:i≠0→w64 ((i:Int) - 1)=((i - 1:Nat):Int):=fun e=>w64p i (by omega) (by omega)
  have hw2:w64 (t.f0 - 1)=t.f0 - 1:=qCI (by omega) (by omega)
  rw [hw2]
  generalize hv:(decide ((0≤t.f1[i].f0∧t.f1[i].f0<t.f0)∧preS t.f1 i<t.f1[i].f0∧m.f2≤(t.f1[i].f1.length:Int)∧(t.f1[i].f1.length:Int)≤m.f1)&&riseI 0 t.f1[i].f1 && !decide (∃ x ∈ t.f1.take i,x.f1=t.f1[i].f1)&&past m t.f0 t.f1[i].f0 (t.f1.take i++[t.f1[i]]) (t.f1.drop (i+1)))=v at hj ⊢
  clear hv
  generalize preS t.f1 i=p at *
  generalize (nth qF.z t.f1 (w64 ((i:Int) - 1))).f0=q at *
  generalize t.f1[i]=n at *
  repeat' (first | refine Ev.b0 (min' _ _ _) ?_ | refine Ev.i (fun _=>?_) (fun _=>?_))
  all_goals simp only [decide_eq_true_eq]at *
  all_goals first
   | exact hj _ (by simp only [decide_eq_true_eq,Bool.false_eq_true,true_iff,false_iff,Bool.not_eq_true',decide_eq_false_iff_not]; omega)
   | (exfalso; omega)
theorem pastf(m:qG)(t:qC)(hl:t.f1.length<4611686018427387904)(hs:∀ s ∈ t.f1,s.f1.length<4611686018427387904)(ht:0≤t.f0∧t.f0≤2147483647):Ev (fun k=>qAQ.f k m t) (past m t.f0 (-1) [] t.f1):=by
 unfold qAQ.f
 exact qHu m t hl hs ht t.f1.length 0 (by omega)
theorem qFe(m:qG)(hm:Small m)(h0:m.f0≤2147483647):∀(d i:Nat),i+d=m.f6.length→Ev (fun k=>qAf.l11 k m (i:Int)) (eno (trails m (m.f6.drop i))):=by
 have h6:=hm.h6
 intro d
 induction d with
 | zero =>
  intro i hi
  refine .s (qAf.l11_s · _ _) (.n (by omega) (.cv ?_))
  rw [List.drop_eq_nil_of_le (by omega)]
  rfl
 | succ d ih =>
  intro i hi
  have h1:i<m.f6.length:=by omega
  refine .s (qAf.l11_s · _ _) (.t (by omega) (.t (by omega) ?_))
  have ih:=ih (i+1) (by omega)
  rw [nth_get _ _ _ h1,List.drop_eq_getElem_cons h1,trails]
  refine .b0 (min' _ _ _) (.i (fun h=>?_) (fun h=>?_))
  ·have h:=oT h
   refine .b (pastf m m.f6[i] (hm.hp _ (gM h1)) (hm.hs _ (gM h1)) (by omega)) (.s (qAf.j40_s · _ _ _) ?_)
   rw [dT h,Bool.true_and,w64n i (by omega)]
   cases past m m.f6[i].f0 (-1) [] m.f6[i].f1 with
   | true=>exact .n (by decide) ih
   | false=>exact .t rfl (.c _)
  ·refine .s (qAf.j40_s · _ _ _) (.t rfl (.cv ?_))
   have h:¬ (0≤m.f6[i].f0∧m.f6[i].f0≤m.f0):=fun e=>h (dT e)
   rw [dF h]
   rfl
theorem trailsf(m:qG)(hm:Small m)(h0:m.f0≤2147483647):Ev (fun k=>qAf.f k m) (eno (decide ((m.f6.length:Int)=m.f3∧trails m m.f6=true))):=by
 unfold qAf.f
 refine .i (fun h=>(qFe m hm h0 m.f6.length 0 (by omega)).v ?_) (fun h=>.cv ?_)
 ·rw [List.drop_zero]
  congr 1
  simp [h]
 ·rw [dF (fun e=>h e.1)]
  rfl
theorem qGW(m:qG)(hm:Small m)(hf:Flat m):∀(d i:Nat),i+d=m.f5.length→Ev (fun k=>qAD.l36 k m (i:Int)) (eno (temps m (preT m.f5 i) (m.f5.drop i)&&decide ((m.f6.length:Int)=m.f3∧trails m m.f6=true))):=by
 have h5:=hm.h5
 have hg:=hf.2.2.2.1
 intro d
 induction d with
 | zero =>
  intro i hi
  refine .s (qAD.l36_s · _ _) (.n (by omega) (.b (trailsf m hm hf.1.2) (.cv ?_)))
  rw [List.drop_eq_nil_of_le (by omega)]
  rfl
 | succ d ih =>
  intro i hi
  have h1:i<m.f5.length:=by omega
  refine .s (qAD.l36_s · _ _) (.t (by omega) (.t (by omega) ?_))
  have ih:=ih (i+1) (by omega)
  rw [qEX _ i h1 h5]at ih
  rw [nth_get _ _ _ h1,List.drop_eq_getElem_cons h1,temps]
  have hj:∀ b:Bool,(b = !(decide ((0≤m.f5[i].f0∧m.f5[i].f0<m.f3)∧preT m.f5 i<m.f5[i].f0∧1≤(m.f5[i].f1.length:Int)∧(m.f5[i].f1.length:Int)≤m.f1)&&Topo.apartR m.f4 [] m.f5[i].f1))→Ev (fun k=>qAD.j85 k m (i:Int) b) (eno (((decide ((0≤m.f5[i].f0∧m.f5[i].f0<m.f3)∧preT m.f5 i<m.f5[i].f0∧1≤(m.f5[i].f1.length:Int)∧(m.f5[i].f1.length:Int)≤m.f1)&&Topo.apartR m.f4 [] m.f5[i].f1)&&temps m m.f5[i].f0 (m.f5.drop (i+1)))&&decide ((m.f6.length:Int)=m.f3∧trails m m.f6=true))):=by
   intro b hb
   refine .s (qAD.j85_s · _ _ _) ?_
   rw [w64n i (by omega)]
   generalize (decide ((0≤m.f5[i].f0∧m.f5[i].f0<m.f3)∧preT m.f5 i<m.f5[i].f0∧1≤(m.f5[i].f1.length:Int)∧(m.f5[i].f1.length:Int)≤m.f1)&&Topo.apartR m.f4 [] m.f5[i].f1)=c at hb ⊢
   subst hb
   cases c with
   | true=>exact .n (by decide) ih
   | false=>exact .t rfl (.c _)
  clear ih
  have hj1:¬ ((0≤m.f5[i].f0∧m.f5[i].f0<m.f3)∧preT m.f5 i<m.f5[i].f0∧1≤(m.f5[i].f1.length:Int)∧(m.f5[i].f1.length:Int)≤m.f1)→Ev (fun k=>qAD.j85 k m (i:Int) true) _:=fun h=>hj true (by rw [dF h]; rfl)
  have hj2:((0≤m.f5[i].f0∧m.f5[i].f0<m.f3)∧preT m.f5 i<m.f5[i].f0∧1≤(m.f5[i].f1.length:Int)∧(m.f5[i].f1.length:Int)≤m.f1)→Ev (fun k=>(qAP.f k m.f4 m.f5[i].f1).bind fun t75=>qAD.j85 k m (i:Int) (!t75)) _:=fun h=>.b (Topo.apart m.f4 m.f5[i].f1 hm.h4 (by have:=hf.2.1; omega)) (hj _ (by rw [dT h,dT hf.2.2.2.2]))
  have hp0:i=0→preT m.f5 i = -1:=fun e=>if_pos e
  have hp1:i≠0→(nth qE.z m.f5 (w64 ((i:Int) - 1))).f0=preT m.f5 i:=fun e=>(if_neg e).symm
  have hw:i≠0→w64 ((i:Int) - 1)=((i - 1:Nat):Int):=fun e=>w64p i (by omega) (by omega)
  have hw2:w64 (m.f3 - 1)=m.f3 - 1:=qCI (by omega) (by omega)
  rw [hw2]
  clear hj
  generalize (eno (((decide ((0≤m.f5[i].f0∧m.f5[i].f0<m.f3)∧preT m.f5 i<m.f5[i].f0∧1≤(m.f5[i].f1.length:Int)∧(m.f5[i].f1.length:Int)≤m.f1)&&Topo.apartR m.f4 [] m.f5[i].f1)&&temps m m.f5[i].f0 (m.f5.drop (i+1)))&&decide ((m.f6.length:Int)=m.f3∧trails m m.f6=true)))=v at hj1 hj2 ⊢
  generalize preT m.f5 i=p at *
  generalize (nth qE.z m.f5 (w64 ((i:Int) - 1))).f0=q at *
  generalize m.f5[i]=n at *
  repeat' (first | refine Ev.b0 (min' _ _ _) ?_ | refine Ev.i (fun _=>?_) (fun _=>?_))
  all_goals simp only [decide_eq_true_eq]at *
  all_goals first
   | exact hj1 (by omega)
   | exact hj2 (by omega)
   | (exfalso; omega)
theorem check(m:qG)(hm:Small m):Ev (fun k=>qAD.f k m) (eno (decide (May m))):=by
 have hj1:¬ Flat m→Ev (fun k=>qAD.j26 k m true) (eno (decide (May m))):=fun h=>.s (qAD.j26_s · _ _) (.t rfl (.cv (by rw [dF (fun e:May m=>h e.1)]; rfl)))
 have hj2:Flat m→Ev (fun k=>qAD.j26 k m false) (eno (decide (May m))):=fun h=>.s (qAD.j26_s · _ _) (.n (by decide) ((qGW m hm h m.f5.length 0 (by omega)).v (by
  rw [List.drop_zero]
  congr 1
  rw [Bool.eq_iff_iff,Bool.and_eq_true,decide_eq_true_eq,decide_eq_true_eq]
  exact ⟨fun e=>⟨h,e⟩,fun e=>e.2⟩)))
 unfold qAD.f
 generalize eno (decide (May m))=v at *
 unfold Flat at hj1 hj2
 refine .b0 (min' _ _ _) (.i (fun h=>.b0 (min' _ _ _) (.i (fun h=>.b0 (min' _ _ _) (.i (fun h=>.b0 (min' _ _ _) (.i (fun h=>.b (Topo.check m.f4 hm.h4) ?_) (fun h=>?_))) (fun h=>?_))) (fun h=>?_))) (fun h=>?_))
 all_goals simp only [decide_eq_true_eq]at *
 ·by_cases hN:Topo.Nodes m.f4
  ·rw [dT hN]
   refine hj2 ⟨?_,?_,?_,?_,hN⟩ <;> omega
  ·rw [dF hN]
   exact hj1 (fun e=>hN e.2.2.2.2)
 all_goals refine hj1 (fun e=>?_)
 all_goals have:=e.1
 all_goals have:=e.2.1
 all_goals have:=e.2.2.1
 all_goals have:=e.2.2.2.1
 all_goals omega
def ahead(s:qF)(seen:List qF):Bool:=decide (∀ x ∈ seen,x.f0<s.f0∧x.f1≠s.f1)
def pastR(m:qG)(since:Int):List qF→List qF→Bool
 | _,[]=>true
 | seen,s :: l=>(decide ((0≤s.f0∧s.f0<since)∧m.f2≤(s.f1.length:Int)∧(s.f1.length:Int)≤m.f1)&&riseI 0 s.f1&&ahead s seen)&&pastR m since (seen++[s]) l
theorem qBz(m:qG)(since:Int):∀(l seen:List qF)(p:Int),(∀ x ∈ seen,x.f0≤p)→(p = -1∨∃ x ∈ seen,x.f0=p)→past m since p seen l=pastR m since seen l
 | [],_,_,_,_=>rfl
 | s :: l,seen,p,h1,h2=>by
  rw [past,pastR]
  by_cases h:(0≤s.f0∧s.f0<since)∧p<s.f0∧m.f2≤(s.f1.length:Int)∧(s.f1.length:Int)≤m.f1
  ·have h':(0≤s.f0∧s.f0<since)∧m.f2≤(s.f1.length:Int)∧(s.f1.length:Int)≤m.f1:=⟨h.1,h.2.2⟩
   have ha:(!decide (∃ x ∈ seen,x.f1=s.f1))=ahead s seen:=by
    unfold ahead
    rw [Bool.eq_iff_iff,Bool.not_eq_true',decide_eq_false_iff_not,decide_eq_true_eq]
    exact ⟨fun e x hx=>⟨Int.lt_of_le_of_lt (h1 x hx) h.2.1,fun q=>e ⟨x,hx,q⟩⟩,fun e ⟨x,hx,q⟩=>(e x hx).2 q⟩
   rw [dT h,dT h',ha,qBz m since l (seen++[s]) s.f0 ?_ (.inr ⟨s,by simp,rfl⟩)]
   ·intro x hx
    rcases List.mem_append.1 hx with hx | hx
    ·have:=h1 x hx
     omega
    ·simp only [List.mem_cons,List.not_mem_nil,or_false]at hx
     rw [hx]
     exact Int.le_refl _
  ·rw [dF h]
   simp only [Bool.false_and]
   by_cases h3:(0≤s.f0∧s.f0<since)∧m.f2≤(s.f1.length:Int)∧(s.f1.length:Int)≤m.f1
   ·have:ahead s seen=false:=by
     unfold ahead
     rw [decide_eq_false_iff_not]
     intro e
     rcases h2 with rfl | ⟨x,hx,rfl⟩
     ·exact h ⟨h3.1,by omega,h3.2⟩
     ·exact h ⟨h3.1,(e x hx).1,h3.2⟩
    rw [this]
    simp
   ·rw [dF h3]
    simp
def trailsR(m:qG):List qC→Bool
 | []=>true
 | t :: l=>(decide (0≤t.f0∧t.f0≤m.f0)&&pastR m t.f0 [] t.f1)&&trailsR m l
theorem qDX(m:qG):∀ l:List qC,trails m l=trailsR m l
 | []=>rfl
 | t :: l=>by
  rw [trails,trailsR,qDX m l,qBz m t.f0 t.f1 [] (-1) (fun _ h=>nomatch h) (.inl rfl)]
theorem qFf (m:qG) (hm:Small m) (i x:Nat) (hi:i<m.f6.length) (hx:x<m.f6[i].f1.length) (w:Bool)
  (hy:ahead m.f6[i].f1[x] (m.f6[i].f1.take x)=false→w=false)
  (hn:ahead m.f6[i].f1[x] (m.f6[i].f1.take x)=true→Ev (fun k=>qI.l40 k m (i:Int) ((x+1:Nat):Int)) w) :
  ∀(d j:Nat),j+d=x→(∀ y ∈ m.f6[i].f1.take j,y.f0<m.f6[i].f1[x].f0∧y.f1≠m.f6[i].f1[x].f1)→Ev (fun k=>qI.l113 k m (i:Int) (x:Int) (j:Int)) w:=by
 have hz:=nth_get qC.z _ _ hi
 have hz2:=nth_get qF.z _ _ hx
 have hp:=hm.hp _ (gM hi)
 have hs:=hm.hs _ (gM hi)
 intro d
 induction d with
 | zero =>
  intro j hj h
  refine .s (qI.l113_s · _ _ _ _) (.n (by omega) ?_)
  obtain rfl:j=x:=by omega
  rw [w64n j (by omega)]
  exact hn (dT h)
 | succ d ih =>
  intro j hj h
  have h1:j<m.f6[i].f1.length:=by omega
  refine .s (qI.l113_s · _ _ _ _) ?_
  rw [hz,hz2,nth_get _ _ _ h1]
  refine .t (by omega) (.t (by omega) ?_)
  have hin:m.f6[i].f1[j] ∈ m.f6[i].f1.take x:=List.mem_take_iff_getElem.2 ⟨j,by omega,rfl⟩
  refine .i (fun h2=>?_) (fun h2=>.b (ints _ _ (hs _ (gM h1))) ?_)
  ·refine .s (qI.j137_s · _ _ _ _ _) (.t rfl (.cv (hy ?_).symm))
   exact dF (fun e=>by have:=(e _ hin).1; omega)
  ·refine .s (qI.j137_s · _ _ _ _ _) (.i (fun h3=>.cv (hy ?_).symm) (fun h3=>?_))
   ·exact dF (fun e=>(e _ hin).2 (oT h3))
   ·rw [w64n j (by omega)]
    refine ih (j+1) (by omega) ?_
    intro y hy
    rw [List.take_add_one,List.getElem?_eq_getElem h1,Option.toList_some]at hy
    rcases List.mem_append.1 hy with hy | hy
    ·exact h y hy
    ·simp only [List.mem_cons,List.not_mem_nil,or_false]at hy
     rw [hy]
     exact ⟨by omega,fun e=>h3 (dT e)⟩
theorem qGX (m:qG) (hm:Small m) (i x:Nat) (hi:i<m.f6.length) (hx:x<m.f6[i].f1.length) (w:Bool)
  (hc:riseI 0 m.f6[i].f1[x].f1=true→Ev (fun k=>qI.l113 k m (i:Int) (x:Int) 0) w)
  (hr:riseI 0 m.f6[i].f1[x].f1=false→w=false):∀(d j:Nat),j+d=m.f6[i].f1[x].f1.length→(riseI 0 m.f6[i].f1[x].f1=riseI (preI m.f6[i].f1[x].f1 j) (m.f6[i].f1[x].f1.drop j))→Ev (fun k=>qI.l76 k m (i:Int) (x:Int) (j:Int)) w:=by
 have hz:=nth_get qC.z _ _ hi
 have hz2:=nth_get qF.z _ _ hx
 have hsl:=hm.hs _ (gM hi) _ (gM hx)
 generalize hs:m.f6[i].f1[x]=s at *
 intro d
 induction d with
 | zero =>
  intro j hj he
  refine .s (qI.l76_s · _ _ _ _) ?_
  rw [hz,hz2]
  rw [List.drop_eq_nil_of_le (by omega)]at he
  exact .n (by omega) (hc he)
 | succ d ih =>
  intro j hj he
  have h1:j<s.f1.length:=by omega
  refine .s (qI.l76_s · _ _ _ _) ?_
  rw [hz,hz2]
  refine .t (by omega) (.t (by omega) ?_)
  rw [List.drop_eq_getElem_cons h1]at he
  simp only [riseI]at he
  have hb:∀ b:Bool,(b=true↔¬ ((1≤s.f1[j]∧s.f1[j]≤999)∧preI s.f1 j<s.f1[j]))→Ev (fun k=>qI.j104 k m (i:Int) (x:Int) (j:Int) b) w:=by
   intro b hb
   refine .s (qI.j104_s · _ _ _ _ _) ?_
   by_cases h:(1≤s.f1[j]∧s.f1[j]≤999)∧preI s.f1 j<s.f1[j]
   ·refine .n (fun e=>(hb.1 e) h) ?_
    rw [w64n j (by omega)]
    refine ih (j+1) (by omega) ?_
    rw [he,qEY _ j h1 hsl,dT h,Bool.true_and]
   ·refine .t (hb.2 h) (.cv (hr ?_).symm)
    rw [he,dF h]
    simp
  clear he ih hr hc
  rw [nth_get _ _ _ h1]
  have hp0:j=0→preI s.f1 j=0:=fun e=>if_pos e
  have hp1:j≠0→nth 0 s.f1 (w64 ((j:Int) - 1))=preI s.f1 j:=fun e=>(if_neg e).symm
  have hw:j≠0→w64 ((j:Int) - 1)=((j - 1:Nat):Int):=fun e=>w64p j (by omega) (by omega)
  generalize preI s.f1 j=p at *
  generalize nth 0 s.f1 (w64 ((j:Int) - 1))=q at *
  generalize s.f1[j]=n at *
  clear hs hz hz2
  repeat' (first | refine Ev.i (fun _=>?_) (fun _=>?_))
  all_goals first
   | exact hb _ (by simp only [decide_eq_true_eq,Bool.false_eq_true,true_iff,false_iff]; omega)
   | (exfalso; omega)
theorem qGY (m:qG) (hm:Small m) (i:Nat) (hi:i<m.f6.length) (w:Bool→Bool)
  (hn:Ev (fun k=>qI.l7 k m ((i+1:Nat):Int)) (w true)) (hw:w false=false) :
  ∀(d j:Nat),j+d=m.f6[i].f1.length→Ev (fun k=>qI.l40 k m (i:Int) (j:Int)) (w (pastR m m.f6[i].f0 (m.f6[i].f1.take j) (m.f6[i].f1.drop j))):=by
 have hz:=nth_get qC.z _ _ hi
 have hp:=hm.hp _ (gM hi)
 have h6:=hm.h6
 intro d
 induction d with
 | zero =>
  intro j hj
  refine .s (qI.l40_s · _ _ _) ?_
  rw [hz]
  refine .n (by omega) ?_
  rw [List.drop_eq_nil_of_le (by omega),w64n i (by omega)]
  exact hn
 | succ d ih =>
  intro j hj
  have h1:j<m.f6[i].f1.length:=by omega
  refine .s (qI.l40_s · _ _ _) ?_
  rw [hz]
  refine .t (by omega) (.t (by omega) ?_)
  have ih:=ih (j+1) (by omega)
  rw [List.take_add_one,List.getElem?_eq_getElem h1,Option.toList_some]at ih
  rw [nth_get _ _ _ h1,List.drop_eq_getElem_cons h1]
  simp only [pastR]
  have hb:∀ b:Bool,(b=true↔¬ ((0≤m.f6[i].f1[j].f0∧m.f6[i].f1[j].f0<m.f6[i].f0)∧m.f2≤(m.f6[i].f1[j].f1.length:Int)∧(m.f6[i].f1[j].f1.length:Int)≤m.f1))→Ev (fun k=>qI.j66 k m (i:Int) (j:Int) b) (w ((decide ((0≤m.f6[i].f1[j].f0∧m.f6[i].f1[j].f0<m.f6[i].f0)∧m.f2≤(m.f6[i].f1[j].f1.length:Int)∧(m.f6[i].f1[j].f1.length:Int)≤m.f1)&&riseI 0 m.f6[i].f1[j].f1&&ahead m.f6[i].f1[j] (m.f6[i].f1.take j))&&pastR m m.f6[i].f0 (m.f6[i].f1.take j++[m.f6[i].f1[j]]) (m.f6[i].f1.drop (j+1)))):=by
   intro b hb
   refine .s (qI.j66_s · _ _ _ _) ?_
   by_cases h:(0≤m.f6[i].f1[j].f0∧m.f6[i].f1[j].f0<m.f6[i].f0)∧m.f2≤(m.f6[i].f1[j].f1.length:Int)∧(m.f6[i].f1[j].f1.length:Int)≤m.f1
   ·refine .n (fun e=>(hb.1 e) h) ?_
    rw [dT h,Bool.true_and]
    refine qGX m hm i j hi h1 _ ?_ ?_ m.f6[i].f1[j].f1.length 0 (by omega) (by rw [List.drop_zero]; rfl)
    ·intro h2
     refine qFf m hm i j hi h1 _ ?_ ?_ j 0 (by omega) (fun _ hy=>by rw [List.take_zero]at hy; cases hy)
     ·intro h3
      rw [h3,Bool.and_false,Bool.false_and]
      exact hw
     ·intro h3
      refine ih.v ?_
      rw [h2,h3]
      rfl
    ·intro h2
     rw [h2]
     exact hw
   ·refine .t (hb.2 h) (.cv ?_)
    rw [dF h]
    exact hw.symm
  clear ih hn
  generalize (w ((decide ((0≤m.f6[i].f1[j].f0∧m.f6[i].f1[j].f0<m.f6[i].f0)∧m.f2≤(m.f6[i].f1[j].f1.length:Int)∧(m.f6[i].f1[j].f1.length:Int)≤m.f1)&&riseI 0 m.f6[i].f1[j].f1&&ahead m.f6[i].f1[j] (m.f6[i].f1.take j))&&pastR m m.f6[i].f0 (m.f6[i].f1.take j++[m.f6[i].f1[j]]) (m.f6[i].f1.drop (j+1))))=v at hb ⊢
  generalize m.f6[i].f1[j]=n at *
  generalize m.f6[i].f0=q at *
  clear hz
  repeat' (first | refine Ev.i (fun _=>?_) (fun _=>?_))
  all_goals first
   | exact hb _ (by simp only [decide_eq_true_eq,Bool.false_eq_true,true_iff,false_iff]; omega)
   | (exfalso; omega)
theorem qHM(m:qG)(hm:Small m):∀(d i:Nat),i+d=m.f6.length→Ev (fun k=>qI.l7 k m (i:Int)) (trailsR m (m.f6.drop i)&&decide ((m.f6.length:Int)=m.f3)):=by
 have h6:=hm.h6
 intro d
 induction d with
 | zero =>
  intro i hi
  refine .s (qI.l7_s · _ _) (.n (by omega) (.cv ?_))
  rw [List.drop_eq_nil_of_le (by omega),trailsR,Bool.true_and]
  rw [Bool.eq_iff_iff,decide_eq_true_eq,beq_iff_eq]
 | succ d ih =>
  intro i hi
  have h1:i<m.f6.length:=by omega
  refine .s (qI.l7_s · _ _) (.t (by omega) (.t (by omega) ?_))
  have ih:=ih (i+1) (by omega)
  rw [nth_get _ _ _ h1,List.drop_eq_getElem_cons h1,trailsR]
  have hj:∀ b:Bool,(b=true↔¬ (0≤m.f6[i].f0∧m.f6[i].f0≤m.f0))→Ev (fun k=>qI.j31 k m (i:Int) b) (decide (0≤m.f6[i].f0∧m.f6[i].f0≤m.f0)&&pastR m m.f6[i].f0 [] m.f6[i].f1&&trailsR m (m.f6.drop (i+1))&&decide ((m.f6.length:Int)=m.f3)):=by
   intro b hb
   refine .s (qI.j31_s · _ _ _) ?_
   by_cases h:0≤m.f6[i].f0∧m.f6[i].f0≤m.f0
   ·refine .n (fun e=>(hb.1 e) h) ?_
    rw [dT h,Bool.true_and]
    have:=qGY m hm i h1 (fun b=>b&&trailsR m (m.f6.drop (i+1))&&decide ((m.f6.length:Int)=m.f3)) ih rfl m.f6[i].f1.length 0 (by omega)
    rw [List.take_zero,List.drop_zero]at this
    exact this
   ·refine .t (hb.2 h) (.cv ?_)
    rw [dF h]
    simp
  refine .i (fun h=>hj _ ?_) (fun h=>hj _ ?_)
  ·simp only [true_iff]; omega
  ·simp only [decide_eq_true_eq]; omega
theorem pasts(m:qG)(hm:Small m):Ev (fun k=>qI.f k m) (decide ((m.f6.length:Int)=m.f3∧trails m m.f6=true)):=by
 unfold qI.f
 refine (qHM m hm m.f6.length 0 (by omega)).v ?_
 rw [List.drop_zero,← qDX,Bool.eq_iff_iff,Bool.and_eq_true,decide_eq_true_eq,decide_eq_true_eq]
 exact And.comm
theorem qHv(m:qG)(hm:Small m)(hf:Flat m):∀(d i:Nat),i+d=m.f5.length→Ev (fun k=>qe.l28 k m (i:Int)) (temps m (preT m.f5 i) (m.f5.drop i)&&decide ((m.f6.length:Int)=m.f3∧trails m m.f6=true)):=by
 have h5:=hm.h5
 have hg:=hf.2.2.2.1
 intro d
 induction d with
 | zero =>
  intro i hi
  refine .s (qe.l28_s · _ _) (.n (by omega) (.b (pasts m hm) (.cv ?_)))
  rw [List.drop_eq_nil_of_le (by omega)]
  rfl
 | succ d ih =>
  intro i hi
  have h1:i<m.f5.length:=by omega
  refine .s (qe.l28_s · _ _) (.t (by omega) (.t (by omega) ?_))
  have ih:=ih (i+1) (by omega)
  rw [qEX _ i h1 h5]at ih
  rw [nth_get _ _ _ h1,List.drop_eq_getElem_cons h1,temps]
  have hj:∀ b:Bool,(b = !(decide ((0≤m.f5[i].f0∧m.f5[i].f0<m.f3)∧preT m.f5 i<m.f5[i].f0∧1≤(m.f5[i].f1.length:Int)∧(m.f5[i].f1.length:Int)≤m.f1)&&Topo.apartR m.f4 [] m.f5[i].f1))→Ev (fun k=>qe.j71 k m (i:Int) b) (((decide ((0≤m.f5[i].f0∧m.f5[i].f0<m.f3)∧preT m.f5 i<m.f5[i].f0∧1≤(m.f5[i].f1.length:Int)∧(m.f5[i].f1.length:Int)≤m.f1)&&Topo.apartR m.f4 [] m.f5[i].f1)&&temps m m.f5[i].f0 (m.f5.drop (i+1)))&&decide ((m.f6.length:Int)=m.f3∧trails m m.f6=true)):=by
   intro b hb
   refine .s (qe.j71_s · _ _ _) ?_
   rw [w64n i (by omega)]
   generalize (decide ((0≤m.f5[i].f0∧m.f5[i].f0<m.f3)∧preT m.f5 i<m.f5[i].f0∧1≤(m.f5[i].f1.length:Int)∧(m.f5[i].f1.length:Int)≤m.f1)&&Topo.apartR m.f4 [] m.f5[i].f1)=c at hb ⊢
   subst hb
   cases c with
   | true=>exact .n (by decide) ih
   | false=>exact .t rfl (.c _)
  clear ih
  have hj1:¬ ((0≤m.f5[i].f0∧m.f5[i].f0<m.f3)∧preT m.f5 i<m.f5[i].f0∧1≤(m.f5[i].f1.length:Int)∧(m.f5[i].f1.length:Int)≤m.f1)→Ev (fun k=>qe.j71 k m (i:Int) true) _:=fun h=>hj true (by rw [dF h]; rfl)
  have hj2:((0≤m.f5[i].f0∧m.f5[i].f0<m.f3)∧preT m.f5 i<m.f5[i].f0∧1≤(m.f5[i].f1.length:Int)∧(m.f5[i].f1.length:Int)≤m.f1)→Ev (fun k=>(qn.f k m.f4 m.f5[i].f1).bind fun t75=>qe.j71 k m (i:Int) (!t75)) _:=fun h=>.b (Topo.refapart m.f4 m.f5[i].f1 hm.h4 (by have:=hf.2.1; omega)) (hj _ (by rw [dT h]; rfl))
  have hp0:i=0→preT m.f5 i = -1:=fun e=>if_pos e
  have hp1:i≠0→(nth qE.z m.f5 (w64 ((i:Int) - 1))).f0=preT m.f5 i:=fun e=>(if_neg e).symm
  have hw:i≠0→w64 ((i:Int) - 1)=((i - 1:Nat):Int):=fun e=>w64p i (by omega) (by omega)
  clear hj
  generalize (((decide ((0≤m.f5[i].f0∧m.f5[i].f0<m.f3)∧preT m.f5 i<m.f5[i].f0∧1≤(m.f5[i].f1.length:Int)∧(m.f5[i].f1.length:Int)≤m.f1)&&Topo.apartR m.f4 [] m.f5[i].f1)&&temps m m.f5[i].f0 (m.f5.drop (i+1)))&&decide ((m.f6.length:Int)=m.f3∧trails m m.f6=true))=v at hj1 hj2 ⊢
  generalize preT m.f5 i=p at *
  generalize (nth qE.z m.f5 (w64 ((i:Int) - 1))).f0=q at *
  generalize m.f5[i]=n at *
  repeat' (first | refine Ev.i (fun _=>?_) (fun _=>?_))
  all_goals first
   | exact hj1 (by omega)
   | exact hj2 (by omega)
   | (exfalso; omega)
theorem may(m:qG)(hm:Small m):Ev (fun k=>qe.f k m) (decide (May m)):=by
 have hj1:¬ Flat m→Ev (fun k=>qe.j18 k m true) (decide (May m)):=fun h=>.s (qe.j18_s · _ _) (.t rfl (.cv (dF (fun e:May m=>h e.1)).symm))
 have hj2:Flat m→Ev (fun k=>qe.j18 k m false) (decide (May m)):=fun h=>.s (qe.j18_s · _ _) (.n (by decide) ((qHv m hm h m.f5.length 0 (by omega)).v (by
  rw [List.drop_zero,Bool.eq_iff_iff,Bool.and_eq_true,decide_eq_true_eq,decide_eq_true_eq]
  exact ⟨fun e=>⟨h,e⟩,fun e=>e.2⟩)))
 have hj3:(0≤m.f0∧m.f0≤2147483647)∧(1≤m.f1∧m.f1≤3)∧(1≤m.f2∧m.f2≤m.f1)∧(1≤m.f3∧m.f3≤8)→Ev (fun k=>(qo.f k m.f4).bind fun t15=>qe.j18 k m (!t15)) (decide (May m)):=by
  intro h
  refine .b (Topo.may m.f4 hm.h4) ?_
  by_cases hN:Topo.Nodes m.f4
  ·rw [dT hN]
   exact hj2 ⟨h.1,h.2.1,h.2.2.1,h.2.2.2,hN⟩
  ·rw [dF hN]
   exact hj1 (fun e=>hN e.2.2.2.2)
 unfold qe.f
 generalize decide (May m)=v at *
 have hj4:¬ ((0≤m.f0∧m.f0≤2147483647)∧(1≤m.f1∧m.f1≤3)∧(1≤m.f2∧m.f2≤m.f1)∧(1≤m.f3∧m.f3≤8))→Ev (fun k=>qe.j18 k m true) v:=fun h=>hj1 (fun e=>h ⟨e.1,e.2.1,e.2.2.1,e.2.2.2.1⟩)
 clear hj1 hj2
 repeat' (first | refine Ev.i (fun _=>?_) (fun _=>?_))
 all_goals first
  | exact hj4 (by omega)
  | exact hj3 (by omega)
def posG{α : Type}(key : α→Int)(x:Int):List α→Nat
 | []=>0
 | c :: r=>if key c<x then posG key x r+1 else 0
theorem qDA{α : Type}(key : α→Int)(x:Int):∀ l:List α,posG key x l≤l.length
 | []=>Nat.le_refl _
 | c :: r=>by
  unfold posG
  have:=qDA key x r
  rw [List.length_cons]
  split <;> omega
theorem qGZ{α : Type}(key : α→Int)(x:Int):∀(l:List α)(i:Nat)(h:i<l.length),i<posG key x l→key l[i] < x
 | [],_,h,_=>nomatch h
 | c :: r,i,h,hi=>by
  unfold posG at hi
  split at hi
  ·cases i with
   | zero=>assumption
   | succ i=>exact qGZ key x r i (by simpa using h) (by omega)
  ·omega
theorem qEs{α : Type}(key : α→Int)(x:Int):∀(l:List α),l.Pairwise (fun a b=>key a<key b)→∀(i:Nat)(h:i<l.length),posG key x l≤i→x≤key l[i]
 | [],_,_,h,_=>nomatch h
 | c :: r,hp,i,h,hi=>by
  obtain ⟨h1,h2⟩:=List.pairwise_cons.1 hp
  unfold posG at hi
  split at hi
  ·cases i with
   | zero=>omega
   | succ i=>exact qEs key x r h2 i (by simpa using h) (by omega)
  ·cases i with
   | zero=>rename_i hc; exact Int.not_lt.1 hc
   | succ i =>
    rename_i hc
    have hr:i<r.length:=by simpa using h
    have:=h1 _ (gM hr)
    show x≤key r[i]
    omega
theorem cmpG(a b:Int):qAR.f a b=some (if a<b then -1 else if a>b then 1 else 0):=by
 unfold qAR.f qAz.f
 simp only [beq_self_eq_true,Bool.not_true,Option.bind_some,Bool.false_eq_true,if_false]
 by_cases h:a<b
 ·rw [if_pos h,if_pos h]
 ·rw [if_neg h,if_neg h]
  by_cases h2:a>b
  ·rw [if_pos h2,if_pos h2]
  ·rw [if_neg h2,if_neg h2]
theorem midG(a b:Nat)(h:a+b<4611686018427387904):w64 ((IntKind.u64.wrap (w64 ((a:Int)+b))).fdiv 2)=((a+b) / 2:Nat):=by
 have e:w64 ((a:Int)+b)=((a+b:Nat):Int):=by rw [qCI (by omega) (by omega)]; omega
 have e2:IntKind.u64.wrap ((a+b:Nat):Int)=((a+b:Nat):Int):=by rw [IntKind.wrap_u64]; omega
 rw [e,e2,Int.fdiv_eq_ediv_of_nonneg _ (by omega),qCI (by omega) (by omega)]
 omega
def qIR{α : Type}(key : α→Int)(x:Int)(l:List α):Int × Bool:=((posG key x l:Int),match l[posG key x l]? with
 | some c=>key c == x
 | none=>false)
theorem searchG {α : Type} (z : α) (key : α→Int) (x:Int) (cmpO : α→Int→Option Int) (hcmp:∀ a,cmpO a x=some (if key a<x then -1 else if key a>x then 1 else 0)) (l:List α) (L:Nat→Int→Int→Option (Int × Bool))
  (hL:∀ k a b,L (k+1) a b=(if a<b then (if 0≤(w64 ((IntKind.u64.wrap (w64 (a+b))).fdiv 2))∧(w64 ((IntKind.u64.wrap (w64 (a+b))).fdiv 2))<(l.length:Int) then ((cmpO (nth z l (w64 ((IntKind.u64.wrap (w64 (a+b))).fdiv 2))) x).bind fun t22=>(if t22<0 then (L k (w64 ((w64 ((IntKind.u64.wrap (w64 (a+b))).fdiv 2))+1)) b) else (L k a (w64 ((IntKind.u64.wrap (w64 (a+b))).fdiv 2))))) else (none)) else (if a<(l.length:Int) then (if 0≤a∧a<(l.length:Int) then ((cmpO (nth z l a) x).bind fun t33=>(some (a,(t33 == 0)))) else (none)) else (some (a,false)))))
  (hl:l.length<1000000) (hp:l.Pairwise (fun a b=>key a<key b)):∀(d a b:Nat),b - a≤d→a≤posG key x l→posG key x l≤b→b≤l.length→Ev (fun k=>L k (a:Int) (b:Int)) (qIR key x l):=by
 intro d
 induction d with
 | zero =>
  intro a b hd h1 h2 h3
  obtain rfl:a=b:=by omega
  obtain rfl:a=posG key x l:=by omega
  unfold qIR
  refine .s (fun k=>hL k _ _) (.n (by omega) ?_)
  by_cases h4:posG key x l<l.length
  ·refine .t (by omega) (.t (by omega) ?_)
   rw [nth_get _ _ _ h4,List.getElem?_eq_getElem h4]
   refine .b0 (hcmp _) (.cv ?_)
   have:=qEs key x l hp _ h4 (Nat.le_refl _)
   by_cases h5:key l[posG key x l]=x
   ·simp [h5]
   ·rw [if_neg (by omega),if_pos (by omega)]
    simp [h5]
  ·rw [List.getElem?_eq_none (by omega)]
   exact .n (by omega) (.c _)
 | succ d ih =>
  intro a b hd h1 h2 h3
  by_cases hab:a<b
  ·refine .s (fun k=>hL k _ _) (.t (by omega) ?_)
   rw [midG a b (by omega)]
   have h4:(a+b) / 2<l.length:=by omega
   refine .t (by omega) ?_
   rw [nth_get _ _ _ h4]
   refine .b0 (hcmp _) ?_
   by_cases h5:key l[(a+b) / 2] < x
   ·rw [if_pos h5,w64n _ (by omega)]
    refine .t (by decide) (ih _ _ (by omega) ?_ h2 h3)
    rcases Nat.lt_or_ge ((a+b) / 2) (posG key x l) with c | c
    ·omega
    ·have:=qEs key x l hp _ h4 c
     omega
   ·rw [if_neg h5]
    refine .n (by split <;> decide) (ih _ _ (by omega) h1 ?_ (by omega))
    rcases Nat.lt_or_ge ((a+b) / 2) (posG key x l) with c | c
    ·exact absurd (qGZ key x l _ h4 c) h5
    ·exact c
  ·exact ih a b (by omega) h1 h2 h3
theorem qCc{α : Type}(key : α→Int)(x:Int):∀(l:List α),l.Pairwise (fun a b=>key a<key b)→((∃ h:posG key x l<l.length,key l[posG key x l]=x∧(qIR key x l).2=true∧l.find? (fun c=>decide (key c=x))=some l[posG key x l])∨((qIR key x l).2=false∧l.find? (fun c=>decide (key c=x))=none))
 | [],_=>.inr ⟨rfl,rfl⟩
 | c :: r,hp=>by
  obtain ⟨h1,h2⟩:=List.pairwise_cons.1 hp
  by_cases hc:key c<x
  ·have e:posG key x (c :: r)=posG key x r+1:=by rw [posG,if_pos hc]
   have ef:(qIR key x (c :: r)).2=(qIR key x r).2:=by unfold qIR; rw [e]; rfl
   have en:(c :: r).find? (fun c=>decide (key c=x))=r.find? (fun c=>decide (key c=x)):=List.find?_cons_of_neg (by simp; omega)
   rw [ef,en]
   rcases qCc key x r h2 with ⟨h,q1,q2,q3⟩ | q
   ·refine .inl ⟨by rw [e,List.length_cons]; omega,?_⟩
    simp only [e,List.getElem_cons_succ]
    exact ⟨q1,q2,q3⟩
   ·exact .inr q
  ·have e:posG key x (c :: r)=0:=by rw [posG,if_neg hc]
   by_cases hx:key c=x
   ·refine .inl ⟨by rw [e]; simp,?_⟩
    simp only [e,List.getElem_cons_zero]
    refine ⟨hx,?_,List.find?_cons_of_pos (by simpa using hx)⟩
    unfold qIR
    rw [e]
    simpa using hx
   ·refine .inr ⟨?_,List.find?_eq_none.2 (fun y hy=>?_)⟩
    ·unfold qIR
     rw [e]
     simpa using hx
    ·rcases List.mem_cons.1 hy with rfl | hy
     ·simpa using hx
     ·have:=h1 y hy
      simp
      omega
def qIQ(m:qG)(g:Int):List Int:=match m.f5.find? (fun t=>decide (t.f0=g)) with
 | some t=>t.f1
 | none=>[]
def rawL(m:qG)(g:Int):List Int:=if qIQ m g=[] then Place.ofCommon m.f4 g m.f1 else qIQ m g
def upN(l:List qA)(id:Int):Bool:=(Topo.find l id).1.f4
def actL(m:qG)(g:Int):List Int:=(rawL m g).filter (upN m.f4)
def rising(l:List Int):List Int:=sortL (fun a b=>decide (a<b)) l
def followT(t:qC)(was now:List Int)(least epoch:Int):qC :=
 if was=now then t else ⟨epoch,if least≤(was.length:Int) then t.f1.filter (fun s => !decide (s.f1=rising was))++[⟨t.f0,rising was⟩] else t.f1⟩
def putN(n:qA):List qA→List qA
 | []=>[n]
 | x :: r=>if x.f0<n.f0 then x :: putN n r else if x.f0=n.f0 then n :: r else n :: x :: r
def dropN(id:Int)(l:List qA):List qA:=l.filter (fun x => !decide (x.f0=id))
def pinT(g:Int)(ns:List Int):List qE→List qE
 | []=>if ns=[] then [] else [⟨g,ns⟩]
 | t :: r=>if t.f0<g then t :: pinT g ns r else (if ns=[] then [] else [(⟨g,ns⟩:qE)])++(if t.f0=g then r else t :: r)
def withN(m:qG)(l:List qA):qG:=⟨m.f0,m.f1,m.f2,m.f3,l,m.f5,m.f6⟩
def withT(m:qG)(l:List qE):qG:=⟨m.f0,m.f1,m.f2,m.f3,m.f4,l,m.f6⟩
def withP(m:qG)(l:List qC):qG:=⟨m.f0,m.f1,m.f2,m.f3,m.f4,m.f5,l⟩
def held(m:qG)(id:Int):Bool:=m.f5.any (fun t=>decide (id ∈ t.f1))||m.f6.any (fun t=>t.f1.any (fun s=>decide (id ∈ s.f1)))
def nodeL(m:qG)(n:qA)(d:qd):qG × Int :=
 if d.f0=2 then (if 0≤d.f4∧d.f4≤65536 then (if n.f3=d.f4 then (m,7) else (withN m (putN ⟨n.f0,n.f1,n.f2,d.f4,n.f4,n.f5⟩ m.f4),0)) else (m,1))
 else if d.f0=3∨d.f0=4 then (if n.f4=decide (d.f0=3) then (m,7) else (withN m (putN ⟨n.f0,n.f1,n.f2,n.f3,decide (d.f0=3),n.f5⟩ m.f4),0))
 else if d.f0=5∨d.f0=6 then (if n.f5=decide (d.f0=6) then (m,7) else (withN m (putN ⟨n.f0,n.f1,n.f2,n.f3,n.f4,decide (d.f0=6)⟩ m.f4),0))
 else if n.f4=true∨(n.f5=true∧n.f3>0)∨held m d.f1=true then (m,11) else (withN m (dropN d.f1 m.f4),0)
def addN(d:qd):qA:=⟨d.f1,d.f2,d.f3,d.f4,false,true⟩
def addL(m:qG)(d:qd):qG × Int :=
 if (Topo.find m.f4 d.f1).2=true then (m,7) else if m.f4.length=12 then (m,6) else if Topo.Nodes (putN (addN d) m.f4) then (withN m (putN (addN d) m.f4),0) else (m,1)
def pinL(m:qG)(d:qd):qG × Int :=
 if 0≤d.f5∧d.f5<m.f3∧(d.f6.length:Int)≤m.f1 then (if qIQ m d.f5=d.f6 then (m,7) else if Topo.apartR m.f4 [] d.f6=true then (withT m (pinT d.f5 d.f6 m.f5),0) else (m,12)) else (m,1)
def cleanL(m:qG)(d:qd):qG × Int :=
 if 0≤d.f5∧d.f5<m.f3 then (if (nth qC.z m.f6 d.f5).f0≠d.f4 then (m,5) else if (nth qC.z m.f6 d.f5).f1=[] then (m,7) else (withP m (m.f6.set d.f5.toNat ⟨(nth qC.z m.f6 d.f5).f0,[]⟩),0)) else (m,1)
def qIN(m:qG)(d:qd):qG × Int :=
 if d.f0=1 then addL m d else if d.f0=8 then pinL m d else if d.f0=9 then (m,0) else if d.f0=10 then cleanL m d
 else match m.f4.find? (fun n=>decide (n.f0=d.f1)) with
  | some n=>nodeL m n d
  | none=>(m,5)
def bareD(d:qd):Prop :=
 if d.f0=1 then d.f5=0∧d.f6=[]
 else if d.f0=2 then d.f2=0∧d.f3=0∧d.f5=0∧d.f6=[]
 else if d.f0=10 then d.f1=0∧d.f2=0∧d.f3=0∧d.f6=[]
 else if d.f0=8 then d.f1=0∧d.f2=0∧d.f3=0∧d.f4=0
 else (d.f2=0∧d.f3=0∧d.f4=0∧d.f5=0∧d.f6=[])∧(d.f0=9→d.f1=0)
instance (d:qd):Decidable (bareD d):=by unfold bareD; infer_instance
def qIP(m x:qG):List qC:=x.f6.mapIdx (fun g t=>followT t (actL m g) (actL x g) m.f2 (m.f0+1))
def qIS(m:qG)(d:qd):qG × Int :=
 if (1≤d.f0∧d.f0≤10)∧bareD d then (if m.f0=2147483647 then (m,6) else if (qIN m d).2=0 then (⟨m.f0+1,m.f1,m.f2,m.f3,(qIN m d).1.f4,(qIN m d).1.f5,qIP m (qIN m d).1⟩,0) else (m,(qIN m d).2)) else (m,1)
theorem qGa:∀(p:Int)(l:List qA),(∀ n ∈ l,Topo.okN n)→l.Pairwise (fun x y=>x.f0<y.f0)→(∀ n ∈ l,p<n.f0)→Topo.rise p l=true
 | _,[],_,_,_=>rfl
 | p,n :: l,h1,h2,h3=>by
  obtain ⟨q1,q2⟩:=List.pairwise_cons.1 h2
  rw [Topo.rise,dT ⟨h1 n List.mem_cons_self,h3 n List.mem_cons_self⟩,Bool.true_and]
  exact qGa n.f0 l (fun m hm=>h1 m (List.mem_cons_of_mem _ hm)) q2 q1
theorem qFO{l:List qA}(h0:l.length≤12)(h1:∀ n ∈ l,Topo.okN n)(h2:l.Pairwise (fun x y=>x.f0<y.f0)):Topo.Nodes l :=
 ⟨h0,qGa 0 l h1 h2 (fun n hn=>by have:=h1 n hn; unfold Topo.okN at this; omega)⟩
theorem qFg{l:List qA}(h:Topo.Nodes l)(id:Int):Topo.Nodes (dropN id l) :=
 qFO (Nat.le_trans (List.length_filter_le _ _) h.1) (fun n hn=>h.ok n (List.mem_filter.1 hn).1) (h.up.filter _)
theorem qEt(n:qA):∀(l:List qA)(x:qA),x ∈ putN n l→x=n∨x ∈ l
 | [],x,h=>.inl (List.mem_singleton.1 h)
 | y :: r,x,h=>by
  unfold putN at h
  split at h
  ·rcases List.mem_cons.1 h with rfl | h
   ·exact .inr List.mem_cons_self
   ·rcases qEt n r x h with e | e
    ·exact .inl e
    ·exact .inr (List.mem_cons_of_mem _ e)
  ·split at h
   ·rcases List.mem_cons.1 h with rfl | h
    ·exact .inl rfl
    ·exact .inr (List.mem_cons_of_mem _ h)
   ·rcases List.mem_cons.1 h with rfl | h
    ·exact .inl rfl
    ·exact .inr h
theorem qHV(n:qA):∀(l:List qA),l.Pairwise (fun x y=>x.f0<y.f0)→(putN n l).Pairwise (fun x y=>x.f0<y.f0)
 | [],_=>List.pairwise_singleton _ _
 | y :: r,h=>by
  obtain ⟨h1,h2⟩:=List.pairwise_cons.1 h
  unfold putN
  by_cases c:y.f0<n.f0
  ·rw [if_pos c]
   refine List.pairwise_cons.2 ⟨fun x hx=>?_,qHV n r h2⟩
   rcases qEt n r x hx with rfl | hx
   ·exact c
   ·exact h1 x hx
  ·rw [if_neg c]
   by_cases c2:y.f0=n.f0
   ·rw [if_pos c2]
    exact List.pairwise_cons.2 ⟨fun x hx=>by have:=h1 x hx; omega,h2⟩
   ·rw [if_neg c2]
    refine List.pairwise_cons.2 ⟨fun x hx=>?_,h⟩
    rcases List.mem_cons.1 hx with rfl | hx
    ·omega
    ·have:=h1 x hx; omega
theorem qGb(n:qA):∀(l:List qA),(∃ x ∈ l,x.f0=n.f0)→l.Pairwise (fun x y=>x.f0<y.f0)→(putN n l).length=l.length
 | [],h,_=>by obtain ⟨_,h,_⟩:=h; cases h
 | y :: r,h,hp=>by
  obtain ⟨h1,h2⟩:=List.pairwise_cons.1 hp
  unfold putN
  by_cases c:y.f0<n.f0
  ·rw [if_pos c,List.length_cons,List.length_cons,qGb n r ?_ h2]
   obtain ⟨x,hx,e⟩:=h
   rcases List.mem_cons.1 hx with rfl | hx
   ·omega
   ·exact ⟨x,hx,e⟩
  ·rw [if_neg c]
   obtain ⟨x,hx,e⟩:=h
   rcases List.mem_cons.1 hx with rfl | hx
   ·rw [if_pos e,List.length_cons,List.length_cons]
   ·have:=h1 x hx; omega
theorem qGc{l:List qA}(h:Topo.Nodes l){n:qA}(hn:Topo.okN n)(he:∃ x ∈ l,x.f0=n.f0):Topo.Nodes (putN n l) :=
 qFO (by rw [qGb n l he h.up]; exact h.1) (fun x hx=>by
  rcases qEt n l x hx with rfl | hx
  ·exact hn
  ·exact h.ok x hx) (qHV n l h.up)
theorem qEA(n:qA)(id:Int):∀(l:List qA),l.Pairwise (fun x y=>x.f0<y.f0)→(putN n l).find? (fun x=>decide (x.f0=id))=if n.f0=id then some n else l.find? (fun x=>decide (x.f0=id))
 | [],_=>by
  unfold putN
  rw [List.find?_cons]
  by_cases c:n.f0=id
  ·simp [c]
  ·simp [c]
 | y :: r,hp=>by
  obtain ⟨h1,h2⟩:=List.pairwise_cons.1 hp
  unfold putN
  by_cases c:y.f0<n.f0
  ·rw [if_pos c,List.find?_cons,List.find?_cons,qEA n id r h2]
   by_cases d:n.f0=id
   ·have:¬ y.f0=id:=by omega
    simp [d,this]
   ·simp [d]
  ·rw [if_neg c]
   by_cases c2:y.f0=n.f0
   ·rw [if_pos c2,List.find?_cons,List.find?_cons]
    by_cases d:n.f0=id
    ·simp [d]
    ·have:¬ y.f0=id:=by omega
     simp [d,this]
   ·rw [if_neg c2,List.find?_cons]
    by_cases d:n.f0=id
    ·simp [d]
    ·simp [d]
theorem qGd(i id:Int)(l:List qA)(h:id≠i):(dropN i l).find? (fun x=>decide (x.f0=id))=l.find? (fun x=>decide (x.f0=id)):=by
 unfold dropN
 rw [List.find?_filter]
 congr 1
 funext x
 by_cases c:x.f0=id
 ·simp [c,h]
 ·simp [c]
theorem qCd{l l':List qA}: ∀(ids met:List Int),(∀ id ∈ ids,∀ n,l.find? (fun x=>decide (x.f0=id))=some n→∃ n',l'.find? (fun x=>decide (x.f0=id))=some n'∧n'.f1=n.f1)→Topo.apartR l met ids=true→Topo.apartR l' met ids=true
 | [],_,_,_=>rfl
 | id :: r,met,h,ha=>by
  rw [Topo.apartR]at ha ⊢
  cases hf:l.find? (fun x=>decide (x.f0=id)) with
  | none=>rw [hf]at ha; cases ha
  | some n =>
   rw [hf]at ha
   obtain ⟨n',e1,e2⟩:=h id List.mem_cons_self n hf
   rw [e1]
   dsimp only at ha ⊢
   rw [Bool.and_eq_true]at ha ⊢
   rw [e2]
   exact ⟨ha.1,qCd r _ (fun i hi=>h i (List.mem_cons_of_mem _ hi)) ha.2⟩
theorem qCN(m:qG):∀(l:List qE)(p:Int),temps m p l=true↔(∀ t ∈ l,((0≤t.f0∧t.f0<m.f3)∧(1≤(t.f1.length:Int)∧(t.f1.length:Int)≤m.f1))∧Topo.apartR m.f4 [] t.f1=true)∧l.Pairwise (fun x y=>x.f0<y.f0)∧∀ t ∈ l,p<t.f0
 | [],p=>⟨fun _=>⟨(fun _ h=>nomatch h),List.Pairwise.nil,(fun _ h=>nomatch h)⟩,fun _=>rfl⟩
 | t :: l,p=>by
  rw [temps,Bool.and_eq_true,Bool.and_eq_true,decide_eq_true_eq,qCN m l t.f0,List.pairwise_cons]
  constructor
  ·rintro ⟨⟨h1,h2⟩,h3,h4,h5⟩
   refine ⟨fun x hx=>?_,⟨h5,h4⟩,fun x hx=>?_⟩
   ·rcases List.mem_cons.1 hx with rfl | hx
    ·exact ⟨⟨h1.1,h1.2.2⟩,h2⟩
    ·exact h3 x hx
   ·rcases List.mem_cons.1 hx with rfl | hx
    ·exact h1.2.1
    ·have:=h5 x hx; have:=h1.2.1; omega
  ·rintro ⟨h1,⟨h2,h3⟩,h4⟩
   have h0:=h1 t List.mem_cons_self
   exact ⟨⟨⟨h0.1.1,h4 t List.mem_cons_self,h0.1.2⟩,h0.2⟩,fun x hx=>h1 x (List.mem_cons_of_mem _ hx),h3,h2⟩
theorem qEB(g:Int)(ns:List Int):∀(l:List qE)(x:qE),x ∈ pinT g ns l→(x=⟨g,ns⟩∧ns≠[])∨x ∈ l
 | [],x,h=>by
  unfold pinT at h
  split at h
  ·cases h
  ·exact .inl ⟨List.mem_singleton.1 h,by assumption⟩
 | t :: r,x,h=>by
  unfold pinT at h
  split at h
  ·rcases List.mem_cons.1 h with rfl | h
   ·exact .inr List.mem_cons_self
   ·rcases qEB g ns r x h with e | e
    ·exact .inl e
    ·exact .inr (List.mem_cons_of_mem _ e)
  ·rcases List.mem_append.1 h with h | h
   ·split at h
    ·cases h
    ·exact .inl ⟨List.mem_singleton.1 h,by assumption⟩
   ·split at h
    ·exact .inr (List.mem_cons_of_mem _ h)
    ·exact .inr h
theorem qHW(g:Int)(ns:List Int):∀(l:List qE),l.Pairwise (fun x y=>x.f0<y.f0)→(pinT g ns l).Pairwise (fun x y=>x.f0<y.f0)
 | [],_=>by
  unfold pinT
  split
  ·exact List.Pairwise.nil
  ·exact List.pairwise_singleton _ _
 | t :: r,hp=>by
  obtain ⟨h1,h2⟩:=List.pairwise_cons.1 hp
  unfold pinT
  by_cases c:t.f0<g
  ·rw [if_pos c]
   refine List.pairwise_cons.2 ⟨fun x hx=>?_,qHW g ns r h2⟩
   rcases qEB g ns r x hx with ⟨rfl,_⟩ | hx
   ·exact c
   ·exact h1 x hx
  ·rw [if_neg c]
   have hr:(if t.f0=g then r else t :: r).Pairwise (fun x y=>x.f0<y.f0):=by split <;> assumption
   have hg:∀ x ∈ (if t.f0=g then r else t :: r),g<x.f0:=by
    intro x hx
    split at hx
    ·have:=h1 x hx; omega
    ·rcases List.mem_cons.1 hx with rfl | hx
     ·omega
     ·have:=h1 x hx; omega
   split
   ·exact hr
   ·exact List.pairwise_cons.2 ⟨hg,hr⟩
theorem qBv(m:qG)(since:Int):∀(l seen:List qF)(p:Int),past m since p seen l=true↔(∀ s ∈ l,((0≤s.f0∧s.f0<since)∧m.f2≤(s.f1.length:Int)∧(s.f1.length:Int)≤m.f1)∧riseI 0 s.f1=true)∧(l.Pairwise (fun x y=>x.f0<y.f0∧x.f1≠y.f1)∧∀ s ∈ l,p<s.f0)∧∀ s ∈ l,∀ x ∈ seen,x.f1≠s.f1
 | [],seen,p=>⟨fun _=>⟨(fun _ h=>nomatch h),⟨List.Pairwise.nil,(fun _ h=>nomatch h)⟩,(fun _ h=>nomatch h)⟩,fun _=>rfl⟩
 | s :: l,seen,p=>by
  rw [past,Bool.and_eq_true,Bool.and_eq_true,Bool.and_eq_true,decide_eq_true_eq,Bool.not_eq_true',decide_eq_false_iff_not,qBv m since l (seen++[s]) s.f0,List.pairwise_cons]
  constructor
  ·rintro ⟨⟨⟨h1,h2⟩,h3⟩,h4,⟨h5,h6⟩,h7⟩
   refine ⟨fun x hx=>?_,⟨⟨fun x hx=>⟨h6 x hx,h7 x hx s (by simp)⟩,h5⟩,fun x hx=>?_⟩,fun x hx y hy=>?_⟩
   ·rcases List.mem_cons.1 hx with rfl | hx
    ·exact ⟨⟨h1.1,h1.2.2⟩,h2⟩
    ·exact h4 x hx
   ·rcases List.mem_cons.1 hx with rfl | hx
    ·exact h1.2.1
    ·have:=h6 x hx; have:=h1.2.1; omega
   ·rcases List.mem_cons.1 hx with rfl | hx
    ·exact fun e=>h3 ⟨y,hy,e⟩
    ·exact h7 x hx y (List.mem_append.2 (.inl hy))
  ·rintro ⟨h1,⟨⟨h2,h3⟩,h4⟩,h5⟩
   have h0:=h1 s List.mem_cons_self
   refine ⟨⟨⟨⟨h0.1.1,h4 s List.mem_cons_self,h0.1.2⟩,h0.2⟩,fun ⟨x,hx,e⟩=>h5 s List.mem_cons_self x hx e⟩,fun x hx=>h1 x (List.mem_cons_of_mem _ hx),⟨h3,fun x hx=>(h2 x hx).1⟩,fun x hx y hy=>?_⟩
   rcases List.mem_append.1 hy with hy | hy
   ·exact h5 x (List.mem_cons_of_mem _ hx) y hy
   ·rw [List.mem_singleton.1 hy]
    exact (h2 x hx).2
theorem qCO(m:qG):∀ l:List qC,trails m l=true↔∀ t ∈ l,(0≤t.f0∧t.f0≤m.f0)∧past m t.f0 (-1) [] t.f1=true
 | []=>⟨fun _ _ h=>(nomatch h),fun _=>rfl⟩
 | t :: l=>by
  rw [trails,Bool.and_eq_true,Bool.and_eq_true,decide_eq_true_eq,qCO m l]
  simp only [List.mem_cons,forall_eq_or_imp]
theorem qCu{m m':qG}(h1:m'.f1=m.f1)(h3:m'.f3=m.f3)(l:List qE)(p:Int)(h4:∀ t ∈ l,Topo.apartR m.f4 [] t.f1=true→Topo.apartR m'.f4 [] t.f1=true)(h:temps m p l=true):temps m' p l=true:=by
 rw [qCN]at h ⊢
 rw [h1,h3]
 exact ⟨fun t ht=>⟨(h.1 t ht).1,h4 t ht (h.1 t ht).2⟩,h.2⟩
theorem qBy{m m':qG}(h1:m'.f1=m.f1)(h2:m'.f2=m.f2)(since:Int)(l seen:List qF)(p:Int):past m' since p seen l=past m since p seen l:=by
 rw [Bool.eq_iff_iff,qBv,qBv,h1,h2]
theorem qDB{m m':qG}(h0:m'.f0=m.f0)(h1:m'.f1=m.f1)(h2:m'.f2=m.f2)(l:List qC):trails m' l=trails m l:=by
 rw [Bool.eq_iff_iff,qCO,qCO,h0]
 simp only [qBy h1 h2]
theorem qDY{m:qG}(h:May m){l:List qA}(hl:Topo.Nodes l)(ht:∀ t ∈ m.f5,Topo.apartR m.f4 [] t.f1=true→Topo.apartR l [] t.f1=true):May (withN m l) :=
 ⟨⟨h.1.1,h.1.2.1,h.1.2.2.1,h.1.2.2.2.1,hl⟩,qCu (m:=m) (m':=withN m l) rfl rfl _ _ ht h.2.1,h.2.2.1,(qDB (m:=m) (m':=withN m l) rfl rfl rfl _).trans h.2.2.2⟩
theorem qCv{l:List qA}{id:Int}{n:qA}(h:l.find? (fun x=>decide (x.f0=id))=some n):n ∈ l∧n.f0=id:=⟨List.mem_of_find?_eq_some h,oT (List.find?_some (p:=fun x:qA=>decide (x.f0=id)) h)⟩
theorem qEu{m:qG}(h:May m){n n':qA}(hn:n ∈ m.f4)(h0:n'.f0=n.f0)(h1:n'.f1=n.f1)(hok:Topo.okN n'):May (withN m (putN n' m.f4)):=by
 have hN:=h.1.2.2.2.2
 refine qDY h (qGc hN hok ⟨n,hn,h0.symm⟩) (fun t _ ha=>qCd _ _ (fun id _ x hx=>?_) ha)
 rw [qEA _ _ _ hN.up]
 obtain ⟨q1,q2⟩:=qCv hx
 by_cases c:n'.f0=id
 ·rw [if_pos c]
  refine ⟨n',rfl,?_⟩
  rw [h1,Place.node_uniq hN hn q1 (by omega)]
 ·rw [if_neg c]
  exact ⟨x,hx,rfl⟩
theorem qGe{l:List qA}: ∀(ids met:List Int),Topo.apartR l met ids=true→∀ id ∈ ids,∃ n,l.find? (fun x=>decide (x.f0=id))=some n
 | [],_,_,_,h=>nomatch h
 | i :: r,met,h,id,hi=>by
  rw [Topo.apartR]at h
  cases hf:l.find? (fun x=>decide (x.f0=i)) with
  | none=>rw [hf]at h; cases h
  | some n =>
   rw [hf]at h
   dsimp only at h
   rw [Bool.and_eq_true]at h
   rcases List.mem_cons.1 hi with rfl | hi
   ·exact ⟨n,hf⟩
   ·exact qGe r _ h.2 id hi
theorem qHN{m:qG}(h:May m){n:qA}(hn:n ∈ m.f4){d:qd}(hd:d.f1=n.f0)(he:(nodeL m n d).2=0):May (nodeL m n d).1:=by
 have hok:=h.1.2.2.2.2.ok n hn
 unfold nodeL at he ⊢
 split at he
 ·rename_i c2
  rw [if_pos c2]
  split at he
  ·rename_i cw
   rw [if_pos cw]
   split at he
   ·cases he
   ·rename_i cn
    rw [if_neg cn]
    refine qEu h hn rfl rfl ?_
    unfold Topo.okN at hok ⊢
    exact ⟨hok.1,hok.2.1,hok.2.2.1,cw⟩
  ·cases he
 ·rename_i c2
  rw [if_neg c2]
  split at he
  ·rename_i c3
   rw [if_pos c3]
   split at he
   ·cases he
   ·rename_i cn
    rw [if_neg cn]
    exact qEu h hn rfl rfl hok
  ·rename_i c3
   rw [if_neg c3]
   split at he
   ·rename_i c4
    rw [if_pos c4]
    split at he
    ·cases he
    ·rename_i cn
     rw [if_neg cn]
     exact qEu h hn rfl rfl hok
   ·rename_i c4
    rw [if_neg c4]
    split at he
    ·cases he
    ·rename_i c5
     rw [if_neg c5]
     refine qDY h (qFg h.1.2.2.2.2 _) (fun t ht ha=>qCd _ _ (fun id hid x hx=>⟨x,?_,rfl⟩) ha)
     rw [qGd]
     ·exact hx
     ·rintro rfl
      refine c5 (.inr (.inr ?_))
      unfold held
      rw [Bool.or_eq_true,List.any_eq_true]
      exact .inl ⟨t,ht,dT hid⟩
theorem qHw{m:qG}(h:May m){d:qd}(he:(addL m d).2=0):May (addL m d).1:=by
 unfold addL at he ⊢
 split at he
 ·cases he
 ·rename_i c1
  rw [if_neg c1]
  split at he
  ·cases he
  ·rename_i c2
   rw [if_neg c2]
   split at he
   ·rename_i c3
    rw [if_pos c3]
    refine qDY h c3 (fun t _ ha=>qCd _ _ (fun id _ x hx=>⟨x,?_,rfl⟩) ha)
    rw [qEA _ _ _ h.1.2.2.2.2.up,if_neg]
    ·exact hx
    ·intro e
     refine c1 ?_
     unfold Topo.find
     rw [show d.f1=id from e,hx]
   ·cases he
theorem qGf{m:qG}(h:May m){l:List qE}(hl:temps m (-1) l=true):May (withT m l) :=
 ⟨h.1,qCu (m:=m) (m':=withT m l) rfl rfl _ _ (fun _ _ q=>q) hl,h.2.2.1,(qDB (m:=m) (m':=withT m l) rfl rfl rfl _).trans h.2.2.2⟩
theorem qHx{m:qG}(h:May m){d:qd}(he:(pinL m d).2=0):May (pinL m d).1:=by
 unfold pinL at he ⊢
 split at he
 ·rename_i c1
  rw [if_pos c1]
  split at he
  ·cases he
  ·rename_i c2
   rw [if_neg c2]
   split at he
   ·rename_i c3
    rw [if_pos c3]
    have ht:=(qCN m _ _).1 h.2.1
    refine qGf h ((qCN m _ _).2 ⟨fun t hm=>?_,qHW _ _ _ ht.2.1,fun t hm=>?_⟩)
    ·rcases qEB _ _ _ _ hm with ⟨rfl,q⟩ | hm
     ·have:=List.length_pos_iff.2 q
      exact ⟨⟨⟨c1.1,c1.2.1⟩,by show 1≤(d.f6.length:Int); omega,c1.2.2⟩,c3⟩
     ·exact ht.1 t hm
    ·rcases qEB _ _ _ _ hm with ⟨rfl,q⟩ | hm
     ·show -1<d.f5
      have:=c1.1
      omega
     ·exact ht.2.2 t hm
   ·cases he
 ·cases he
theorem qGg{m:qG}(h:May m){l:List qC}(h1:l.length=m.f6.length)(h2:trails m l=true):May (withP m l) :=
 ⟨h.1,qCu (m:=m) (m':=withP m l) rfl rfl _ _ (fun _ _ q=>q) h.2.1,by show (l.length:Int)=m.f3; rw [h1]; exact h.2.2.1,(qDB (m:=m) (m':=withP m l) rfl rfl rfl _).trans h2⟩
theorem qGh{m:qG}(h:May m){d:qd}(he:(cleanL m d).2=0):May (cleanL m d).1:=by
 unfold cleanL at he ⊢
 split at he
 ·rename_i c1
  rw [if_pos c1]
  split at he
  ·cases he
  ·rename_i c2
   rw [if_neg c2]
   split at he
   ·cases he
   ·rename_i c3
    rw [if_neg c3]
    have hlen:=h.2.2.1
    have hi:d.f5.toNat<m.f6.length:=by omega
    have ht:=(qCO m _).1 h.2.2.2
    refine qGg h (List.length_set ..) ((qCO m _).2 (fun t hm=>?_))
    rcases List.mem_or_eq_of_mem_set hm with hm | rfl
    ·exact ht t hm
    ·have:=(ht _ (gM hi)).1
     have e:nth qC.z m.f6 d.f5=m.f6[d.f5.toNat]:=by
      unfold nth
      rw [List.getD_eq_getElem?_getD,List.getElem?_eq_getElem hi]
      rfl
     rw [e]
     exact ⟨this,rfl⟩
 ·cases he
theorem qDn{m:qG}(h:May m){d:qd}(he:(qIN m d).2=0):May (qIN m d).1:=by
 unfold qIN at he ⊢
 split at he
 ·rename_i c
  rw [if_pos c]
  exact qHw h he
 ·rename_i c
  rw [if_neg c]
  split at he
  ·rename_i c
   rw [if_pos c]
   exact qHx h he
  ·rename_i c
   rw [if_neg c]
   split at he
   ·rename_i c
    rw [if_pos c]
    exact h
   ·rename_i c
    rw [if_neg c]
    split at he
    ·rename_i c
     rw [if_pos c]
     exact qGh h he
    ·rename_i c
     rw [if_neg c]
     cases hf:m.f4.find? (fun n=>decide (n.f0=d.f1)) with
     | none=>rw [hf]at he; cases he
     | some n =>
      rw [hf]at he
      exact qHN h (qCv hf).1 (qCv hf).2.symm he
theorem qHy{m:qG}(h:May m)(g:Int):qIQ m g=[]∨((qIQ m g).length:Int)≤m.f1∧Topo.apartR m.f4 [] (qIQ m g)=true:=by
 unfold qIQ
 cases hf:m.f5.find? (fun t=>decide (t.f0=g)) with
 | none=>exact .inl rfl
 | some t =>
  have ht:=((qCN m _ _).1 h.2.1).1 t (List.mem_of_find?_eq_some hf)
  exact .inr ⟨ht.1.2.2,ht.2⟩
theorem qCm{l:List qA}: ∀(ids met:List Int),Topo.apartR l met ids=true→ids.Nodup∧∀ id ∈ ids,∃ n,l.find? (fun x=>decide (x.f0=id))=some n∧¬ n.f1 ∈ met
 | [],_,_=>⟨List.nodup_nil,(fun _ h=>nomatch h)⟩
 | i :: r,met,h=>by
  rw [Topo.apartR]at h
  cases hf:l.find? (fun x=>decide (x.f0=i)) with
  | none=>rw [hf]at h; cases h
  | some n =>
   rw [hf]at h
   dsimp only at h
   rw [Bool.and_eq_true,Bool.not_eq_true',decide_eq_false_iff_not]at h
   obtain ⟨h1,h2⟩:=qCm r _ h.2
   refine ⟨List.nodup_cons.2 ⟨fun hm=>?_,h1⟩,fun id hid=>?_⟩
   ·obtain ⟨n',e1,e2⟩:=h2 i hm
    rw [hf]at e1
    cases e1
    exact e2 (by simp)
   ·rcases List.mem_cons.1 hid with rfl | hid
    ·exact ⟨n,hf,h.1⟩
    ·obtain ⟨n',e1,e2⟩:=h2 id hid
     exact ⟨n',e1,fun c=>e2 (List.mem_append.2 (.inl c))⟩
theorem qFP{m:qG}(h:May m)(g:Int):(rawL m g).Nodup∧((rawL m g).length:Int)≤m.f1∧∀ id ∈ rawL m g,∃ n ∈ m.f4,n.f0=id:=by
 have h1:=h.1.2.1
 unfold rawL
 split
 ·unfold Place.ofCommon
  split
  ·rename_i hc
   refine ⟨?_,?_,?_⟩
   ·unfold List.Nodup
    rw [List.pairwise_map]
    refine List.Pairwise.imp_of_mem ?_ ((Place.zones_nodup hc.1 g).sublist (List.take_sublist m.f1.toNat _))
    intro a b ha hb hab e
    obtain ⟨n,hn,q1,_,q2,_⟩:=Place.zone_pk hc.1 g (List.mem_of_mem_take ha)
    obtain ⟨n',hn',q1',_,q2',_⟩:=Place.zone_pk hc.1 g (List.mem_of_mem_take hb)
    have:n=n':=Place.node_uniq hc.1 hn hn' (by omega)
    subst this
    exact hab (by omega)
   ·rw [List.length_map,List.length_take]
    omega
   ·intro id hid
    obtain ⟨z,hz,rfl⟩:=List.mem_map.1 hid
    obtain ⟨n,hn,_,_,q2,_⟩:=Place.zone_pk hc.1 g (List.mem_of_mem_take hz)
    exact ⟨n,hn,q2.symm⟩
  ·exact ⟨List.nodup_nil,by simp; omega,(fun _ h=>nomatch h)⟩
 ·rename_i c
  obtain ⟨q1,q2⟩:=(qHy h g).resolve_left c
  refine ⟨(qCm _ _ q2).1,q1,fun id hid=>?_⟩
  obtain ⟨n,e,_⟩:=(qCm _ _ q2).2 id hid
  exact ⟨n,qCv e⟩
theorem qDo{m:qG}(h:May m)(g:Int):(actL m g).Nodup∧((actL m g).length:Int)≤m.f1∧∀ id ∈ actL m g,∃ n ∈ m.f4,n.f0=id:=by
 obtain ⟨h1,h2,h3⟩:=qFP h g
 refine ⟨h1.sublist (List.filter_sublist ..),?_,fun id hid=>h3 id (List.mem_filter.1 hid).1⟩
 have:=List.length_filter_le (upN m.f4) (rawL m g)
 unfold actL
 omega
theorem qEv(l:List Int)(hn:l.Nodup)(hk:∀ x ∈ l,1≤x∧x≤999):riseI 0 (rising l)=true:=by
 have hs:(rising l).Pairwise (fun a b=>decide (b<a)=false):=qCa (ok:=fun _=>True) (lt:=fun a b:Int=>decide (a<b)) ⟨fun x _=>by simp,fun x y z _ _ _ a b=>by simp at a b ⊢; omega,fun x y z _ _ _ a b=>by simp at a b ⊢; omega⟩ l (fun _ _=>trivial)
 have hd:(rising l).Nodup:=(qCV _ l).nodup_iff.2 hn
 have hm:∀ x ∈ rising l,1≤x∧x≤999:=fun x hx=>hk x ((qCY _ l).1 hx)
 generalize rising l=r at hs hd hm
 have go:∀(r:List Int)(p:Int),r.Pairwise (fun a b=>decide (b<a)=false)→r.Nodup→(∀ x ∈ r,1≤x∧x≤999)→(∀ x ∈ r,p<x)→riseI p r=true:=by
  intro r
  induction r with
  | nil=>exact fun _ _ _ _ _=>rfl
  | cons x r ih =>
   intro p h1 h2 h3 h4
   obtain ⟨a1,a2⟩:=List.pairwise_cons.1 h1
   obtain ⟨b1,b2⟩:=List.nodup_cons.1 h2
   rw [riseI,dT ⟨h3 x List.mem_cons_self,h4 x List.mem_cons_self⟩,Bool.true_and]
   refine ih x a2 b2 (fun y hy=>h3 y (List.mem_cons_of_mem _ hy)) (fun y hy=>?_)
   have:=of_decide_eq_false (a1 y hy)
   have hne:x≠y:=fun e=>b1 (e ▸ hy)
   omega
 exact go r 0 hs hd hm (fun x hx=>by have:=hm x hx; omega)
theorem qEw{m m':qG}(h1:m'.f1=m.f1)(h2:m'.f2=m.f2)(h:May m){t:qC}(ht:(0≤t.f0∧t.f0≤m.f0)∧past m t.f0 (-1) [] t.f1=true)(g:Int)(now:List Int)(h0:m'.f0=m.f0+1):(0≤(followT t (actL m g) now m.f2 (m.f0+1)).f0∧(followT t (actL m g) now m.f2 (m.f0+1)).f0≤m'.f0)∧past m' (followT t (actL m g) now m.f2 (m.f0+1)).f0 (-1) [] (followT t (actL m g) now m.f2 (m.f0+1)).f1=true:=by
 have hm0:=h.1.1
 obtain ⟨a1,a2,a3⟩:=qDo h g
 unfold followT
 by_cases c:actL m g=now
 ·rw [if_pos c,qBy h1 h2]
  exact ⟨by omega,ht.2⟩
 ·rw [if_neg c,qBy h1 h2]
  refine ⟨by show 0≤m.f0+1∧m.f0+1≤m'.f0; omega,?_⟩
  obtain ⟨p1,⟨p2,p3⟩,p4⟩:=(qBv m _ _ _ _).1 ht.2
  have hw:∀ s ∈ t.f1,(0≤s.f0∧s.f0<m.f0+1):=fun s hs=>by have:=(p1 s hs).1.1; omega
  show past m (m.f0+1) (-1) [] (if m.f2≤((actL m g).length:Int) then t.f1.filter (fun s => !decide (s.f1=rising (actL m g)))++[⟨t.f0,rising (actL m g)⟩] else t.f1)=true
  by_cases c2:m.f2≤((actL m g).length:Int)
  ·rw [if_pos c2]
   have hrl:(rising (actL m g)).length=(actL m g).length:=qCQ _ _
   refine (qBv m _ _ _ _).2 ⟨fun s hs=>?_,⟨?_,fun s hs=>?_⟩,(fun _ _ _ hx=>nomatch hx)⟩
   ·rcases List.mem_append.1 hs with hs | hs
    ·have hs:=(List.mem_filter.1 hs).1
     exact ⟨⟨hw s hs,(p1 s hs).1.2⟩,(p1 s hs).2⟩
    ·rw [List.mem_singleton.1 hs]
     refine ⟨⟨⟨ht.1.1,by show t.f0<m.f0+1; omega⟩,?_⟩,qEv _ a1 (fun x hx=>?_)⟩
     ·show m.f2≤((rising (actL m g)).length:Int)∧((rising (actL m g)).length:Int)≤m.f1
      rw [hrl]
      exact ⟨c2,a2⟩
     ·obtain ⟨n,hn,e⟩:=a3 x hx
      have:=h.1.2.2.2.2.ok n hn
      unfold Topo.okN at this
      omega
   ·refine List.pairwise_append.2 ⟨p2.filter _,List.pairwise_singleton _ _,fun x hx y hy=>?_⟩
    rw [List.mem_singleton.1 hy]
    obtain ⟨q1,q2⟩:=List.mem_filter.1 hx
    refine ⟨(p1 x q1).1.1.2,?_⟩
    simpa using q2
   ·rcases List.mem_append.1 hs with hs | hs
    ·exact p3 s (List.mem_filter.1 hs).1
    ·rw [List.mem_singleton.1 hs]
     show -1<t.f0
     omega
  ·rw [if_neg c2]
   exact (qBv m _ _ _ _).2 ⟨fun s hs=>⟨⟨hw s hs,(p1 s hs).1.2⟩,(p1 s hs).2⟩,⟨p2,p3⟩,p4⟩
theorem qCn{m:qG}{d:qd}: (qIN m d).1.f0=m.f0∧(qIN m d).1.f1=m.f1∧(qIN m d).1.f2=m.f2∧(qIN m d).1.f3=m.f3:=by
 unfold qIN addL pinL cleanL nodeL withN withT withP
 repeat' split
 all_goals exact ⟨rfl,rfl,rfl,rfl⟩
theorem qGi{m:qG}(h:May m)(d:qd):May (qIS m d).1:=by
 unfold qIS
 split
 ·split
  ·exact h
  ·rename_i c0
   split
   ·rename_i c1
    have hx:=qDn h c1
    obtain ⟨e0,e1,e2,e3⟩:=qCn (m:=m) (d:=d)
    have hm0:=h.1.1
    generalize (qIN m d).1=x at hx e0 e1 e2 e3
    refine ⟨⟨by show 0≤m.f0+1∧m.f0+1≤2147483647; omega,h.1.2.1,h.1.2.2.1,h.1.2.2.2.1,hx.1.2.2.2.2⟩,?_,?_,?_⟩
    ·exact qCu (m:=x) (m':=⟨m.f0+1,m.f1,m.f2,m.f3,x.f4,x.f5,qIP m x⟩) e1.symm e3.symm _ _ (fun _ _ q=>q) hx.2.1
    ·show ((qIP m x).length:Int)=m.f3
     unfold qIP
     rw [List.length_mapIdx]
     have:=hx.2.2.1
     omega
    ·refine (qCO _ _).2 (fun t ht=>?_)
     unfold qIP at ht
     obtain ⟨i,hi,rfl⟩:=List.mem_mapIdx.1 ht
     have hxt:=(qCO x _).1 hx.2.2.2 _ (gM hi)
     rw [e0,qBy e1 e2]at hxt
     exact qEw (m:=m) (m':=⟨m.f0+1,m.f1,m.f2,m.f3,x.f4,x.f5,qIP m x⟩) rfl rfl h hxt i _ rfl
   ·exact h
 ·exact h
theorem tfind{l:List qA}(h:Topo.Nodes l)(id:Int):Ev (fun k=>qAx.f k l id) (Topo.find l id):=by
 have hl:=h.1
 have hs:Ev (fun k=>qN.f k l id) (qIR (fun n:qA=>n.f0) id l):=by
  unfold qN.f
  exact searchG qA.z (fun n=>n.f0) id qBR.f (fun a=>by unfold qBR.f; rw [cmpG]; rfl) l _ (fun k a b=>qN.l7_s k l id a b) (by omega) h.up l.length 0 l.length (by omega) (by omega) (qDA _ _ _) (Nat.le_refl _)
 unfold qAx.f
 refine .b hs ?_
 unfold Topo.find
 rcases qCc (fun n:qA=>n.f0) id l h.up with ⟨h1,q1,q2,q3⟩ | ⟨q2,q3⟩
 ·rw [q3]
  refine .t q2 (.b (Topo.chk h) (.s (qAx.j15_s · _ _ _) (.n (by decide) (.t ?_ (.cv ?_)))))
  ·show 0≤((posG (fun n:qA=>n.f0) id l:Nat):Int)∧((posG (fun n:qA=>n.f0) id l:Nat):Int)<_
   omega
  ·have q:nth qA.z l (qIR (fun n:qA=>n.f0) id l).1=_:=nth_get qA.z l _ h1
   rw [q]
 ·rw [q3]
  exact .n (by rw [q2]; decide) (.s (qAx.j15_s · _ _ _) (.t rfl (.c _)))
theorem indexG {α : Type} (z : α) (l:List α) (p : α→Bool) (pO:Nat→α→Option Bool) (hp:∀ x ∈ l,Ev (fun k=>pO k x) (p x)) (hl:l.length<1000000) (L:Nat→Int→Option Int)
  (hL:∀ k x,L (k+1) x=(if x<(l.length:Int) then (if 0≤x∧x<(l.length:Int) then ((pO k (nth z l x)).bind fun t21=>(if t21=true then (some x) else (L k (w64 (x+1))))) else (none)) else (some (-1)))) :
  ∀(d i:Nat),i+d=l.length→(l.take i).filter (fun x => !p x)=l.take i→(l.filter (fun x => !p x)=l∧Ev (fun k=>L k (i:Int)) (-1))∨∃ n:Nat,n<l.length∧(l.take n).filter (fun x => !p x)=l.take n∧(∀ h:n<l.length,p l[n]=true)∧Ev (fun k=>L k (i:Int)) (n:Int):=by
 intro d
 induction d with
 | zero =>
  intro i hi ht
  rw [List.take_of_length_le (by omega)]at ht
  exact .inl ⟨ht,.s (fun k=>hL k _) (.n (by omega) (.c _))⟩
 | succ d ih =>
  intro i hi ht
  have h1:i<l.length:=by omega
  have hx:=hp _ (gM h1)
  have go:∀ v,(∀ w,p l[i]=w→(w=true→v=(i:Int))∧(w=false→Ev (fun k=>L k ((i+1:Nat):Int)) v))→Ev (fun k=>L k (i:Int)) v:=by
   intro v hv
   refine .s (fun k=>hL k _) (.t (by omega) (.t (by omega) ?_))
   rw [nth_get _ _ _ h1,w64n i (by omega)]
   refine .b hx (.i (fun c=>.cv ((hv _ rfl).1 c).symm) (fun c=>(hv _ rfl).2 (eq_false_of_ne_true c)))
  by_cases h0:p l[i]=true
  ·exact .inr ⟨i,h1,ht,fun _=>h0,go _ (fun w hw=>⟨fun _=>rfl,fun e=>absurd (hw.trans e) (by rw [h0]; decide)⟩)⟩
  ·have ht':(l.take (i+1)).filter (fun x => !p x)=l.take (i+1):=by
    rw [← List.take_append_getElem h1,List.filter_append,ht]
    simp [h0]
   rcases ih (i+1) (by omega) ht' with ⟨a,b⟩ | ⟨n,a,b,c,e⟩
   ·exact .inl ⟨a,go _ (fun w hw=>⟨fun q=>absurd (hw.trans q) h0,fun _=>b⟩)⟩
   ·exact .inr ⟨n,a,b,c,go _ (fun w hw=>⟨fun q=>absurd (hw.trans q) h0,fun _=>e⟩)⟩
theorem deleteG {α : Type} (z : α) (l:List α) (p : α→Bool) (pO:Nat→α→Option Bool) (hp:∀ x ∈ l,Ev (fun k=>pO k x) (p x)) (hl:l.length<1000000) (L:Nat→List α→Int→Int→Option (List α))
  (hL:∀ k q n x,L (k+1) q n x=(if x<(l.length:Int) then (if 0≤x∧x<(l.length:Int) then ((pO k (nth z q x)).bind fun t33=>(if t33=true then (L k q n (w64 (x+1))) else (if 0≤n∧n<(l.length:Int) then (L k (q.set (n).toNat (nth z q x)) (w64 (n+1)) (w64 (x+1))) else (none)))) else (none)) else (if 0≤n∧n≤(l.length:Int) then (some (cutl (q.take (n).toNat++List.replicate (l.length - (n).toNat) z) 0 n)) else (none)))) :
  ∀(d i n:Nat)(q:List α),i+d=l.length→n<i→q.length=l.length→q.take n=(l.take i).filter (fun x => !p x)→q.drop i=l.drop i→Ev (fun k=>L k q (n:Int) (i:Int)) (l.filter (fun x => !p x)):=by
 intro d
 induction d with
 | zero =>
  intro i n q hi hn hq ht hd
  refine .s (fun k=>hL k _ _ _) (.n (by omega) (.t (by omega) (.cv ?_)))
  rw [List.take_of_length_le (by omega:l.length≤i)]at ht
  rw [← ht]
  have hlen:(q.take n).length=n:=by rw [List.length_take]; omega
  simp only [cutl,tN,Int.toNat_zero,List.drop_zero]
  rw [List.take_append_of_le_length (by omega),List.take_of_length_le (by omega)]
 | succ d ih =>
  intro i n q hi hn hq ht hd
  have h1:i<l.length:=by omega
  have h2:i<q.length:=by omega
  have hx:=hp _ (gM h1)
  have hd2:q[i]=l[i]∧q.drop (i+1)=l.drop (i+1):=by
   rw [List.drop_eq_getElem_cons h1,List.drop_eq_getElem_cons h2]at hd
   exact ⟨(List.cons.inj hd).1,(List.cons.inj hd).2⟩
  refine .s (fun k=>hL k _ _ _) (.t (by omega) (.t (by omega) ?_))
  rw [nth_get _ _ _ h2,hd2.1,w64n i (by omega),w64n n (by omega)]
  refine .b hx (.i (fun c=>ih (i+1) n q (by omega) (by omega) hq ?_ hd2.2) (fun c=>.t (by omega) (ih (i+1) (n+1) _ (by omega) (by omega) (by rw [List.length_set]; exact hq) ?_ ?_)))
  ·rw [← List.take_append_getElem h1,List.filter_append,ht]
   simp [c]
  ·rw [← List.take_append_getElem h1,List.filter_append,← ht,tN,List.take_add_one,List.take_set_of_le (by omega),List.getElem?_set_self (by omega)]
   simp [c]
  ·rw [tN,List.drop_set_of_lt (by omega)]
   exact hd2.2
theorem up{m:qG}(h:Topo.Nodes m.f4)(l:List Int)(hl:l.length<1000000):Ev (fun k=>qBp.f k m l) (l.filter (upN m.f4)):=by
 have hp:∀ x ∈ l,Ev (fun k=>qBX.f k x m) (!upN m.f4 x):=by
  intro x _
  unfold qBX.f
  exact .b (tfind h x) (.c _)
 have e:l.filter (upN m.f4)=l.filter (fun x => !(!upN m.f4 x)):=by
  congr 1
  funext x
  rw [Bool.not_not]
 unfold qBp.f qj.f qk.f
 rw [e]
 refine .b ?_ (.c _)
 rcases indexG 0 l (fun x => !upN m.f4 x) (fun k x=>qBX.f k x m) hp hl (fun k x=>qk.l5 k l m x) (fun k x=>qk.l5_s k l m x) l.length 0 (by omega) rfl with ⟨a,b⟩ | ⟨n,a,b,c,e⟩
 ·exact .b b (.t rfl (.cv a.symm))
 ·refine .b e (.n (by omega) ?_)
  rw [w64n n (by omega)]
  refine deleteG 0 l (fun x => !upN m.f4 x) (fun k x=>qBX.f k x m) hp hl (fun k q n x=>qj.l15 k l m q n x) (fun k q n x=>qj.l15_s k l m q n x) (l.length - (n+1)) (n+1) n l (by omega) (by omega) rfl ?_ rfl
  rw [← List.take_append_getElem a,List.filter_append,b]
  have ca:upN m.f4 l[n]=false:=by
   have:=c a
   revert this
   cases upN m.f4 l[n] <;> decide
  simp [ca]
theorem qCw{m:qG}(h:May m):m.f5.length≤8:=by
 have ht:=(qCN m _ _).1 h.2.1
 have h3:=h.1.2.2.2.1
 have go:∀(l:List qE)(p:Int),l.Pairwise (fun x y=>x.f0<y.f0)→(∀ t ∈ l,p<t.f0∧t.f0<m.f3)→p<m.f3→(l.length:Int)≤m.f3 - 1 - p:=by
  intro l
  induction l with
  | nil=>intro p _ _ hp; simp; omega
  | cons x r ih =>
   intro p hp hb _
   obtain ⟨h1,h2⟩:=List.pairwise_cons.1 hp
   have hx:=hb x List.mem_cons_self
   have:=ih x.f0 h2 (fun t htm=>⟨h1 t htm,(hb t (List.mem_cons_of_mem _ htm)).2⟩) hx.2
   rw [List.length_cons]
   omega
 have:=go m.f5 (-1) ht.2.1 (fun t hm=>⟨ht.2.2 t hm,(ht.1 t hm).1.1.2⟩) (by omega)
 omega
theorem temp{m:qG}(h:May m)(g:Int):Ev (fun k=>qBf.f k m g) (qIR (fun t:qE=>t.f0) g m.f5):=by
 have ht:=(qCN m _ _).1 h.2.1
 have hl:=qCw h
 unfold qBf.f qO.f
 exact .b (searchG qE.z (fun n=>n.f0) g qBP.f (fun a=>by unfold qBP.f; rw [cmpG]; rfl) m.f5 _ (fun k a b=>qO.l7_s k m.f5 g a b) (by omega) ht.2.1 m.f5.length 0 m.f5.length (by omega) (by omega) (qDA _ _ _) (Nat.le_refl _)) (.c _)
theorem clone(l:List Int)(hl:l.length≤1000000):qAN.f l=some l:=by
 unfold qAN.f
 rw [if_pos]
 ·rfl
 ·simp only [List.length_nil]
  omega
theorem raw{m:qG}(h:May m)(g:Int):Ev (fun k=>qBm.f k m g) (rawL m g):=by
 have ht:=(qCN m _ _).1 h.2.1
 have h1:=h.1.2.1
 unfold qBm.f
 refine .b (temp h g) ?_
 unfold rawL qIQ
 rcases qCc (fun n:qE=>n.f0) g m.f5 ht.2.1 with ⟨hp,q1,q2,q3⟩ | ⟨q2,q3⟩
 ·rw [q3]
  have hm:=ht.1 _ (gM hp)
  refine .t q2 (.t ?_ ?_)
  ·show 0≤((posG (fun n:qE=>n.f0) g m.f5:Nat):Int)∧((posG (fun n:qE=>n.f0) g m.f5:Nat):Int)<_
   omega
  ·show Ev (fun k=>(qAN.f ((nth qE.z m.f5 ((posG (fun n:qE=>n.f0) g m.f5:Nat):Int)).f1)).bind fun t21=>some t21) _
   rw [nth_get _ _ _ hp]
   refine .b0 (clone _ (by omega)) (.cv ?_)
   rw [if_neg]
   intro e
   rw [show m.f5[posG (fun n:qE=>n.f0) g m.f5].f1=[] from e]at hm
   have:=hm.1.2.1
   simp at this
 ·rw [q3,if_pos rfl]
  exact .n (by rw [q2]; decide) (.b (Place.of_ m.f4 g m.f1) (.c _))
def rawM(m:qG)(g:Int):List Int:=if May m∧0≤g∧g<m.f3 then rawL m g else []
def actM(m:qG)(g:Int):List Int:=if May m∧0≤g∧g<m.f3 then actL m g else []
theorem mRaw(m:qG)(hm:Small m)(g:Int):Ev (fun k=>qBL.f k m g) (rawM m g):=by
 unfold qBL.f rawM
 refine .b (check m hm) ?_
 by_cases h:May m
 ·have h3:=h.1.2.2.2.1
  rw [dT h]
  refine .t rfl (.b0 (min' g 0 (w64 (m.f3 - 1))) (.s (qBL.j14_s · _ _ _) ?_))
  rw [qCI (n:=m.f3 - 1) (by omega) (by omega)]
  by_cases c:0≤g∧g<m.f3
  ·rw [dT (by omega),if_pos ⟨h,c⟩]
   exact .n (by decide) (.b (raw h g) (.c _))
  ·rw [dF (by omega),if_neg (fun e=>c e.2)]
   exact .t rfl (.c _)
 ·rw [dF h,if_neg (fun e=>h e.1)]
  exact .n (by decide) (.s (qBL.j14_s · _ _ _) (.t rfl (.c _)))
theorem mActing(m:qG)(hm:Small m)(g:Int):Ev (fun k=>qBD.f k m g) (actM m g):=by
 unfold qBD.f
 refine .b (mRaw m hm g) ?_
 unfold rawM actM
 by_cases h:May m∧0≤g∧g<m.f3
 ·rw [if_pos h,if_pos h]
  have h2:=(qFP h.1 g).2.1
  have h1:=h.1.1.2.1
  exact .b (up h.1.1.2.2.2.2 _ (by omega)) (.c _)
 ·rw [if_neg h,if_neg h]
  have:Ev (fun k=>qBp.f k m []) ([]:List Int):=by
   unfold qBp.f qj.f qk.f
   exact .b (.b (.s (qk.l5_s · _ _ _) (.n (by decide) (.c _))) (.t rfl (.c _))) (.c _)
  exact .b this (.c _)
structure Lit8 (m:qG):Prop where
 h4:m.f4.length≤30
 h5:m.f5.length≤20
 h6:m.f6.length≤20
 ht:∀ t ∈ m.f5,t.f1.length≤20
 hp:∀ t ∈ m.f6,t.f1.length≤20
 hs:∀ t ∈ m.f6,∀ s ∈ t.f1,s.f1.length≤20
theorem Lit8.small{m:qG}(h:Lit8 m):Small m:=by
 have h4:=h.h4
 have h5:=h.h5
 have h6:=h.h6
 exact ⟨by omega,by omega,by omega,fun t ht=>by have:=h.hp t ht; omega,fun t ht s hs=>by have:=h.hs t ht s hs; omega⟩
theorem light(m:qG):Ht (fun k=>qV.f k m) (fun b=>b=true→Lit8 m):=by
 have h65:∀(i:Nat)(hi:i<m.f6.length),m.f6[i].f1.length≤20→(∀ t ∈ m.f6.take i,t.f1.length≤20∧∀ s ∈ t.f1,s.f1.length≤20)→(∀ t ∈ m.f5.take 20,t.f1.length≤20) →
   ((∀ t ∈ m.f6.take (i+1),t.f1.length≤20∧∀ s ∈ t.f1,s.f1.length≤20)→Ht (fun k=>qV.l36 k m ((i+1:Nat):Int)) (fun b=>b=true→Lit8 m))→i<20 →
   ∀(d j:Nat),j+d=m.f6[i].f1.length→(∀ s ∈ m.f6[i].f1.take j,s.f1.length≤20)→Ht (fun k=>qV.l65 k m (i:Int) (j:Int)) (fun b=>b=true→Lit8 m):=by
  intro i hi h20 hp ht hk hi20 d
  induction d with
  | zero =>
   intro j hj hs
   refine .s (qV.l65_s · _ _ _) ?_
   rw [nth_get _ _ _ hi,w64n i (by omega)]
   refine .n (by omega) (hk (fun t hm=>?_))
   rw [← List.take_append_getElem hi]at hm
   rcases List.mem_append.1 hm with hm | hm
   ·exact hp t hm
   ·rw [List.mem_singleton.1 hm]
    exact ⟨h20,fun s hsm=>hs s (by rw [List.take_of_length_le (by omega)]; exact hsm)⟩
  | succ d ih =>
   intro j hj hs
   have h1:j<m.f6[i].f1.length:=by omega
   refine .s (qV.l65_s · _ _ _) ?_
   rw [nth_get _ _ _ hi]
   refine .t (by omega) (.t (by omega) ?_)
   rw [nth_get _ _ _ h1,w64n j (by omega)]
   refine .i (fun _=>.c (fun e=>nomatch e)) (fun c=>ih (j+1) (by omega) (fun s hsm=>?_))
   rw [← List.take_append_getElem h1]at hsm
   rcases List.mem_append.1 hsm with hsm | hsm
   ·exact hs s hsm
   ·rw [List.mem_singleton.1 hsm]
    omega
 have h36:∀(d i:Nat),i+d=min 20 m.f6.length→(∀ t ∈ m.f6.take i,t.f1.length≤20∧∀ s ∈ t.f1,s.f1.length≤20)→(∀ t ∈ m.f5.take 20,t.f1.length≤20)→Ht (fun k=>qV.l36 k m (i:Int)) (fun b=>b=true→Lit8 m):=by
  intro d
  induction d with
  | zero =>
   intro i hi hp ht
   have fin:Ht (fun k=>qV.j44 k m (i:Int) false) (fun b=>b=true→Lit8 m):=by
    refine .s (qV.j44_s · _ _ _) (.n (by decide) (.i (fun c4=>.i (fun c5=>.c (fun e=>?_)) (fun _=>.c (fun e=>nomatch e))) (fun _=>.c (fun e=>nomatch e))))
    have c6:=oT e
    rw [List.take_of_length_le (by omega)]at hp
    rw [List.take_of_length_le (by omega)]at ht
    exact ⟨by omega,by omega,by omega,ht,fun t hm=>(hp t hm).1,fun t hm=>(hp t hm).2⟩
   refine .s (qV.l36_s · _ _) (.i (fun c=>?_) (fun _=>fin))
   rw [dF (by omega)]
   exact fin
  | succ d ih =>
   intro i hi hp ht
   have h1:i<m.f6.length:=by omega
   refine .s (qV.l36_s · _ _) (.t (by omega) ?_)
   rw [dT (by omega)]
   refine .s (qV.j44_s · _ _ _) (.t rfl (.t (by omega) ?_))
   rw [nth_get _ _ _ h1]
   exact .i (fun _=>.c (fun e=>nomatch e)) (fun c=>h65 i h1 (by omega) hp ht (fun q=>ih (i+1) (by omega) q ht) (by omega) m.f6[i].f1.length 0 (by omega) (fun _ h=>nomatch h))
 have h7:∀(d i:Nat),i+d=min 20 m.f5.length→(∀ t ∈ m.f5.take i,t.f1.length≤20)→Ht (fun k=>qV.l7 k m (i:Int)) (fun b=>b=true→Lit8 m):=by
  intro d
  induction d with
  | zero =>
   intro i hi ht
   have fin:Ht (fun k=>qV.j15 k m (i:Int) false) (fun b=>b=true→Lit8 m):=by
    refine .s (qV.j15_s · _ _ _) (.n (by decide) (h36 (min 20 m.f6.length) 0 (by omega) (fun _ h=>nomatch h) ?_))
    by_cases c:m.f5.length≤20
    ·rw [List.take_of_length_le (by omega)]at ht ⊢
     exact ht
    ·rwa [show i=20 by omega]at ht
   refine .s (qV.l7_s · _ _) (.i (fun c=>?_) (fun _=>fin))
   rw [dF (by omega)]
   exact fin
  | succ d ih =>
   intro i hi ht
   have h1:i<m.f5.length:=by omega
   refine .s (qV.l7_s · _ _) (.t (by omega) ?_)
   rw [dT (by omega)]
   refine .s (qV.j15_s · _ _ _) (.t rfl (.t (by omega) ?_))
   rw [nth_get _ _ _ h1,w64n i (by omega)]
   refine .i (fun _=>.c (fun e=>nomatch e)) (fun c=>ih (i+1) (by omega) (fun t hm=>?_))
   rw [← List.take_append_getElem h1]at hm
   rcases List.mem_append.1 hm with hm | hm
   ·exact ht t hm
   ·rw [List.mem_singleton.1 hm]
    omega
 exact h7 (min 20 m.f5.length) 0 (by omega) (fun _ h=>nomatch h)
theorem deltasG(l:List qd):Ht (fun k=>qp.f k l) (fun b=>b=true→l.length≤60∧∀ d ∈ l,d.f6.length≤20):=by
 have go:∀(n i:Nat),i+n=min 60 l.length→(∀ d ∈ l.take i,d.f6.length≤20)→Ht (fun k=>qp.l5 k l (i:Int)) (fun b=>b=true→l.length≤60∧∀ d ∈ l,d.f6.length≤20):=by
  intro n
  induction n with
  | zero =>
   intro i hi ht
   have fin:Ht (fun k=>qp.j13 k l (i:Int) false) (fun b=>b=true→l.length≤60∧∀ d ∈ l,d.f6.length≤20):=by
    refine .s (qp.j13_s · _ _ _) (.n nF (.c (fun e=>?_)))
    have h60:=oT e
    rw [List.take_of_length_le (by omega)]at ht
    exact ⟨by omega,ht⟩
   refine .s (qp.l5_s · _ _) (.i (fun c=>?_) (fun _=>fin))
   rw [dF (by omega)]
   exact fin
  | succ n ih =>
   intro i hi ht
   have h1:i<l.length:=by omega
   refine .s (qp.l5_s · _ _) (.t (by omega) ?_)
   rw [dT (by omega)]
   refine .s (qp.j13_s · _ _ _) (.t rfl (.t (by omega) ?_))
   rw [nth_get _ _ _ h1,w64n i (by omega)]
   refine .i (fun _=>.c (fun e=>nomatch e)) (fun c=>ih (i+1) (by omega) (fun d hd=>?_))
   rw [← List.take_append_getElem h1]at hd
   rcases List.mem_append.1 hd with hd | hd
   ·exact ht d hd
   ·rw [List.mem_singleton.1 hd]
    omega
 unfold qp.f
 exact go (min 60 l.length) 0 (by omega) (fun _ h=>nomatch h)
theorem anyG {α : Type} (z : α) (l:List α) (p : α→Bool) (pO:Nat→α→Option Bool) (hp:∀ x ∈ l,Ev (fun k=>pO k x) (p x)) (hl:l.length<1000000) (L:Nat→Int→Option Int)
  (hL:∀ k x,L (k+1) x=(if x<(l.length:Int) then (if 0≤x∧x<(l.length:Int) then ((pO k (nth z l x)).bind fun t21=>(if t21=true then (some x) else (L k (w64 (x+1))))) else (none)) else (some (-1)))) :
  ∀(d i:Nat),i+d=l.length→∃ x,Ev (fun k=>L k (i:Int)) x∧decide (x≥0)=(l.drop i).any p:=by
 intro d
 induction d with
 | zero =>
  intro i hi
  refine ⟨-1,.s (fun k=>hL k _) (.n (by omega) (.c _)),?_⟩
  rw [List.drop_eq_nil_of_le (by omega)]
  rfl
 | succ d ih =>
  intro i hi
  have h1:i<l.length:=by omega
  have hx:=hp _ (gM h1)
  obtain ⟨x,he,hm⟩:=ih (i+1) (by omega)
  rw [List.drop_eq_getElem_cons h1,List.any_cons]
  cases h:p l[i] with
  | true =>
   rw [h]at hx
   refine ⟨i,.s (fun k=>hL k _) (.t (by omega) (.t (by omega) ?_)),?_⟩
   ·rw [nth_get _ _ _ h1]
    exact .b hx (.t rfl (.c _))
   ·rw [Bool.true_or]
    exact dT (by omega)
  | false =>
   rw [h]at hx
   refine ⟨x,.s (fun k=>hL k _) (.t (by omega) (.t (by omega) ?_)),?_⟩
   ·rw [nth_get _ _ _ h1,w64n i (by omega)]
    exact .b hx (.n nF he)
   ·rw [Bool.false_or]
    exact hm
structure Lit9 (m:qG):Prop where
 small:Small m
 hp:∀ t ∈ m.f6,t.f1.length≤100
 hs:∀ t ∈ m.f6,∀ s ∈ t.f1,s.f1.length≤100
def SoundQ(m:qG)(g:Int)(l:List qJ):Prop:=May m∧(0≤g∧g<m.f3)∧Q.mayI l=true
instance (m:qG) (g:Int) (l:List qJ):Decidable (SoundQ m g l):=inferInstanceAs (Decidable (_∧_))
theorem sound(m:qG)(hm:Small m)(g:Int)(l:List qJ)(hl:l.length<1000000):Ev (fun k=>qBK.f k m g l) (decide (SoundQ m g l)):=by
 unfold qBK.f
 refine .b (check m hm) ?_
 by_cases h:May m
 ·have h3:=h.1.2.2.2.1
  rw [dT h,qCI (by omega) (by omega)]
  refine .t rfl (.b0 (Q.qin _ _ _) ?_)
  by_cases h2:0≤g∧g≤m.f3 - 1
  ·refine .t (dT h2) (.b (Q.check l hl) (.cv ?_))
   cases hq:Q.mayI l with
   | true=>exact (dT (show SoundQ m g l from ⟨h,⟨h2.1,by omega⟩,hq⟩)).symm
   | false=>exact (dF (fun e:SoundQ m g l=>Bool.noConfusion (hq.symm.trans e.2.2))).symm
  ·exact .n (fun e=>h2 (oT e)) (.cv (dF (fun e:SoundQ m g l=>h2 ⟨e.2.1.1,by have:=e.2.1.2; omega⟩)).symm)
 ·rw [dF h]
  exact .n (by decide) (.cv (dF (fun e:SoundQ m g l=>h e.1)).symm)
def toldB(l:List qJ)(id:Int):Bool:=l.any (fun y=>y.f0 == id)
theorem ptold(l:List qJ)(hl:l.length<1000000)(id:Int):Ev (fun k=>qAr.f k id l) (toldB l id):=by
 unfold qAr.f
 exact .b (Q.has l id hl) (.c _)
theorem punheard(l:List qJ)(hl:l.length<1000000)(id:Int):Ev (fun k=>qAs.f k id l) (!toldB l id):=by
 unfold qAs.f
 exact .b (ptold l hl id) (.c _)
theorem qGj(l:List qA)(id:Int):(if (Topo.find l id).2=true then (Topo.find l id).1.f4 else false)=upN l id:=by
 unfold upN Topo.find
 cases l.find? (fun n=>decide (n.f0=id)) <;> rfl
theorem pup{m:qG}(h:Topo.Nodes m.f4)(id:Int):Ev (fun k=>qBj.f k m id) (upN m.f4 id):=by
 unfold qBj.f
 refine .b (tfind h id) ?_
 rw [← qGj]
 exact .i (fun c=>.cv (if_pos c).symm) (fun c=>.cv (if_neg c).symm)
theorem rup{m:qG}(hm:Small m)(id:Int):Ev (fun k=>qBA.f k m id) (upN m.f4 id):=by
 unfold qBA.f
 refine .b (Topo.reffind m.f4 id hm.h4) ?_
 rw [← qGj]
 exact .i (fun c=>.cv (if_pos c).symm) (fun c=>.cv (if_neg c).symm)
theorem pup3{m:qG}(h:Topo.Nodes m.f4)(id:Int):Ev (fun k=>qAy.f k id m) (upN m.f4 id):=by
 unfold qAy.f
 exact .b (pup h id) (.c _)
theorem qHO(l:List qJ)(hl:l.length<1000000)(ns:List Int)(hn:ns.length<1000000):Ev (fun k=>qAB.f k ns l) (ns.any (toldB l)):=by
 obtain ⟨x,hx,hm⟩:=anyG 0 ns (toldB l) (fun k x=>qAr.f k x l) (fun x _=>ptold l hl x) hn (fun k x=>qh.l5 k ns l x) (fun k x=>qh.l5_s k ns l x) ns.length 0 (by omega)
 unfold qAB.f qh.f
 exact .b hx (.cv hm)
theorem qEx(l:List qJ)(hl:l.length<1000000)(ns:List Int)(hn:ns.length<1000000):Ev (fun k=>qAA.f k ns l) (ns.any fun x => !toldB l x):=by
 obtain ⟨x,hx,hm⟩:=anyG 0 ns (fun x => !toldB l x) (fun k x=>qAs.f k x l) (fun x _=>punheard l hl x) hn (fun k x=>qg.l5 k ns l x) (fun k x=>qg.l5_s k ns l x) ns.length 0 (by omega)
 unfold qAA.f qg.f
 exact .b hx (.cv hm)
theorem qIL{m:qG}(h:Topo.Nodes m.f4)(ns:List Int)(hn:ns.length<1000000):Ev (fun k=>qAC.f k ns m) (ns.any (upN m.f4)):=by
 obtain ⟨x,hx,hm⟩:=anyG 0 ns (upN m.f4) (fun k x=>qAy.f k x m) (fun x _=>pup3 h x) hn (fun k x=>qi.l5 k ns m x) (fun k x=>qi.l5_s k ns m x) ns.length 0 (by omega)
 unfold qAC.f qi.f
 exact .b hx (.cv hm)
def lesOf(l:List qJ):Int:=(Q.bestP l).1.f1
def spansFrom(p:List qF)(les:Int):List qF:=p.filter (fun s=>decide (s.f0≥les))
theorem qGk(m:qG)(i:Nat)(hi:i<m.f6.length)(t:qJ × Bool)(hp:m.f6[i].f1.length≤100)(hs:∀ s ∈ m.f6[i].f1,s.f1.length≤100):∀(d n:Nat)(acc:List qF),n+d=m.f6[i].f1.length→acc.length≤n→Ev (fun k=>qAi.l36 k m (i:Int) t acc (n:Int)) (acc++spansFrom (m.f6[i].f1.drop n) t.1.f1):=by
 intro d
 induction d with
 | zero =>
  intro n acc hn ha
  refine .s (qAi.l36_s · _ _ _ _ _) ?_
  rw [nth_get _ _ _ hi,List.drop_eq_nil_of_le (by omega)]
  exact .n (by omega) (.cv (List.append_nil _).symm)
 | succ d ih =>
  intro n acc hn ha
  have h1:n<m.f6[i].f1.length:=by omega
  refine .s (qAi.l36_s · _ _ _ _ _) ?_
  rw [nth_get _ _ _ hi,nth_get _ _ _ h1,w64n n (by omega),List.drop_eq_getElem_cons h1]
  refine .t (by omega) (.t (by omega) ?_)
  unfold spansFrom
  by_cases h:m.f6[i].f1[n].f0≥t.1.f1
  ·rw [List.filter_cons_of_pos (by exact dT h)]
   refine .t h (.b0 (clone _ (by have:=hs _ (gM h1); omega)) (.t (by omega) ((ih (n+1) (acc++[m.f6[i].f1[n]]) (by omega) (by rw [lA]; show acc.length+1≤_; omega)).v ?_)))
   rw [List.append_assoc]
   rfl
  ·rw [List.filter_cons_of_neg (by rw [dF h]; decide)]
   exact .n h (ih (n+1) acc (by omega) (by omega))
def countsP(m:qG)(g:Int)(l:List qJ):List qF:=if SoundQ m g l then spansFrom (nth qC.z m.f6 g).f1 (lesOf l) else []
theorem count(m:qG)(h8:Lit9 m)(g:Int)(l:List qJ)(hl:l.length<1000000):Ev (fun k=>qAi.f k m g l) (countsP m g l):=by
 unfold qAi.f countsP
 refine .b (sound m h8.small g l hl) ?_
 by_cases h:SoundQ m g l
 ·have hlen:m.f6.length=m.f3:=h.1.2.2.1
  obtain ⟨i,rfl⟩:∃ i:Nat,g=i:=⟨g.toNat,by have:=h.2.1.1; omega⟩
  have hi:i<m.f6.length:=by have:=h.2.1.2; omega
  rw [dT h,if_pos h,nth_get _ _ _ hi]
  exact .t rfl (.b (Q.best l hl) (.t (by omega) (qGk m i hi _ (h8.hp _ (gM hi)) (h8.hs _ (gM hi)) m.f6[i].f1.length 0 [] (by omega) (Nat.le_refl 0))))
 ·rw [dF h,if_neg h]
  exact .n nF (.c _)
def allOf(act:List Int)(sp:List qF):List Int:=act++sp.flatMap fun s=>s.f1
def lostOf(m:qG)(l:List qJ)(sp:List qF):List Int:=(sp.filter fun s => !s.f1.any (toldB l) && !s.f1.any (upN m.f4)).map fun s=>s.f0
def asks(m:qG)(l:List qJ)(id:Int):Bool := !toldB l id&&upN m.f4 id
def askOf(m:qG)(l:List qJ)(all:List Int):List Int:=(Lib.compact (sortL ltI all)).filter (asks m l)
def authOf(l:List qJ)(y:Bool):Int:=if y=true then (Q.bestP l).1.f0 else 0
def readyOf(m:qG)(l:List qJ)(act:List Int):Bool:=decide ((act.length:Int)≥m.f2)&&act.all (toldB l)
def decideP(m:qG)(l:List qJ)(act:List Int)(sp:List qF):qAp :=
 ⟨readyOf m l act&&sp.all (fun s=>s.f1.any (toldB l)),authOf l (readyOf m l act&&sp.all (fun s=>s.f1.any (toldB l))),askOf m l (allOf act sp),lostOf m l sp⟩
theorem qHP{m:qG}(hn:Topo.Nodes m.f4)(l:List qJ)(hl:l.length<1000000)(y:Bool)(lost c:List Int)(hc:c.length≤1000000):∀(d i:Nat)(acc:List Int),i+d=c.length→acc.length≤i→Ev (fun k=>qm.l141 k m l y lost c (i:Int) acc) ((⟨y,authOf l y,acc++(c.drop i).filter (asks m l),lost⟩:qAp),0):=by
 intro d
 induction d with
 | zero =>
  intro i acc hi ha
  rw [List.drop_eq_nil_of_le (by omega),List.filter_nil,List.append_nil]
  refine .s (qm.l141_s · _ _ _ _ _ _ _) (.n (by omega) ?_)
  unfold authOf
  cases y with
  | true=>exact .t rfl (.b (Q.best l hl) (.s (qm.j193_s · _ _ _ _) (.c _)))
  | false=>exact .n nF (.s (qm.j193_s · _ _ _ _) (.c _))
 | succ d ih =>
  intro i acc hi ha
  have h1:i<c.length:=by omega
  have j165:∀ b,b=asks m l c[i]→Ev (fun k=>qm.j165 k m l y lost c (i:Int) acc b) ((⟨y,authOf l y,acc++(c.drop i).filter (asks m l),lost⟩:qAp),0):=by
   intro b hb
   refine .s (qm.j165_s · _ _ _ _ _ _ _ _) ?_
   rw [nth_get _ _ _ h1,w64n i (by omega),List.drop_eq_getElem_cons h1]
   cases b with
   | true =>
    rw [List.filter_cons_of_pos hb.symm]
    refine .t rfl (.t (by omega) ((ih (i+1) (acc++[c[i]]) (by omega) (by rw [lA]; show acc.length+1≤_; omega)).v ?_))
    rw [List.append_assoc]
    rfl
   | false =>
    rw [List.filter_cons_of_neg (by rw [← hb]; decide)]
    exact .n nF (ih (i+1) acc (by omega) (by omega))
  refine .s (qm.l141_s · _ _ _ _ _ _ _) (.t (by omega) (.t (by omega) ?_))
  rw [nth_get _ _ _ h1]
  refine .b (punheard l hl _) ?_
  unfold asks at j165
  cases ht:toldB l c[i] with
  | true=>exact .n (by decide) (j165 false (by rw [ht]; rfl))
  | false=>exact .t rfl (.b (pup hn _) (j165 _ (by rw [ht]; rfl)))
theorem qHz{m:qG}(hn:Topo.Nodes m.f4)(l:List qJ)(hl:l.length<1000000)(sp:List qF)(hsl:sp.length≤100)(hs:∀ s ∈ sp,s.f1.length≤100):∀(d i:Nat)(all:List Int)(y:Bool)(lost:List Int),i+d=sp.length→all.length≤1000+100 * i→lost.length≤i →
  Ev (fun k=>qm.l71 k m l sp all (i:Int) y lost) ((⟨y&&(sp.drop i).all (fun s=>s.f1.any (toldB l)),authOf l (y&&(sp.drop i).all (fun s=>s.f1.any (toldB l))),askOf m l (allOf all (sp.drop i)),lost++lostOf m l (sp.drop i)⟩:qAp),0):=by
 intro d
 induction d with
 | zero =>
  intro i all y lost hi ha hlo
  rw [List.drop_eq_nil_of_le (by omega)]
  unfold allOf lostOf askOf
  rw [List.all_nil,Bool.and_true,List.flatMap_nil,List.append_nil,List.filter_nil,List.map_nil,List.append_nil]
  refine .s (qm.l71_s · _ _ _ _ _ _ _) (.n (by omega) ?_)
  have e1:qAh.f all=some (sortL ltI all):=by
   unfold qAh.f sortI
   exact if_pos (by omega)
  have hsl:(sortL ltI all).length=all.length:=qCQ _ _
  have e2:qAm.f (sortL ltI all)=some (Lib.compact (sortL ltI all)):=by
   unfold qAm.f compactI
   exact if_pos (by omega)
  have hcl:=qDU (sortL ltI all)
  exact .b0 e1 (.b0 e2 (qHP hn l hl y lost _ (by omega) (Lib.compact (sortL ltI all)).length 0 [] (by omega) (Nat.le_refl 0)))
 | succ d ih =>
  intro i all y lost hi ha hlo
  have h1:i<sp.length:=by omega
  have hs1:=hs _ (gM h1)
  have eall:allOf all (sp.drop i)=allOf (all++sp[i].f1) (sp.drop (i+1)):=by
   unfold allOf
   rw [List.drop_eq_getElem_cons h1,List.flatMap_cons,List.append_assoc]
  have hal:(all++sp[i].f1).length≤1000+100 * (i+1):=by rw [lA]; omega
  rw [eall]
  rw [List.drop_eq_getElem_cons h1,List.all_cons]
  refine .s (qm.l71_s · _ _ _ _ _ _ _) (.t (by omega) (.t (by omega) ?_))
  rw [nth_get _ _ _ h1,w64n i (by omega)]
  refine .t (by omega) (.b (qHO l hl _ (by omega)) ?_)
  cases ht:sp[i].f1.any (toldB l) with
  | true =>
   have e:lostOf m l (sp[i] :: sp.drop (i+1))=lostOf m l (sp.drop (i+1)):=by
    unfold lostOf
    rw [List.filter_cons_of_neg (by rw [ht]; exact nF)]
   rw [Bool.true_and,e]
   exact .t rfl (ih (i+1) _ y lost (by omega) hal (by omega))
  | false =>
   rw [Bool.false_and,Bool.and_false]
   have hf:∀ z:Bool,(false&&z)=false:=fun _=>rfl
   refine .n nF (.b (qIL hn _ (by omega)) ?_)
   cases hu:sp[i].f1.any (upN m.f4) with
   | true =>
    have e:lostOf m l (sp[i] :: sp.drop (i+1))=lostOf m l (sp.drop (i+1)):=by
     unfold lostOf
     rw [List.filter_cons_of_neg (by rw [ht,hu]; decide)]
    rw [e]
    have h:=ih (i+1) (all++sp[i].f1) false lost (by omega) hal (by omega)
    rw [hf]at h
    exact .t rfl h
   | false =>
    have e:lostOf m l (sp[i] :: sp.drop (i+1))=sp[i].f0 :: lostOf m l (sp.drop (i+1)):=by
     unfold lostOf
     rw [List.filter_cons_of_pos (by rw [ht,hu]; rfl),List.map_cons]
    rw [e]
    have h:=ih (i+1) (all++sp[i].f1) false (lost++[sp[i].f0]) (by omega) hal (by rw [lA]; show lost.length+1≤_; omega)
    rw [hf,List.append_assoc]at h
    exact .n nF (.t (by omega) h)
theorem qDZ{m:qG}(h:May m)(g:Int):(actM m g).length≤3:=by
 unfold actM
 split
 ·have h1:=(qDo h g).2.1
  have h3:=h.1.2.1
  omega
 ·exact Nat.zero_le _
theorem qIA(m:qG)(h8:Lit9 m)(g:Int)(l:List qJ)(hl:l.length<1000000):Ev (fun k=>qm.f k m g l) (if SoundQ m g l then (decideP m l (actM m g) (countsP m g l),0) else ((⟨false,0,[],[]⟩:qAp),1)):=by
 unfold qm.f
 refine .b (sound m h8.small g l hl) ?_
 by_cases h:SoundQ m g l
 ·rw [dT h,if_pos h]
  have hlen:m.f6.length=m.f3:=h.1.2.2.1
  have hal:=qDZ h.1 g
  have hsp:(countsP m g l).length≤100∧∀ s ∈ countsP m g l,s.f1.length≤100:=by
   unfold countsP
   rw [if_pos h]
   obtain ⟨i,rfl⟩:∃ i:Nat,g=i:=⟨g.toNat,by have:=h.2.1.1; omega⟩
   have hi:i<m.f6.length:=by have:=h.2.1.2; omega
   rw [nth_get _ _ _ hi]
   unfold spansFrom
   exact ⟨Nat.le_trans (List.length_filter_le _ _) (h8.hp _ (gM hi)),fun s hs=>h8.hs _ (gM hi) s (List.mem_filter.1 hs).1⟩
  have j45:∀ y:Bool,y=readyOf m l (actM m g)→Ev (fun k=>qm.j45 k m g l (actM m g) y) (decideP m l (actM m g) (countsP m g l),0):=by
   intro y hy
   refine .s (qm.j45_s · _ _ _ _ _) (.b (count m h8 g l hl) ?_)
   rw [hy]
   exact qHz h.1.1.2.2.2.2 l hl _ hsp.1 hsp.2 (countsP m g l).length 0 _ _ [] (by omega) (by omega) (Nat.le_refl 0)
  unfold readyOf at j45
  refine .t rfl (.b (mActing m h8.small g) ?_)
  by_cases hc:((actM m g).length:Int)≥m.f2
  ·refine .t hc (.b (qEx l hl _ (by omega)) (j45 _ ?_))
   rw [dT hc,Bool.true_and,List.not_any_eq_all_not]
   congr 1
   funext x
   exact Bool.not_not _
  ·refine .n hc (j45 false ?_)
   rw [dF hc]
   rfl
 ·rw [dF h,if_neg h]
  exact .n nF (.c _)
theorem cloneN(l:List qA)(hl:l.length≤1000000):qAY.f l=some l:=by
 unfold qAY.f
 rw [if_pos (by simp only [List.length_nil]; omega)]
 rfl
theorem cloneT(l:List qE)(hl:l.length≤1000000):qAZ.f l=some l:=by
 unfold qAZ.f
 rw [if_pos (by simp only [List.length_nil]; omega)]
 rfl
theorem cloneP(l:List qC)(hl:l.length≤1000000):qAK.f l=some l:=by
 unfold qAK.f
 rw [if_pos (by simp only [List.length_nil]; omega)]
 rfl
theorem cloneS(l:List qF)(hl:l.length≤1000000):qAa.f l=some l:=by
 unfold qAa.f
 rw [if_pos (by simp only [List.length_nil]; omega)]
 rfl
theorem spansId(l:List qF)(hl:l.length≤1000000)(hs:∀ s ∈ l,s.f1.length≤1000000):Ev (fun k=>qAo.f k l) l:=by
 have go:∀(d i:Nat),i+d=l.length→Ev (fun k=>qAo.l16 k l l (i:Int)) l:=by
  intro d
  induction d with
  | zero=>exact fun i hi=>.s (qAo.l16_s · _ _ _) (.n (by omega) (.c _))
  | succ d ih =>
   intro i hi
   have h1:i<l.length:=by omega
   refine .s (qAo.l16_s · _ _ _) (.t (by omega) (.t (by omega) ?_))
   rw [nth_get _ _ _ h1,w64n i (by omega)]
   refine .b0 (clone _ (hs _ (gM h1))) ?_
   have e:l.set (i:Int).toNat (⟨l[i].f0,l[i].f1⟩:qF)=l:=by
    rw [tN]
    exact List.set_getElem_self h1
   rw [e]
   exact ih (i+1) (by omega)
 unfold qAo.f
 exact .b0 (cloneS l hl) (go l.length 0 (Nat.zero_add _))
def Pasts(b:Nat)(m:qG):Prop:=∀ t ∈ m.f6,t.f1.length≤b
theorem qDC{m:qG}(h:May m):m.f6.length≤8:=by
 have h3:=h.1.2.2.2.1
 have:=h.2.2.1
 omega
theorem qEC{m:qG}(h:May m):∀ t ∈ m.f5,t.f1.length≤3:=fun t ht=>by
 have:=((qCN m _ _).1 h.2.1).1 t ht
 have:=h.1.2.1
 omega
theorem qCx{m:qG}(h:May m):∀ t ∈ m.f6,∀ s ∈ t.f1,s.f1.length≤3:=fun t ht s hs=>by
 have:=((qBv m t.f0 t.f1 [] (-1)).1 ((qCO m m.f6).1 h.2.2.2 t ht).2).1 s hs
 have:=h.1.2.1
 omega
structure Sized (m:qG):Prop where
 h4:m.f4.length<1000000
 h5:m.f5.length<1000000
 h6:m.f6.length<1000000
 ht:∀ t ∈ m.f5,t.f1.length<1000000
 hp:∀ t ∈ m.f6,t.f1.length<1000000
 hs:∀ t ∈ m.f6,∀ s ∈ t.f1,s.f1.length<1000000
theorem May.sized{m:qG}(h:May m){b:Nat}(hb:b≤100000)(hP:Pasts b m):Sized m:=by
 have h4:m.f4.length≤12:=h.1.2.2.2.2.1
 have h5:=qCw h
 have h6:=qDC h
 exact ⟨by omega,by omega,by omega,fun t ht=>by have:=qEC h t ht; omega,fun t ht=>by have:=hP t ht; omega,fun t ht s hs=>by have:=qCx h t ht s hs; omega⟩
theorem Sized.small{m:qG}(h:Sized m):Small m:=⟨by have:=h.h4; omega,by have:=h.h5; omega,by have:=h.h6; omega,fun t ht=>by have:=h.hp t ht; omega,fun t ht s hs=>by have:=h.hs t ht s hs; omega⟩
theorem own{m:qG}(hz:Sized m):Ev (fun k=>qAj.f k m) m:=by
 have h4:=hz.h4
 have h5:=hz.h5
 have h6:=hz.h6
 have l91:∀(d i:Nat),i+d=m.f6.length→Ev (fun k=>qAj.l91 k m m.f4 m.f5 m.f6 m.f6 (i:Int)) m:=by
  intro d
  induction d with
  | zero=>exact fun i hi=>.s (qAj.l91_s · _ _ _ _ _ _) (.n (by omega) (.c _))
  | succ d ih =>
   intro i hi
   have h1:i<m.f6.length:=by omega
   have hmem:=gM h1
   refine .s (qAj.l91_s · _ _ _ _ _ _) (.t (by omega) (.t (by omega) ?_))
   rw [nth_get _ _ _ h1,w64n i (by omega)]
   refine .b (spansId _ (Nat.le_of_lt (hz.hp _ hmem)) (fun s hs=>Nat.le_of_lt (hz.hs _ hmem s hs))) ?_
   have e:m.f6.set (i:Int).toNat (⟨m.f6[i].f0,m.f6[i].f1⟩:qC)=m.f6:=by
    rw [tN]
    exact List.set_getElem_self h1
   rw [e]
   exact ih (i+1) (by omega)
 have l30:∀(d i:Nat),i+d=m.f5.length→Ev (fun k=>qAj.l30 k m m.f4 m.f5 m.f5 (i:Int)) m:=by
  intro d
  induction d with
  | zero=>exact fun i hi=>.s (qAj.l30_s · _ _ _ _ _) (.n (by omega) (.b0 (cloneP _ (by omega)) (l91 m.f6.length 0 (Nat.zero_add _))))
  | succ d ih =>
   intro i hi
   have h1:i<m.f5.length:=by omega
   refine .s (qAj.l30_s · _ _ _ _ _) (.t (by omega) (.t (by omega) ?_))
   rw [nth_get _ _ _ h1,w64n i (by omega)]
   refine .b0 (clone _ (Nat.le_of_lt (hz.ht _ (gM h1)))) ?_
   have e:m.f5.set (i:Int).toNat (⟨m.f5[i].f0,m.f5[i].f1⟩:qE)=m.f5:=by
    rw [tN]
    exact List.set_getElem_self h1
   rw [e]
   exact ih (i+1) (by omega)
 unfold qAj.f
 exact .b0 (cloneN _ (by omega)) (.b0 (cloneT _ (by omega)) (l30 m.f5.length 0 (Nat.zero_add _)))
theorem qIB{α : Type}(z : α)(a b:List α)(i:Nat)(ha:i≤a.length)(hb:i<b.length):nth z (a.take i++b.drop i) (i:Int)=b[i]:=by
 have hl:(a.take i).length=i:=by rw [List.length_take]; omega
 have h1:i<(a.take i++b.drop i).length:=by rw [lA,List.length_drop,hl]; omega
 rw [nth_get _ _ _ h1,List.getElem_append_right (by omega),List.getElem_drop]
 congr 1
 omega
theorem qHQ{α : Type}(a b:List α)(i:Nat)(ha:i<a.length)(hb:i<b.length)(h:a[i]=b[i]):a.take i++b.drop i=a.take (i+1)++b.drop (i+1):=by
 rw [List.drop_eq_getElem_cons hb,← List.take_append_getElem ha,List.append_assoc,h]
 rfl
theorem qIC{α : Type}(a b:List α)(i:Nat)(ha:i<a.length)(hb:i<b.length):(a.take i++b.drop i).set (i:Int).toNat a[i]=a.take (i+1)++b.drop (i+1):=by
 have hl:(a.take i).length=i:=by rw [List.length_take]; omega
 rw [tN,List.set_append,if_neg (by omega),hl,Nat.sub_self,List.drop_eq_getElem_cons hb,List.set_cons_zero,← List.take_append_getElem ha,List.append_assoc]
 rfl
theorem qID(l:List Int)(hl:l.length≤1000000):qx.f l=some (rising l):=by
 unfold qx.f qAG.f qAh.f sortI
 rw [if_pos hl,Option.bind_some,if_pos hl]
 rfl
theorem delSpan(l:List qF)(s:qF)(hl:l.length<1000000)(hs:∀ x ∈ l,x.f1.length<1000000):Ev (fun k=>qS.f k l s) (l.filter (fun y => !decide (y.f1=s.f1))):=by
 have hp:∀ x ∈ l,Ev (fun k=>qAv.f k x s) (decide (x.f1=s.f1)):=by
  intro x hx
  unfold qAv.f
  exact .b (equal _ _ (by have:=hs x hx; omega)) (.c _)
 unfold qS.f qa.f
 rcases indexG qF.z l (fun x=>decide (x.f1=s.f1)) (fun k x=>qAv.f k x s) hp hl (fun k x=>qa.l5 k l s x) (fun k x=>qa.l5_s k l s x) l.length 0 (by omega) rfl with ⟨a,b⟩ | ⟨n,a,b,c,e⟩
 ·exact .b b (.t rfl (.cv a.symm))
 ·refine .b e (.n (by omega) ?_)
  rw [w64n n (by omega)]
  refine deleteG qF.z l (fun x=>decide (x.f1=s.f1)) (fun k x=>qAv.f k x s) hp hl (fun k q n x=>qS.l15 k l s q n x) (fun k q n x=>qS.l15_s k l s q n x) (l.length - (n+1)) (n+1) n l (by omega) (by omega) rfl ?_ rfl
  rw [← List.take_append_getElem a,List.filter_append,b]
  have ca:(decide (l[n].f1=s.f1))=true:=c a
  simp [ca]
theorem followed{m x:qG}(h:May m)(hx:May x)(he:m.f0<2147483647){b:Nat}(hb:b≤100000)(hP:Pasts b x):Ev (fun k=>qAe.f k m x) (qIP m x):=by
 have hf0:=h.1.1
 have h6:=qDC hx
 have hlen:(qIP m x).length=x.f6.length:=by unfold qIP; exact List.length_mapIdx
 have go:∀(d i:Nat),i+d=x.f6.length→Ev (fun k=>qAe.l20 k m x x.f6 ((qIP m x).take i++x.f6.drop i) (i:Int)) (qIP m x):=by
  intro d
  induction d with
  | zero =>
   intro i hi
   refine .s (qAe.l20_s · _ _ _ _ _) (.n (by omega) (.cv ?_))
   rw [List.take_of_length_le (by omega),List.drop_eq_nil_of_le (by omega),List.append_nil]
  | succ d ih =>
   intro i hi
   have h1:i<x.f6.length:=by omega
   have h2:i<(qIP m x).length:=by omega
   have hmem:=gM h1
   have hF:(qIP m x)[i]=followT x.f6[i] (actL m i) (actL x i) m.f2 (m.f0+1):=by
    simp only [qIP,List.getElem_mapIdx]
   have hr:=(qFP h i).2.1
   have hrx:=(qFP hx i).2.1
   have s1:=h.1.2.1
   have s2:=hx.1.2.1
   have ha:=(qDo h i).2.1
   have hax:=(qDo hx i).2.1
   refine .s (qAe.l20_s · _ _ _ _ _) (.t (by omega) (.t (by omega) ?_))
   rw [qIB _ _ _ _ (by omega) h1,w64n i (by omega)]
   refine .b (raw h i) (.b (up h.1.2.2.2.2 _ (by omega)) (.b (raw hx i) (.b (up hx.1.2.2.2.2 _ (by omega)) ?_)))
   refine .b (equal (actL m i) (actL x i) (by omega)) ?_
   have j144:∀ l141,(⟨m.f0+1,l141⟩:qC)=(qIP m x)[i]→Ev (fun k=>qAe.j144 k m x x.f6 ((qIP m x).take i++x.f6.drop i) (i:Int) l141) (qIP m x):=by
    intro l141 e
    refine .s (qAe.j144_s · _ _ _ _ _ _) ?_
    rw [w64n i (by omega),qCI (by omega) (by omega),e,qIC _ _ _ h2 h1]
    exact ih (i+1) (by omega)
   by_cases hw:actL m i=actL x i
   ·have e:(qIP m x)[i]=x.f6[i]:=by
     rw [hF]
     exact if_pos hw
    rw [qHQ _ _ _ h2 h1 e]
    exact .t (dT hw) (ih (i+1) (by omega))
   ·refine .n (fun e=>hw (oT e)) ?_
    rw [followT,if_neg hw]at hF
    by_cases hc:m.f2≤((actL m i).length:Int)
    ·rw [if_pos hc]at hF
     have hpl:=hP _ hmem
     have hfl:=List.length_filter_le (fun y:qF => !decide (y.f1=rising (actL m i))) x.f6[i].f1
     refine .t hc (.b0 (qID _ (by show (actL m i).length≤_; omega)) (.b (spansId _ (by omega) (fun s hs=>Nat.le_trans (qCx hx _ hmem s hs) (by decide))) (.b (delSpan _ _ (by omega) (fun s hs=>Nat.lt_of_le_of_lt (qCx hx _ hmem s hs) (by decide))) (.t ?_ (j144 _ hF.symm)))))
     show ((((x.f6[i].f1.filter (fun y:qF => !decide (y.f1=rising (actL m i)))).length:Nat):Int)+((1:Nat):Int)) * 32≤140737488355328
     omega
    ·rw [if_neg hc]at hF
     exact .n hc (j144 _ hF.symm)
 unfold qAe.f
 refine .b0 (cloneP _ (by omega)) ?_
 have h0:=go x.f6.length 0 (Nat.zero_add _)
 rw [List.take_zero,List.drop_zero,List.nil_append]at h0
 exact h0
theorem bare(d:qd):qBq.f d=some (decide (bareD d)):=by
 have hlen:((d.f6.length:Int) == 0)=decide (d.f6=[]):=by
  cases d.f6 with
  | nil=>rfl
  | cons x r=>rw [dF (by simp)]; exact beq_eq_false_iff_ne.2 (by simp only [List.length_cons]; omega)
 have hl0:((d.f6.length:Int)=0)↔d.f6=[]:=by
  cases d.f6 with
  | nil=>exact ⟨fun _=>rfl,fun _=>rfl⟩
  | cons x r=>exact ⟨fun e=>absurd e (by simp only [List.length_cons]; omega),fun e=>(nomatch e)⟩
 have hz:∀ z:Int,(z == 0)=decide (z=0):=fun z=>by rw [Bool.eq_iff_iff,beq_iff_eq,decide_eq_true_eq]
 unfold qBq.f bareD
 rw [hlen]
 by_cases h1:d.f0=1
 ·rw [if_pos h1]
  simp only [if_pos h1]
  by_cases a:d.f5=0 <;> simp [a]
 ·rw [if_neg h1]
  simp only [if_neg h1]
  by_cases h2:d.f0=2
  ·rw [if_pos h2]
   simp only [if_pos h2]
   by_cases a:d.f2=0 <;> by_cases b:d.f3=0 <;> by_cases c:d.f5=0 <;> simp [a,b,c]
  ·rw [if_neg h2]
   simp only [if_neg h2]
   by_cases h10:d.f0=10
   ·rw [if_pos h10]
    simp only [if_pos h10]
    by_cases a:d.f1=0 <;> by_cases b:d.f2=0 <;> by_cases c:d.f3=0 <;> simp [a,b,c]
   ·rw [if_neg h10]
    simp only [if_neg h10]
    by_cases h8:d.f0=8
    ·rw [if_pos h8]
     simp only [if_pos h8]
     by_cases a:d.f1=0 <;> by_cases b:d.f2=0 <;> by_cases c:d.f3=0 <;> simp [a,b,c,hz]
    ·rw [if_neg h8]
     simp only [if_neg h8]
     by_cases a:d.f2=0 <;> by_cases b:d.f3=0 <;> by_cases c:d.f4=0 <;> by_cases e:d.f5=0 <;> by_cases f:d.f6=[] <;> by_cases g:d.f0=9 <;> simp [a,b,c,e,f,g,hl0,hz]
def Same2(R T:qG × Int):Prop:=R.2=T.2∧(T.2=0→R.1=T.1)
theorem err2(a b:qG)(c:Int)(hc:c≠0):Same2 (a,c) (b,c):=⟨rfl,fun e=>absurd e hc⟩
theorem Same2.refl(R:qG × Int):Same2 R R:=⟨rfl,fun _=>rfl⟩
theorem qGl(n:qA):∀(l:List qA),l.Pairwise (fun x y=>x.f0<y.f0)→((∃ h:posG (fun c:qA=>c.f0) n.f0 l<l.length,l[posG (fun c:qA=>c.f0) n.f0 l].f0=n.f0)→putN n l=l.set (posG (fun c:qA=>c.f0) n.f0 l) n)∧(l.find? (fun c=>decide (c.f0=n.f0))=none→putN n l=l.take (posG (fun c:qA=>c.f0) n.f0 l)++n :: l.drop (posG (fun c:qA=>c.f0) n.f0 l))
 | [],_=>⟨fun ⟨h,_⟩=>absurd h (by simp),fun _=>rfl⟩
 | c :: r,hp=>by
  obtain ⟨h1,h2⟩:=List.pairwise_cons.1 hp
  obtain ⟨i1,i2⟩:=qGl n r h2
  by_cases hc:c.f0<n.f0
  ·have e:posG (fun c:qA=>c.f0) n.f0 (c :: r)=posG (fun c:qA=>c.f0) n.f0 r+1:=by rw [posG,if_pos hc]
   rw [e,putN,if_pos hc]
   refine ⟨fun ⟨h,q⟩=>?_,fun q=>?_⟩
   ·rw [List.set_cons_succ,i1 ⟨by rw [List.length_cons]at h; omega,by rw [List.getElem_cons_succ]at q; exact q⟩]
   ·rw [List.find?_cons_of_neg (by simp; omega)]at q
    rw [i2 q]
    rfl
  ·have e:posG (fun c:qA=>c.f0) n.f0 (c :: r)=0:=by rw [posG,if_neg hc]
   rw [e,putN,if_neg hc]
   refine ⟨fun ⟨h,q⟩=>?_,fun q=>?_⟩
   ·rw [List.getElem_cons_zero]at q
    rw [if_pos q]
    rfl
   ·by_cases hx:c.f0=n.f0
    ·rw [List.find?_cons_of_pos (by simpa using hx)]at q
     cases q
    ·rw [if_neg hx]
     rfl
theorem qGm(x:Int):∀(l:List qA),l.Pairwise (fun x y=>x.f0<y.f0)→(∃ h:posG (fun c:qA=>c.f0) x l<l.length,l[posG (fun c:qA=>c.f0) x l].f0=x)→dropN x l=l.take (posG (fun c:qA=>c.f0) x l)++l.drop (posG (fun c:qA=>c.f0) x l+1)
 | [],_,⟨h,_⟩=>absurd h (by simp)
 | c :: r,hp,⟨h,q⟩=>by
  obtain ⟨h1,h2⟩:=List.pairwise_cons.1 hp
  unfold dropN
  by_cases hc:c.f0<x
  ·have e:posG (fun c:qA=>c.f0) x (c :: r)=posG (fun c:qA=>c.f0) x r+1:=by rw [posG,if_pos hc]
   simp only [e,List.getElem_cons_succ]at q
   rw [e,List.filter_cons_of_pos (by simp; omega)]
   have:=qGm x r h2 ⟨by rw [e,List.length_cons]at h; omega,q⟩
   unfold dropN at this
   rw [this]
   rfl
  ·have e:posG (fun c:qA=>c.f0) x (c :: r)=0:=by rw [posG,if_neg hc]
   simp only [e,List.getElem_cons_zero]at q
   rw [e,List.filter_cons_of_neg (by simpa using q),List.filter_eq_self.2 (fun y hy=>by have:=h1 y hy; simp; omega)]
   rfl
theorem qGn(g:Int)(ns:List Int):∀(l:List qE),l.Pairwise (fun x y=>x.f0<y.f0)→((∃ h:posG (fun c:qE=>c.f0) g l<l.length,l[posG (fun c:qE=>c.f0) g l].f0=g)→pinT g ns l=l.take (posG (fun c:qE=>c.f0) g l)++(if ns=[] then [] else [(⟨g,ns⟩:qE)])++l.drop (posG (fun c:qE=>c.f0) g l+1))∧(l.find? (fun c=>decide (c.f0=g))=none→pinT g ns l=l.take (posG (fun c:qE=>c.f0) g l)++(if ns=[] then [] else [(⟨g,ns⟩:qE)])++l.drop (posG (fun c:qE=>c.f0) g l))
 | [],_=>⟨fun ⟨h,_⟩=>absurd h (by simp),fun _=>by
  unfold pinT posG
  rw [List.take_nil,List.drop_nil,List.append_nil,List.nil_append]⟩
 | c :: r,hp=>by
  obtain ⟨h1,h2⟩:=List.pairwise_cons.1 hp
  obtain ⟨i1,i2⟩:=qGn g ns r h2
  by_cases hc:c.f0<g
  ·have e:posG (fun c:qE=>c.f0) g (c :: r)=posG (fun c:qE=>c.f0) g r+1:=by rw [posG,if_pos hc]
   rw [e,pinT,if_pos hc]
   refine ⟨fun ⟨h,q⟩=>?_,fun q=>?_⟩
   ·rw [i1 ⟨by rw [List.length_cons]at h; omega,by rw [List.getElem_cons_succ]at q; exact q⟩]
    rfl
   ·rw [List.find?_cons_of_neg (by simp; omega)]at q
    rw [i2 q]
    rfl
  ·have e:posG (fun c:qE=>c.f0) g (c :: r)=0:=by rw [posG,if_neg hc]
   rw [e,pinT,if_neg hc]
   refine ⟨fun ⟨h,q⟩=>?_,fun q=>?_⟩
   ·rw [List.getElem_cons_zero]at q
    rw [if_pos q]
    rfl
   ·by_cases hx:c.f0=g
    ·rw [List.find?_cons_of_pos (by simpa using hx)]at q
     cases q
    ·rw [if_neg hx]
     rfl
theorem at_{m:qG}(h:May m)(x:Int):Ev (fun k=>qBu.f k m x) (qIR (fun n:qA=>n.f0) x m.f4):=by
 have hn:=h.1.2.2.2.2
 have hl:=hn.1
 unfold qBu.f qQ.f
 exact .b (searchG qA.z (fun n=>n.f0) x qBh.f (fun a=>by unfold qBh.f; rw [cmpG]; rfl) m.f4 _ (fun k a b=>qQ.l7_s k m.f4 x a b) (by omega) hn.up m.f4.length 0 m.f4.length (by omega) (by omega) (qDA _ _ _) (Nat.le_refl _)) (.c _)
theorem foundAt{m:qG}(h:May m)(x:Int):(∃ hp:posG (fun n:qA=>n.f0) x m.f4<m.f4.length,m.f4[posG (fun n:qA=>n.f0) x m.f4].f0=x∧(qIR (fun n:qA=>n.f0) x m.f4).2=true∧m.f4.find? (fun c=>decide (c.f0=x))=some m.f4[posG (fun n:qA=>n.f0) x m.f4])∨((qIR (fun n:qA=>n.f0) x m.f4).2=false∧m.f4.find? (fun c=>decide (c.f0=x))=none):=qCc (fun n:qA=>n.f0) x m.f4 h.1.2.2.2.2.up
theorem add{m:qG}(h:May m)(d:qd):Ht (fun k=>qBt.f k m d) (fun R=>Same2 R (addL m d)):=by
 have hn:=h.1.2.2.2.2
 have hl:m.f4.length≤12:=hn.1
 unfold qBt.f
 refine .e (at_ h d.f1) ?_
 unfold addL Topo.find
 rcases foundAt h d.f1 with ⟨hp,q1,q2,q3⟩ | ⟨q2,q3⟩
 ·rw [q3]
  exact .t q2 (.c (err2 _ _ _ (by decide)))
 ·rw [q3]
  refine .n (by rw [q2]; decide) ?_
  rw [if_neg (by decide)]
  by_cases h12:m.f4.length=12
  ·rw [if_pos h12]
   exact .t (by omega) (.c (err2 _ _ _ (by decide)))
  ·rw [if_neg h12]
   have hle:=qDA (fun n:qA=>n.f0) d.f1 m.f4
   have ep:putN (addN d) m.f4=m.f4.take (posG (fun n:qA=>n.f0) d.f1 m.f4)++addN d :: m.f4.drop (posG (fun n:qA=>n.f0) d.f1 m.f4):=(qGl (addN d) m.f4 hn.up).2 q3
   have ei:qAS.f m.f4 (qIR (fun n:qA=>n.f0) d.f1 m.f4).1 [(⟨d.f1,d.f2,d.f3,d.f4,false,true⟩:qA)]=some (putN (addN d) m.f4):=by
    unfold qAS.f
    show (if 0≤((posG (fun n:qA=>n.f0) d.f1 m.f4:Nat):Int)∧((posG (fun n:qA=>n.f0) d.f1 m.f4:Nat):Int)≤(m.f4.length:Int)∧m.f4.length≤1000000 then some (m.f4.take ((posG (fun n:qA=>n.f0) d.f1 m.f4:Nat):Int).toNat++(⟨d.f1,d.f2,d.f3,d.f4,false,true⟩:qA) :: m.f4.drop ((posG (fun n:qA=>n.f0) d.f1 m.f4:Nat):Int).toNat) else none)=_
    rw [if_pos (by omega),tN,ep]
    rfl
   refine .n (by omega) (.o ei (.e (Topo.check' _) (.c ?_)))
   by_cases hm:Topo.Nodes (putN (addN d) m.f4)
   ·rw [if_pos hm,dT hm]
    exact ⟨rfl,fun _=>rfl⟩
   ·rw [if_neg hm,dF hm]
    exact err2 _ _ _ (by decide)
theorem foundTemp{m:qG}(h:May m)(x:Int):(∃ hp:posG (fun n:qE=>n.f0) x m.f5<m.f5.length,m.f5[posG (fun n:qE=>n.f0) x m.f5].f0=x∧(qIR (fun n:qE=>n.f0) x m.f5).2=true∧m.f5.find? (fun c=>decide (c.f0=x))=some m.f5[posG (fun n:qE=>n.f0) x m.f5])∨((qIR (fun n:qE=>n.f0) x m.f5).2=false∧m.f5.find? (fun c=>decide (c.f0=x))=none):=qCc (fun n:qE=>n.f0) x m.f5 ((qCN m _ _).1 h.2.1).2.1
theorem pin{m:qG}(h:May m)(d:qd):Ht (fun k=>qAc.f k m d) (fun R=>Same2 R (pinL m d)):=by
 have hf:=h.1
 have h1:=h.1.2.1
 have h3:=h.1.2.2.2.1
 have hl:=qCw h
 have hsort:=((qCN m _ _).1 h.2.1).2.1
 have no:Ht (fun k=>qAc.j15 k m d true) (fun R=>Same2 R ((m,1):qG × Int)):=.s (qAc.j15_s · _ _ _) (.t rfl (.c (err2 _ _ _ (by decide))))
 unfold qAc.f pinL
 refine .o (min' d.f5 0 _) ?_
 rw [qCI (by omega) (by omega)]
 by_cases hg:0≤d.f5∧d.f5≤m.f3 - 1
 ·refine .t (dT hg) ?_
  by_cases hs:(d.f6.length:Int)>m.f1
  ·rw [if_neg (by omega),dT hs]
   exact no
  rw [if_pos ⟨hg.1,by omega,by omega⟩,dF hs]
  have hd6:d.f6.length≤3:=by omega
  have hle:=qDA (fun n:qE=>n.f0) d.f5 m.f5
  have rest:∀ there:Bool,(there=true→∃ hp:posG (fun n:qE=>n.f0) d.f5 m.f5<m.f5.length,m.f5[posG (fun n:qE=>n.f0) d.f5 m.f5].f0=d.f5)→(there=false→m.f5.find? (fun c=>decide (c.f0=d.f5))=none)→∀ same:Bool,(same=true↔qIQ m d.f5=d.f6) →
    Ht (fun k=>qAc.j45 k m d (qIR (fun t:qE=>t.f0) d.f5 m.f5) there same) (fun R=>Same2 R (if qIQ m d.f5=d.f6 then (m,7) else if Topo.apartR m.f4 [] d.f6=true then (withT m (pinT d.f5 d.f6 m.f5),0) else (m,12))):=by
   intro there ht hf' same hsame
   refine .s (qAc.j45_s · _ _ _ _ _) ?_
   cases same with
   | true =>
    rw [if_pos (hsame.1 rfl)]
    exact .t rfl (.c (err2 _ _ _ (by decide)))
   | false =>
    rw [if_neg (fun e=>Bool.noConfusion (hsame.2 e))]
    refine .n nF (.e (Topo.apart m.f4 d.f6 (by have:=h.1.2.2.2.2.1; omega) (by omega)) ?_)
    rw [dT h.1.2.2.2.2,Bool.true_and]
    by_cases ha:Topo.apartR m.f4 [] d.f6=true
    ·rw [if_pos ha]
     have j113:∀ l,l=pinT d.f5 d.f6 m.f5→Ht (fun k=>qAc.j113 k m l) (fun R=>Same2 R (withT m (pinT d.f5 d.f6 m.f5),0)):=by
      intro l hl
      rw [hl]
      exact .s (qAc.j113_s · _ _) (.c (Same2.refl _))
     have j77:∀ l,l.length≤8→posG (fun n:qE=>n.f0) d.f5 m.f5≤l.length→(l.take (posG (fun n:qE=>n.f0) d.f5 m.f5)++(if d.f6=[] then [] else [(⟨d.f5,d.f6⟩:qE)])++l.drop (posG (fun n:qE=>n.f0) d.f5 m.f5))=pinT d.f5 d.f6 m.f5→Ht (fun k=>qAc.j77 k m d (qIR (fun t:qE=>t.f0) d.f5 m.f5) l) (fun R=>Same2 R (withT m (pinT d.f5 d.f6 m.f5),0)):=by
      intro l hl8 hpl he
      refine .s (qAc.j77_s · _ _ _ _) ?_
      by_cases h6:d.f6=[]
      ·rw [if_pos h6,List.append_nil,List.take_append_drop]at he
       refine .n (by rw [h6]; decide) (j113 _ he)
      ·rw [if_neg h6]at he
       have hpos:0<d.f6.length:=List.length_pos_iff.2 h6
       have ei:qAU.f l (qIR (fun n:qE=>n.f0) d.f5 m.f5).1 [(⟨d.f5,d.f6⟩:qE)]=some (pinT d.f5 d.f6 m.f5):=by
        unfold qAU.f
        show (if 0≤((posG (fun n:qE=>n.f0) d.f5 m.f5:Nat):Int)∧((posG (fun n:qE=>n.f0) d.f5 m.f5:Nat):Int)≤(l.length:Int)∧l.length≤1000000 then some (l.take ((posG (fun n:qE=>n.f0) d.f5 m.f5:Nat):Int).toNat++(⟨d.f5,d.f6⟩:qE) :: l.drop ((posG (fun n:qE=>n.f0) d.f5 m.f5:Nat):Int).toNat) else none)=_
        rw [if_pos (by omega),tN,← he,List.append_assoc]
        rfl
       exact .t (by omega) (.o (clone _ (by omega)) (.o ei (j113 _ rfl)))
     refine .t ha ?_
     cases there with
     | true =>
      obtain ⟨hp,hq⟩:=ht rfl
      have ed:qAT.f m.f5 (qIR (fun n:qE=>n.f0) d.f5 m.f5).1 (w64 ((qIR (fun n:qE=>n.f0) d.f5 m.f5).1+1))=some (m.f5.take (posG (fun n:qE=>n.f0) d.f5 m.f5)++m.f5.drop (posG (fun n:qE=>n.f0) d.f5 m.f5+1)):=by
       unfold qAT.f
       show (if 0≤((posG (fun n:qE=>n.f0) d.f5 m.f5:Nat):Int)∧((posG (fun n:qE=>n.f0) d.f5 m.f5:Nat):Int)≤w64 (((posG (fun n:qE=>n.f0) d.f5 m.f5:Nat):Int)+1)∧w64 (((posG (fun n:qE=>n.f0) d.f5 m.f5:Nat):Int)+1)≤(m.f5.length:Int)∧m.f5.length≤1000000 then some (m.f5.take ((posG (fun n:qE=>n.f0) d.f5 m.f5:Nat):Int).toNat++m.f5.drop (w64 (((posG (fun n:qE=>n.f0) d.f5 m.f5:Nat):Int)+1)).toNat) else none)=_
       rw [w64n _ (by omega),if_pos (by omega),tN,tN]
      have hlen:(m.f5.take (posG (fun n:qE=>n.f0) d.f5 m.f5)).length=posG (fun n:qE=>n.f0) d.f5 m.f5:=by rw [List.length_take]; omega
      refine .t rfl (.o ed (j77 _ ?_ ?_ ?_))
      ·rw [lA,hlen,List.length_drop]; omega
      ·rw [lA,hlen]; omega
      ·rw [(qGn d.f5 d.f6 m.f5 hsort).1 ⟨hp,hq⟩,List.take_append_of_le_length (by omega),List.take_of_length_le (by omega),List.drop_append_of_le_length (by omega),List.drop_of_length_le (by omega),List.nil_append]
     | false=>exact .n nF (j77 _ hl hle ((qGn d.f5 d.f6 m.f5 hsort).2 (hf' rfl)).symm)
    ·rw [if_neg ha]
     exact .n ha (.c (err2 _ _ _ (by decide)))
  refine .s (qAc.j15_s · _ _ _) (.n nF (.e (temp h d.f5) ?_))
  rcases foundTemp h d.f5 with ⟨hp,q1,q2,q3⟩ | ⟨q2,q3⟩
  ·have hto:qIQ m d.f5=m.f5[posG (fun n:qE=>n.f0) d.f5 m.f5].f1:=by unfold qIQ; rw [q3]
   refine .t q2 (.t ?_ ?_)
   ·show 0≤((posG (fun n:qE=>n.f0) d.f5 m.f5:Nat):Int)∧((posG (fun n:qE=>n.f0) d.f5 m.f5:Nat):Int)<_
    omega
   ·have q:nth qE.z m.f5 (qIR (fun n:qE=>n.f0) d.f5 m.f5).1=_:=nth_get qE.z m.f5 _ hp
    rw [q]
    have htl:=qEC h _ (gM hp)
    refine .e (equal _ _ (by omega)) (rest true (fun _=>⟨hp,q1⟩) (fun e=>Bool.noConfusion e) _ ?_)
    rw [decide_eq_true_eq,hto]
  ·have hto:qIQ m d.f5=[]:=by unfold qIQ; rw [q3]
   refine .n (by rw [q2]; decide) ?_
   by_cases h0:(d.f6.length:Int)=0
   ·exact .t h0 (rest false (fun e=>Bool.noConfusion e) (fun _=>q3) true ⟨fun _=>by rw [hto]; exact (List.eq_nil_of_length_eq_zero (by omega)).symm,fun _=>rfl⟩)
   ·exact .n h0 (rest false (fun e=>Bool.noConfusion e) (fun _=>q3) false ⟨fun e=>Bool.noConfusion e,fun e=>absurd (by rw [← e,hto]; rfl) h0⟩)
 ·rw [if_neg (fun e=>hg ⟨e.1,by omega⟩)]
  exact .n (fun e=>hg (oT e)) no
theorem cleaned{m:qG}(h:May m)(d:qd):qBn.f m d=some (cleanL m d):=by
 have hf:=h.1
 have h3:=h.1.2.2.2.1
 have hlen:m.f6.length=m.f3:=h.2.2.1
 unfold qBn.f cleanL
 rw [min' d.f5 0 _,Option.bind_some,qCI (by omega) (by omega)]
 by_cases hg:0≤d.f5∧d.f5<m.f3
 ·rw [if_pos hg,if_pos (dT (by omega)),if_pos (by omega)]
  by_cases hs:(nth qC.z m.f6 d.f5).f0=d.f4
  ·rw [if_pos hs,if_neg (show ¬ (nth qC.z m.f6 d.f5).f0≠d.f4 from fun e=>e hs)]
   by_cases hp:(nth qC.z m.f6 d.f5).f1=[]
   ·rw [if_pos hp,if_pos (show (((nth qC.z m.f6 d.f5).f1).length:Int)=0 by rw [hp]; rfl)]
   ·rw [if_neg hp,if_neg (show ¬ (((nth qC.z m.f6 d.f5).f1).length:Int)=0 from fun e=>hp (List.eq_nil_of_length_eq_zero (by omega)))]
    rfl
  ·rw [if_neg hs,if_pos (show (nth qC.z m.f6 d.f5).f0≠d.f4 from hs)]
 ·rw [if_neg hg,if_neg (fun e=>hg ⟨(oT e).1,by have:=(oT e).2; omega⟩)]
theorem heldT(m:qG)(h:May m)(d:qd):Ev (fun k=>qr.f k m.f5 d) (m.f5.any (fun t=>decide (d.f1 ∈ t.f1))):=by
 obtain ⟨x,hx,hm⟩:=anyG qE.z m.f5 (fun t=>decide (d.f1 ∈ t.f1)) (fun k t=>qBe.f k t d) (fun t ht=>by
  unfold qBe.f
  exact .b (Topo.contains t.f1 d.f1 (by have:=qEC h t ht; omega)) (.c _)) (by have:=qCw h; omega) (fun k x=>qc.l5 k m.f5 d x) (fun k x=>qc.l5_s k m.f5 d x) m.f5.length 0 (by omega)
 unfold qr.f qc.f
 exact .b hx (.cv hm)
theorem acted{m:qG}(h:May m){b:Nat}(hb:b≤100000)(hP:Pasts b m)(id:Int):Ev (fun k=>qBT.f k m id) (m.f6.any (fun t=>t.f1.any (fun s=>decide (id ∈ s.f1)))):=by
 have hin:∀ t ∈ m.f6,Ev (fun k=>qBO.f k t id) (t.f1.any (fun s=>decide (id ∈ s.f1))):=by
  intro t ht
  obtain ⟨x,hx,hm⟩:=anyG qF.z t.f1 (fun s=>decide (id ∈ s.f1)) (fun k s=>qBH.f k s id) (fun s hs=>by
   unfold qBH.f
   exact .b (Topo.contains s.f1 id (by have:=qCx h t ht s hs; omega)) (.c _)) (by have:=hP t ht; omega) (fun k x=>qY.l5 k t.f1 id x) (fun k x=>qY.l5_s k t.f1 id x) t.f1.length 0 (by omega)
  unfold qBO.f qu.f qY.f
  exact .b (.b hx (.cv hm)) (.c _)
 obtain ⟨x,hx,hm⟩:=anyG qC.z m.f6 (fun t=>t.f1.any (fun s=>decide (id ∈ s.f1))) (fun k t=>qBO.f k t id) hin (by have:=qDC h; omega) (fun k x=>qZ.l5 k m.f6 id x) (fun k x=>qZ.l5_s k m.f6 id x) m.f6.length 0 (by omega)
 unfold qBT.f qv.f qZ.f
 exact .b (.b hx (.cv hm)) (.c _)
theorem node{m:qG}(h:May m){b:Nat}(hb:b≤100000)(hP:Pasts b m)(d:qd)(hd:2≤d.f0∧d.f0≤7)(hp:posG (fun n:qA=>n.f0) d.f1 m.f4<m.f4.length)(hq:m.f4[posG (fun n:qA=>n.f0) d.f1 m.f4].f0=d.f1):Ht (fun k=>qAb.f k m ((posG (fun n:qA=>n.f0) d.f1 m.f4:Nat):Int) d) (fun R=>Same2 R (nodeL m m.f4[posG (fun n:qA=>n.f0) d.f1 m.f4] d)):=by
 have hn:=h.1.2.2.2.2
 have hl:m.f4.length≤12:=hn.1
 obtain ⟨p,hpe⟩:∃ p,posG (fun n:qA=>n.f0) d.f1 m.f4=p:=⟨_,rfl⟩
 have hput:∀ n:qA,n.f0=d.f1→putN n m.f4=m.f4.set p n:=fun n e=>by
  have:=(qGl n m.f4 hn.up).1
  rw [e,hpe]at this
  simp only [hpe]at hp hq
  exact this ⟨hp,hq⟩
 have hdrop:=qGm d.f1 m.f4 hn.up ⟨hp,hq⟩
 simp only [hpe]at hp hq hdrop ⊢
 have same:∀(b:Bool)(l:List qA),l=putN (if b then m.f4[p] else m.f4[p]) m.f4→True:=fun _ _ _=>trivial
 unfold qAb.f nodeL
 rw [nth_get _ _ _ hp,tN]
 refine .t (by omega) ?_
 by_cases h2:d.f0=2
 ·rw [if_pos h2]
  refine .t h2 (.o (min' d.f4 0 65536) ?_)
  by_cases hw:0≤d.f4∧d.f4≤65536
  ·rw [if_pos hw]
   refine .t (dT hw) ?_
   by_cases he:m.f4[p].f3=d.f4
   ·simp only [if_pos he]
    exact .c (err2 m m 7 (by decide))
   ·simp only [if_neg he]
    refine .c ?_
    rw [hput ⟨m.f4[p].f0,m.f4[p].f1,m.f4[p].f2,d.f4,m.f4[p].f4,m.f4[p].f5⟩ hq]
    exact Same2.refl _
  ·rw [if_neg hw]
   exact .n (fun e=>hw (oT e)) (.c (err2 m m 1 (by decide)))
 ·rw [if_neg h2]
  refine .n h2 ?_
  have e3:(d.f0 == 3)=decide (d.f0=3):=by rw [Bool.eq_iff_iff,beq_iff_eq,decide_eq_true_eq]
  have e4:(d.f0 == 4)=decide (d.f0=4):=by rw [Bool.eq_iff_iff,beq_iff_eq,decide_eq_true_eq]
  have e6:(d.f0 == 6)=decide (d.f0=6):=by rw [Bool.eq_iff_iff,beq_iff_eq,decide_eq_true_eq]
  have j103:∀ y:Bool,y=decide (m.f4[p].f4=true∨(m.f4[p].f5=true∧m.f4[p].f3>0)∨held m d.f1=true)→Ht (fun k=>qAb.j103 k m (p:Int) y) (fun R=>Same2 R (if m.f4[p].f4=true∨(m.f4[p].f5=true∧m.f4[p].f3>0)∨held m d.f1=true then (m,11) else (withN m (dropN d.f1 m.f4),0))):=by
   intro y hy
   refine .s (qAb.j103_s · _ _ _) ?_
   by_cases hc:m.f4[p].f4=true∨(m.f4[p].f5=true∧m.f4[p].f3>0)∨held m d.f1=true
   ·rw [if_pos hc]
    exact .t (hy.trans (dT hc)) (.c (err2 m m 11 (by decide)))
   ·rw [if_neg hc]
    have ed:qAV.f m.f4 (p:Int) (w64 ((p:Int)+1))=some (dropN d.f1 m.f4):=by
     unfold qAV.f
     rw [w64n _ (by omega),if_pos (by omega),tN,tN,hdrop]
    exact .n (by rw [hy,dF hc]; decide) (.o ed (.c (Same2.refl _)))
  have j64:∀ y:Bool,y=decide (d.f0=5∨d.f0=6)→¬ (d.f0=3∨d.f0=4)→Ht (fun k=>qAb.j64 k m (p:Int) d y) (fun R=>Same2 R (if d.f0=5∨d.f0=6 then (if m.f4[p].f5=decide (d.f0=6) then (m,7) else (withN m (putN ⟨m.f4[p].f0,m.f4[p].f1,m.f4[p].f2,m.f4[p].f3,m.f4[p].f4,decide (d.f0=6)⟩ m.f4),0)) else if m.f4[p].f4=true∨(m.f4[p].f5=true∧m.f4[p].f3>0)∨held m d.f1=true then (m,11) else (withN m (dropN d.f1 m.f4),0))):=by
   intro y hy h34
   refine .s (qAb.j64_s · _ _ _ _) ?_
   rw [nth_get _ _ _ hp,tN,e6]
   by_cases h56:d.f0=5∨d.f0=6
   ·rw [if_pos h56]
    refine .t (hy.trans (dT h56)) ?_
    by_cases he:m.f4[p].f5=decide (d.f0=6)
    ·simp only [if_pos he]
     exact .c (err2 m m 7 (by decide))
    ·simp only [if_neg he]
     refine .c ?_
     rw [hput ⟨m.f4[p].f0,m.f4[p].f1,m.f4[p].f2,m.f4[p].f3,m.f4[p].f4,decide (d.f0=6)⟩ hq]
     exact Same2.refl _
   ·rw [if_neg h56]
    refine .n (by rw [hy,dF h56]; decide) (.e (heldT m h d) ?_)
    by_cases c4:m.f4[p].f4=true
    ·exact .t c4 (j103 true (dT (.inl c4)).symm)
    ·refine .n c4 ?_
     have hrest:∀ y:Bool,(¬ (m.f4[p].f5=true∧m.f4[p].f3>0))→y=held m d.f1→y=decide (m.f4[p].f4=true∨(m.f4[p].f5=true∧m.f4[p].f3>0)∨held m d.f1=true):=by
      intro y h1 h2
      rw [h2,Bool.eq_iff_iff,decide_eq_true_eq]
      exact ⟨fun q=>.inr (.inr q),fun q=>(q.resolve_left c4).resolve_left h1⟩
     have hlast:(¬ (m.f4[p].f5=true∧m.f4[p].f3>0))→Ht (fun k=>if m.f5.any (fun t=>decide (d.f1 ∈ t.f1))=true then qAb.j103 k m (p:Int) true else (qBT.f k m d.f1).bind fun t96=>qAb.j103 k m (p:Int) t96) (fun R=>Same2 R (if m.f4[p].f4=true∨(m.f4[p].f5=true∧m.f4[p].f3>0)∨held m d.f1=true then (m,11) else (withN m (dropN d.f1 m.f4),0))):=by
      intro h1
      by_cases ht:m.f5.any (fun t=>decide (d.f1 ∈ t.f1))=true
      ·refine .t ht (j103 true (hrest true h1 ?_))
       unfold held
       rw [ht]
       rfl
      ·refine .n ht (.e (acted h hb hP d.f1) (j103 _ (hrest _ h1 ?_)))
       unfold held
       rw [eq_false_of_ne_true ht]
       rfl
     by_cases c5:m.f4[p].f5=true
     ·refine .t c5 ?_
      by_cases c3:m.f4[p].f3>0
      ·exact .t c3 (j103 true (dT (.inr (.inl ⟨c5,c3⟩))).symm)
      ·exact .n c3 (hlast (fun e=>c3 e.2))
     ·exact .n c5 (hlast (fun e=>c5 e.1))
  have j45:∀ y:Bool,y=decide (d.f0=3∨d.f0=4)→Ht (fun k=>qAb.j45 k m (p:Int) d y) (fun R=>Same2 R (if d.f0=3∨d.f0=4 then (if m.f4[p].f4=decide (d.f0=3) then (m,7) else (withN m (putN ⟨m.f4[p].f0,m.f4[p].f1,m.f4[p].f2,m.f4[p].f3,decide (d.f0=3),m.f4[p].f5⟩ m.f4),0)) else if d.f0=5∨d.f0=6 then (if m.f4[p].f5=decide (d.f0=6) then (m,7) else (withN m (putN ⟨m.f4[p].f0,m.f4[p].f1,m.f4[p].f2,m.f4[p].f3,m.f4[p].f4,decide (d.f0=6)⟩ m.f4),0)) else if m.f4[p].f4=true∨(m.f4[p].f5=true∧m.f4[p].f3>0)∨held m d.f1=true then (m,11) else (withN m (dropN d.f1 m.f4),0))):=by
   intro y hy
   refine .s (qAb.j45_s · _ _ _ _) ?_
   rw [nth_get _ _ _ hp,tN,e3]
   by_cases h34:d.f0=3∨d.f0=4
   ·rw [if_pos h34]
    refine .t (hy.trans (dT h34)) ?_
    by_cases he:m.f4[p].f4=decide (d.f0=3)
    ·simp only [if_pos he]
     exact .c (err2 m m 7 (by decide))
    ·simp only [if_neg he]
     refine .c ?_
     rw [hput ⟨m.f4[p].f0,m.f4[p].f1,m.f4[p].f2,m.f4[p].f3,decide (d.f0=3),m.f4[p].f5⟩ hq]
     exact Same2.refl _
   ·rw [if_neg h34]
    refine .n (by rw [hy,dF h34]; decide) ?_
    by_cases h5:d.f0=5
    ·exact .t h5 (j64 true (dT (.inl h5)).symm h34)
    ·refine .n h5 (j64 _ ?_ h34)
     rw [e6,decide_eq_decide]
     exact ⟨.inr,fun q=>q.resolve_left h5⟩
  by_cases h3:d.f0=3
  ·exact .t h3 (j45 true (dT (.inl h3)).symm)
  ·refine .n h3 (j45 _ ?_)
   rw [e4,decide_eq_decide]
   exact ⟨.inr,fun q=>q.resolve_left h3⟩
theorem turned{m:qG}(h:May m){b:Nat}(hb:b≤100000)(hP:Pasts b m)(d:qd)(hd:1≤d.f0∧d.f0≤10):Ht (fun k=>qBW.f k m d) (fun R=>Same2 R (qIN m d)):=by
 unfold qBW.f qIN
 by_cases h1:d.f0=1
 ·rw [if_pos h1]
  exact .t h1 (.b (add h d) (fun a q=>.c q))
 ·rw [if_neg h1]
  refine .n h1 ?_
  by_cases h8:d.f0=8
  ·rw [if_pos h8]
   exact .t h8 (.b (pin h d) (fun a q=>.c q))
  ·rw [if_neg h8]
   refine .n h8 ?_
   by_cases h9:d.f0=9
   ·simp only [if_pos h9]
    exact .c (Same2.refl _)
   ·simp only [if_neg h9]
    by_cases h10:d.f0=10
    ·rw [if_pos h10]
     exact .t h10 (.o (cleaned h d) (.c (Same2.refl _)))
    ·rw [if_neg h10]
     refine .n h10 (.e (at_ h d.f1) ?_)
     rcases foundAt h d.f1 with ⟨hp,q1,q2,q3⟩ | ⟨q2,q3⟩
     ·rw [q3]
      exact .t q2 (.b (node h hb hP d (by omega) hp q1) (fun a q=>.c q))
     ·rw [q3]
      exact .n (by rw [q2]; decide) (.c (err2 m m 5 (by decide)))
theorem qDE{m:qG}{b:Nat}(hP:Pasts b m)(d:qd):Pasts b (qIN m d).1:=by
 have key:∀ x:qG,x.f6=m.f6→Pasts b x:=fun x e t ht=>hP t (e ▸ ht)
 unfold qIN
 split
 ·unfold addL
  split
  ·exact hP
  ·split
   ·exact hP
   ·split
    ·exact key _ rfl
    ·exact hP
 ·split
  ·unfold pinL
   split
   ·split
    ·exact hP
    ·split
     ·exact key _ rfl
     ·exact hP
   ·exact hP
  ·split
   ·exact hP
   ·split
    ·unfold cleanL
     split
     ·split
      ·exact hP
      ·split
       ·exact hP
       ·intro t ht
        rcases List.mem_or_eq_of_mem_set ht with ht | rfl
        ·exact hP t ht
        ·exact Nat.zero_le _
     ·exact hP
    ·split
     ·unfold nodeL
      repeat' split
      all_goals first | exact hP | exact key _ rfl
     ·exact hP
theorem qEy{m:qG}{b:Nat}(hP:Pasts b m)(d:qd):Pasts (b+1) (qIS m d).1:=by
 have hw:Pasts (b+1) m:=fun t ht=>Nat.le_succ_of_le (hP t ht)
 unfold qIS
 split
 ·split
  ·exact hw
  ·split
   ·intro t ht
    have ht:t ∈ qIP m (qIN m d).1:=ht
    unfold qIP at ht
    obtain ⟨i,hi,rfl⟩:=List.mem_mapIdx.1 ht
    have hT:=qDE hP d _ (gM hi)
    unfold followT
    split
    ·omega
    ·show (if m.f2≤((actL m i).length:Int) then _ else _:List qF).length≤_
     split
     ·rw [lA]
      have:=List.length_filter_le (fun s:qF => !decide (s.f1=rising (actL m i))) (qIN m d).1.f6[i].f1
      show _+1≤_
      omega
     ·omega
   ·exact hw
 ·exact hw
def noMap:qG:=⟨0,0,0,0,[],[],[]⟩
theorem apply(m:qG)(hm:Small m)(d:qd){b:Nat}(hb:b≤100000)(hP:Pasts b m):Ev (fun k=>qAk.f k m d) (if May m then qIS m d else (noMap,1)):=by
 unfold qAk.f
 refine .b (check m hm) ?_
 by_cases h:May m
 ·rw [if_pos h,dT h]
  have ho:=own (h.sized hb hP)
  have hf0:=h.1.1
  have j21:∀ y:Bool,(y=true↔¬ ((1≤d.f0∧d.f0≤10)∧bareD d))→Ev (fun k=>qAk.j21 k m d y) (qIS m d):=by
   intro y hy
   refine .s (qAk.j21_s · _ _ _) ?_
   unfold qIS
   by_cases hc:(1≤d.f0∧d.f0≤10)∧bareD d
   ·rw [if_pos hc]
    refine .n (fun e=>hy.1 e hc) ?_
    by_cases he:m.f0=2147483647
    ·rw [if_pos he]
     exact .t he (.b ho (.c _))
    ·rw [if_neg he]
     obtain ⟨R,hR,hs⟩:=turned h hb hP d hc.1
     refine .n he (.b ho (.b hR ?_))
     by_cases h0:(qIN m d).2=0
     ·rw [if_pos h0]
      refine .t (hs.1.trans h0) ?_
      rw [hs.2 h0]
      have hT:=qCn (m:=m) (d:=d)
      refine .b (followed h (qDn h h0) (by omega) hb (qDE hP d)) (.cv ?_)
      rw [hT.1,hT.2.1,hT.2.2.1,hT.2.2.2,qCI (by omega) (by omega)]
     ·rw [if_neg h0]
      exact .n (fun e=>h0 (hs.1.symm.trans e)) (.b ho (.cv (by rw [hs.1])))
   ·rw [if_neg hc]
    exact .t (hy.2 hc) (.b ho (.c _))
  refine .t rfl ?_
  by_cases c1:d.f0<1
  ·exact .t c1 (j21 true ⟨fun _ q=>by omega,fun _=>rfl⟩)
  ·refine .n c1 ?_
   by_cases c2:d.f0≥11
   ·exact .t c2 (j21 true ⟨fun _ q=>by omega,fun _=>rfl⟩)
   ·refine .n c2 (.b0 (bare d) (j21 _ ?_))
    by_cases hb:bareD d
    ·rw [dT hb]
     exact ⟨fun e=>Bool.noConfusion e,fun q=>absurd ⟨⟨by omega,by omega⟩,hb⟩ q⟩
    ·rw [dF hb]
     exact ⟨fun _ q=>hb q.2,fun _=>rfl⟩
 ·rw [if_neg h,dF h]
  exact .n (by decide) (.c _)
theorem qFQ{m:qG}{d:qd}(h:(qIS m d).2=0):(qIN m d).2=0∧(qIS m d).1=⟨m.f0+1,m.f1,m.f2,m.f3,(qIN m d).1.f4,(qIN m d).1.f5,qIP m (qIN m d).1⟩:=by
 unfold qIS at h ⊢
 split at h
 ·rename_i c1
  rw [if_pos c1]
  split at h
  ·exact absurd (show (6:Int)=0 from h) (by decide)
  ·rename_i c2
   rw [if_neg c2]
   split at h
   ·rename_i c3
    rw [if_pos c3]
    exact ⟨c3,rfl⟩
   ·rename_i c3
    exact absurd h c3
 ·exact absurd (show (1:Int)=0 from h) (by decide)
theorem qED{m:qG}(h:May m){d:qd}(ht:(qIN m d).2=0):(qIN m d).1.f6.length=m.f6.length∧∀ g:Nat,¬ (d.f0=10∧d.f5=(g:Int))→nth qC.z (qIN m d).1.f6 (g:Int)=nth qC.z m.f6 (g:Int):=by
 unfold qIN at ht ⊢
 by_cases c1:d.f0=1
 ·rw [if_pos c1]at ht ⊢
  unfold addL
  repeat' split
  all_goals exact ⟨rfl,fun _ _=>rfl⟩
 rw [if_neg c1]at ht ⊢
 by_cases c8:d.f0=8
 ·rw [if_pos c8]at ht ⊢
  unfold pinL
  repeat' split
  all_goals exact ⟨rfl,fun _ _=>rfl⟩
 rw [if_neg c8]at ht ⊢
 by_cases c9:d.f0=9
 ·rw [if_pos c9]
  exact ⟨rfl,fun _ _=>rfl⟩
 rw [if_neg c9]at ht ⊢
 by_cases c10:d.f0=10
 ·rw [if_pos c10]
  unfold cleanL
  by_cases q:0≤d.f5∧d.f5<m.f3
  ·rw [if_pos q]
   split
   ·exact ⟨rfl,fun _ _=>rfl⟩
   ·split
    ·exact ⟨rfl,fun _ _=>rfl⟩
    ·refine ⟨List.length_set,fun g hg=>?_⟩
     have:d.f5.toNat≠g:=fun e=>hg ⟨c10,by omega⟩
     show nth qC.z (m.f6.set d.f5.toNat _) (g:Int)=_
     simp [nth,List.getD_eq_getElem?_getD,List.getElem?_set_ne this]
  ·rw [if_neg q]
   exact ⟨rfl,fun _ _=>rfl⟩
 rw [if_neg c10]
 split
 ·unfold nodeL
  repeat' split
  all_goals exact ⟨rfl,fun _ _=>rfl⟩
 ·exact ⟨rfl,fun _ _=>rfl⟩
def sinceM(m:qG):Int:=(nth qC.z m.f6 0).f0
def pastM(m:qG):List qF:=(nth qC.z m.f6 0).f1
structure Kept (m:qG) (les don:Int→Int) (D:Int):Prop where
 may:May m
 lesB:∀ x,0≤les x∧les x≤sinceM m
 donB:∀ x,0≤don x∧don x≤D
 new:∀ x,les x<sinceM m∨x ∈ actL m 0∨actL m 0=[]
 wit:(∀ x,don x=D)∨∃ s0 R,(∀ x,s0≤les x→don x=D)∧(∀ x ∈ R,s0≤les x)∧((R=rising (actL m 0)∧m.f2≤((actL m 0).length:Int)∧s0≤sinceM m)∨∃ sp ∈ pastM m,s0≤sp.f0∧sp.f1=R)
theorem trail0{m:qG}(h:May m):(0≤sinceM m∧sinceM m≤m.f0)∧∀ s ∈ pastM m,s.f0<sinceM m:=by
 have h3:=h.1.2.2.2.1
 have h6:=h.2.2.1
 have hl:0<m.f6.length:=by omega
 have e:nth qC.z m.f6 0=m.f6[0]:=nth_get _ _ 0 hl
 obtain ⟨q1,q2⟩:=(qCO m _).1 h.2.2.2 _ (gM hl)
 unfold sinceM pastM
 rw [e]
 exact ⟨q1,fun s hs=>(((qBv m _ _ _ _).1 q2).1 s hs).1.1.2⟩
theorem apply0{m:qG}(h:May m){d:qd}(he:(qIS m d).2=0)(hk:d.f0≠10):nth qC.z (qIS m d).1.f6 0=followT (nth qC.z m.f6 0) (actL m 0) (actL (qIS m d).1 0) m.f2 (m.f0+1)∧(qIS m d).1.f2=m.f2:=by
 obtain ⟨ht,hx⟩:=qFQ he
 obtain ⟨s1,s2⟩:=qED h ht
 have h3:=h.1.2.2.2.1
 have h6:=h.2.2.1
 have hf1:=(qCn (m:=m) (d:=d)).2.1
 have hgl:0<(qIN m d).1.f6.length:=by omega
 have e1:actL (qIS m d).1 0=actL (qIN m d).1 0:=by
  rw [hx]
  unfold actL rawL qIQ
  rw [hf1]
 rw [e1,hx]
 refine ⟨?_,rfl⟩
 show nth qC.z (qIP m (qIN m d).1) ((0:Nat):Int)=_
 have hlen:0<(qIP m (qIN m d).1).length:=by unfold qIP; rw [List.length_mapIdx]; exact hgl
 rw [nth_get _ _ _ hlen]
 have e2:=s2 0 (fun e=>hk e.1)
 rw [nth_get _ _ _ hgl]at e2
 show _=followT (nth qC.z m.f6 ((0:Nat):Int)) _ _ _ _
 rw [← e2]
 exact List.getElem_mapIdx
theorem qFh{m:qG}{les don:Int→Int}{D:Int}(h:Kept m les don D){d:qd}(he:(qIS m d).2=0)(hk:d.f0≠10):Kept (qIS m d).1 les don D:=by
 obtain ⟨e,e2⟩:=apply0 h.may he hk
 obtain ⟨⟨t0,t1⟩,tp⟩:=trail0 h.may
 have hmay:=qGi h.may d
 generalize (qIS m d).1=x at e e2 hmay
 unfold followT at e
 by_cases c:actL m 0=actL x 0
 ·rw [if_pos c]at e
  have es:sinceM x=sinceM m:=by unfold sinceM; rw [e]
  have ep:pastM x=pastM m:=by unfold pastM; rw [e]
  refine ⟨hmay,fun y=>by rw [es]; exact h.lesB y,h.donB,fun y=>by rw [es,← c]; exact h.new y,?_⟩
  rw [es,ep,← c,e2]
  exact h.wit
 ·rw [if_neg c]at e
  have es:sinceM x=m.f0+1:=by unfold sinceM; rw [e]
  have ep:pastM x=if m.f2≤((actL m 0).length:Int) then (pastM m).filter (fun s => !decide (s.f1=rising (actL m 0)))++[⟨sinceM m,rising (actL m 0)⟩] else pastM m:=by unfold pastM; rw [e]; rfl
  refine ⟨hmay,fun y=>by rw [es]; have:=h.lesB y; omega,h.donB,fun y=>by rw [es]; have:=h.lesB y; exact .inl (by omega),?_⟩
  rcases h.wit with w | ⟨s0,R,w1,w2,w3⟩
  ·exact .inl w
  refine .inr ⟨s0,R,w1,w2,.inr ?_⟩
  rw [ep]
  rcases w3 with ⟨rfl,q2,q3⟩ | ⟨sp,q1,q2,q3⟩
  ·rw [if_pos q2]
   exact ⟨_,List.mem_append_right _ (List.mem_singleton.2 rfl),q3,rfl⟩
  ·by_cases c2:m.f2≤((actL m 0).length:Int)
   ·rw [if_pos c2]
    by_cases c3:sp.f1=rising (actL m 0)
    ·refine ⟨_,List.mem_append_right _ (List.mem_singleton.2 rfl),?_,?_⟩
     ·have:=tp sp q1
      show s0≤sinceM m
      omega
     ·rw [← q3,c3]
    ·exact ⟨sp,List.mem_append_left _ (List.mem_filter.2 ⟨q1,by simp [c3]⟩),q2,q3⟩
   ·rw [if_neg c2]
    exact ⟨sp,q1,q2,q3⟩
theorem qHX{a b:qJ}(h:Q.bet a b=false):a.f1≤b.f1:=by
 unfold Q.bet at h
 by_cases c:a.f1=b.f1
 ·omega
 ·rw [if_neg c]at h
  have:=of_decide_eq_false h
  omega
theorem qEE:∀(r:List qJ)(x:qJ),(r.foldl Q.pick x ∈ x :: r)∧∀ y ∈ x :: r,y.f1≤(r.foldl Q.pick x).f1
 | [],x=>⟨List.mem_cons_self,fun y hy=>by rw [List.mem_singleton.1 hy]; exact Int.le_refl _⟩
 | z :: r,x=>by
  obtain ⟨h1,h2⟩:=qEE r (Q.pick x z)
  rw [List.foldl_cons]
  have hp:Q.pick x z=z∨Q.pick x z=x:=by
   unfold Q.pick
   split
   ·exact .inl rfl
   ·exact .inr rfl
  have hz:z.f1≤(Q.pick x z).f1∧x.f1≤(Q.pick x z).f1:=by
   unfold Q.pick
   by_cases c:Q.bet z x=true
   ·rw [if_pos c]
    exact ⟨Int.le_refl _,qHX (Q.bet_asym _ _ c)⟩
   ·rw [if_neg c]
    exact ⟨qHX (eq_false_of_ne_true c),Int.le_refl _⟩
  have h0:=h2 _ List.mem_cons_self
  refine ⟨?_,fun y hy=>?_⟩
  ·rcases List.mem_cons.1 h1 with h1 | h1
   ·rw [h1]
    rcases hp with e | e <;> rw [e]
    ·exact List.mem_cons_of_mem _ List.mem_cons_self
    ·exact List.mem_cons_self
   ·exact List.mem_cons_of_mem _ (List.mem_cons_of_mem _ h1)
  ·rcases List.mem_cons.1 hy with rfl | hy
   ·omega
   ·rcases List.mem_cons.1 hy with rfl | hy
    ·omega
    ·exact h2 y (List.mem_cons_of_mem _ hy)
theorem qFR{l:List qJ}{id:Int}(h:toldB l id=true):∃ y ∈ l,y.f0=id:=by
 unfold toldB at h
 obtain ⟨y,hy,e⟩:=List.any_eq_true.1 h
 exact ⟨y,hy,by simpa using e⟩
theorem qGo{m:qG}{les don:Int→Int}{D:Int}(h:Kept m les don D){l:List qJ}(hl:∀ y ∈ l,y.f1=les y.f0)(hs:SoundQ m 0 l)(hr:(decideP m l (actM m 0) (countsP m 0 l)).f0=true):don (decideP m l (actM m 0) (countsP m 0 l)).f1=D∧actL m 0≠[]∧m.f2≤((actL m 0).length:Int):=by
 have ea:actM m 0=actL m 0:=if_pos ⟨hs.1,hs.2.1⟩
 rw [ea]at hr ⊢
 have h2:=h.may.1.2.2.1
 have hr':(readyOf m l (actL m 0)&&(countsP m 0 l).all (fun s=>s.f1.any (toldB l)))=true:=hr
 obtain ⟨r1,r2⟩:=(Bool.and_eq_true _ _).mp hr'
 have r1':(decide (((actL m 0).length:Int)≥m.f2)&&(actL m 0).all (toldB l))=true:=r1
 obtain ⟨r3,r4⟩:=(Bool.and_eq_true _ _).mp r1'
 have r3:=oT r3
 have hne:actL m 0≠[]:=fun e=>by rw [e]at r3; have:((([]:List Int).length:Nat):Int)=0:=rfl; omega
 have tell:∀ x ∈ actL m 0,∃ y ∈ l,y.f0=x:=fun x hx=>qFR (List.all_eq_true.1 r4 x hx)
 obtain ⟨x0,hx0⟩:=List.exists_mem_of_ne_nil _ hne
 obtain ⟨y0,hy0,_⟩:=tell x0 hx0
 have hb:(Q.bestP l).1=Q.bestI l:=by unfold Q.bestP; rw [if_pos ⟨List.length_pos_of_mem hy0,hs.2.2⟩]
 have hmax:Q.bestI l ∈ l∧∀ y ∈ l,y.f1≤(Q.bestI l).f1:=by
  cases l with
  | nil=>cases hy0
  | cons x r=>exact qEE r x
 refine ⟨?_,hne,r3⟩
 show don (authOf l (readyOf m l (actL m 0)&&(countsP m 0 l).all (fun s=>s.f1.any (toldB l))))=D
 rw [hr']
 show don (Q.bestP l).1.f0=D
 rw [hb]
 rcases h.wit with w | ⟨s0,R,w1,w2,w3⟩
 ·exact w _
 refine w1 _ ?_
 rw [← hl _ hmax.1]
 refine Classical.byContradiction fun hn=>?_
 have low:∀ y ∈ l,y.f1<s0:=fun y hy=>by have:=hmax.2 y hy; omega
 rcases w3 with ⟨rfl,q2,q3⟩ | ⟨sp,q1,q2,q3⟩
 ·have h1:=w2 x0 ((qCY _ _).2 hx0)
  obtain ⟨y,hy,e⟩:=tell x0 hx0
  have:=low y hy
  rw [hl y hy,e]at this
  omega
 ·have hc:sp ∈ countsP m 0 l:=by
   unfold countsP
   rw [if_pos hs]
   unfold spansFrom lesOf
   rw [hb]
   exact List.mem_filter.2 ⟨q1,dT (by omega)⟩
  obtain ⟨x,hx,ht⟩:=List.any_eq_true.1 (List.all_eq_true.1 r2 sp hc)
  obtain ⟨y,hy,e⟩:=qFR ht
  have h1:=w2 x (q3 ▸ hx)
  have:=low y hy
  rw [hl y hy,e]at this
  omega
theorem qFi{m:qG}{les don les' don':Int→Int}{D:Int}(h:Kept m les don D)(hne:actL m 0≠[])(h1:∀ x,x ∉ actL m 0→les' x=les x∧don' x=don x)(h2:∀ x ∈ actL m 0,(les' x=les x∨les' x=sinceM m)∧don' x=D)(hD:0≤D):Kept m les' don' D:=by
 have up:∀ x,les x≤les' x∧les' x≤sinceM m:=fun x=>by
  have:=h.lesB x
  by_cases c:x ∈ actL m 0
  ·rcases (h2 x c).1 with e | e <;> omega
  ·rw [(h1 x c).1]; omega
 refine ⟨h.may,fun x=>⟨Int.le_trans (h.lesB x).1 (up x).1,(up x).2⟩,fun x=>?_,fun x=>?_,?_⟩
 ·by_cases c:x ∈ actL m 0
  ·rw [(h2 x c).2]; omega
  ·rw [(h1 x c).2]; exact h.donB x
 ·by_cases c:x ∈ actL m 0
  ·exact .inr (.inl c)
  ·rw [(h1 x c).1]; exact h.new x
 ·rcases h.wit with w | ⟨s0,R,w1,w2,w3⟩
  ·refine .inl fun x=>?_
   by_cases c:x ∈ actL m 0
   ·exact (h2 x c).2
   ·rw [(h1 x c).2]; exact w x
  ·refine .inr ⟨s0,R,fun x hx=>?_,fun x hx=>Int.le_trans (w2 x hx) (up x).1,w3⟩
   by_cases c:x ∈ actL m 0
   ·exact (h2 x c).2
   ·rw [(h1 x c).1]at hx
    rw [(h1 x c).2]; exact w1 x hx
theorem qGp{m:qG}{les don les' don':Int→Int}{D:Int}(h:Kept m les don D)(hne:actL m 0≠[])(hmin:m.f2≤((actL m 0).length:Int))(h1:∀ x,x ∉ actL m 0→les' x=les x∧don' x=don x)(h2:∀ x ∈ actL m 0,les' x=sinceM m∧don' x=D+1)(hD:0≤D):Kept m les' don' (D+1):=by
 have hs:=(trail0 h.may).1
 refine ⟨h.may,fun x=>?_,fun x=>?_,fun x=>?_,.inr ⟨sinceM m,rising (actL m 0),fun x hx=>?_,fun x hx=>?_,.inl ⟨rfl,hmin,Int.le_refl _⟩⟩⟩
 ·by_cases c:x ∈ actL m 0
  ·rw [(h2 x c).1]; omega
  ·rw [(h1 x c).1]; exact h.lesB x
 ·by_cases c:x ∈ actL m 0
  ·rw [(h2 x c).2]; omega
  ·rw [(h1 x c).2]; have:=h.donB x; omega
 ·by_cases c:x ∈ actL m 0
  ·exact .inr (.inl c)
  ·rw [(h1 x c).1]; exact h.new x
 ·by_cases c:x ∈ actL m 0
  ·exact (h2 x c).2
  ·rw [(h1 x c).1]at hx
   rcases h.new x with q | q | q
   ·omega
   ·exact absurd q c
   ·exact absurd q hne
 ·exact Int.le_of_eq (h2 x ((qCY _ _).1 hx)).1.symm
theorem qGq{m:qG}(h:May m)(ha:actL m 0=[]):Kept m (fun _=>0) (fun _=>0) 0 :=
 ⟨h,fun _=>⟨Int.le_refl _,(trail0 h).1.1⟩,fun _=>⟨Int.le_refl _,Int.le_refl _⟩,fun _=>.inr (.inr ha),.inl fun _=>rfl⟩
abbrev KK:=qK
def lesK(nd:List (Int × KK))(x:Int):Int:=(mget qK.z nd x).f0
def donK(nd:List (Int × KK))(x:Int):Int:=(mget qK.z nd x).f1
theorem qDG(nd:List (Int × KK))(k:Int)(v:KK)(x:Int):lesK ((k,v) :: nd) x=if k=x then v.f0 else lesK nd x:=by
 unfold lesK
 rw [qDu]
 split <;> rfl
theorem qDH(nd:List (Int × KK))(k:Int)(v:KK)(x:Int):donK ((k,v) :: nd) x=if k=x then v.f1 else donK nd x:=by
 unfold donK
 rw [qDu]
 split <;> rfl
theorem sized9{m:qG}(h:May m){b:Nat}(hb:b≤90)(hP:Pasts b m):Lit9 m :=
 ⟨(h.sized (by omega) hP).small,fun t ht=>by have:=hP t ht; omega,fun t ht s hs=>by have:=qCx h t ht s hs; omega⟩
theorem qEZ{m:qG}(h:May m):∀ x ∈ actM m 0,1≤x∧x≤999:=by
 have h3:=h.1.2.2.2.1
 intro x hx
 rw [show actM m 0=actL m 0 from if_pos ⟨h,Int.le_refl _,by omega⟩]at hx
 obtain ⟨n,hn,e⟩:=(qDo h 0).2.2 x hx
 have:=h.1.2.2.2.2.ok n hn
 unfold Topo.okN at this
 omega
def infoK(nd:List (Int × KK))(id:Int):qJ:=⟨id,lesK nd id,0,donK nd id,0⟩
theorem qEa(nd:List (Int × KK))(hn:∀ x,(0≤lesK nd x∧lesK nd x≤2147483647)∧0≤donK nd x∧donK nd x≤2147483647):∀(ids done:List Int),(∀ x ∈ ids,1≤x∧x≤9)→(done++ids).Nodup→Q.mayG (done.map (infoK nd)) (ids.map (infoK nd))=true
 | [],_,_,_=>rfl
 | id :: r,done,h,hd=>by
  have h1:=h id List.mem_cons_self
  have h2:=hn id
  rw [List.map_cons,Q.mayG]
  have hno:((done.map (infoK nd)).any fun y=>y.f0 == (infoK nd id).f0)=false:=by
   rw [List.any_eq_false]
   intro y hy
   obtain ⟨x,hx,rfl⟩:=List.mem_map.1 hy
   have:x≠id:=by
    intro e
    subst e
    exact (List.nodup_append.1 hd).2.2 x hx x List.mem_cons_self rfl
   show ¬ (x == id)=true
   rw [beq_iff_eq]
   exact this
  have hgood:Q.goodI (infoK nd id)=true:=by
   unfold Q.goodI
   refine dT ⟨?_,?_,?_,?_,?_⟩
   ·show 1≤id∧id≤999
    omega
   ·exact h2.1
   ·exact ⟨Int.le_refl _,(by decide:(0:Int)≤2147483647)⟩
   ·exact h2.2
   ·exact ⟨Int.le_refl _,h2.2.1⟩
  have e:done.map (infoK nd)++[infoK nd id]=(done++[id]).map (infoK nd):=by rw [List.map_append]; rfl
  rw [if_pos ⟨hgood,hno⟩,e]
  exact qEa nd hn r (done++[id]) (fun x hx=>h x (List.mem_cons_of_mem _ hx)) (by rw [List.append_assoc]; exact hd)
theorem awake(k:Nat):qAX.f (k+3000)=some true:=by kernel_rfl
theorem awakes:Ev (fun k=>qAX.f k) true:=⟨3000,fun k hk=>by
 obtain ⟨k,rfl⟩:∃ m,k=m+3000:=⟨k - 3000,by omega⟩
 exact awake k⟩
theorem started(l:List qd)(hl:l.length≤60)(hd:∀ d ∈ l,d.f6.length≤20)(z:List Int)(hz:∀ x ∈ z,0≤x∧x≤255):∀(n i:Nat),i+n=l.length→∀(m:qG)(nd:List (Int × KK))(D:Nat),Kept m (lesK nd) (donK nd) (D:Int)→Pasts (20+i) m→D≤i→nd.length≤10 * i→m.f0≤100000+(i:Int)→Ev (fun k=>qD.l105 k l z (D:Int) (i:Int) nd m.f0 m.f1 m.f2 m.f3 m.f4 m.f5 m.f6) true:=by
 intro n
 induction n with
 | zero =>
  intro i hi m nd D hK hP hD hnl h0
  exact .s (qD.l105_s · _ _ _ _ _ _ _ _ _ _ _ _) (.n (by omega) (.b awakes (.c _)))
 | succ n ih =>
  intro i hi m nd D hK hP hD hnl h0
  have h1:i<l.length:=by omega
  have ih:=ih (i+1) (by omega)
  have hm:=hK.may
  have h9:=sized9 hm (by omega) hP
  have skip:Ev (fun k=>qD.j152 k l z (D:Int) (i:Int) nd m.f0 m.f1 m.f2 m.f3 m.f4 m.f5 m.f6 (qIS m l[i]) true) true:=by
   refine .s (qD.j152_s · _ _ _ _ _ _ _ _ _ _ _ _ _ _) (.t rfl ?_)
   rw [w64n i (by omega)]
   exact ih m nd D hK (fun t ht=>by have:=hP t ht; omega) (by omega) (by omega) (by omega)
  refine .s (qD.l105_s · _ _ _ _ _ _ _ _ _ _ _ _) (.t (by omega) (.t (by omega) ?_))
  rw [nth_get _ _ _ h1]
  have hap:Ev (fun k=>qAk.f k (⟨m.f0,m.f1,m.f2,m.f3,m.f4,m.f5,m.f6⟩:qG) l[i]) (qIS m l[i]):=by
   have:=apply m h9.small l[i] (by omega) hP
   rwa [if_pos hm]at this
  refine .b hap ?_
  by_cases he:(qIS m l[i]).2=0
  rotate_left
  ·exact .n he skip
  refine .t he ?_
  by_cases hk:l[i].f0=10
  ·rw [show (l[i].f0 == 10)=true from beq_iff_eq.2 hk]
   exact skip
  rw [show (l[i].f0 == 10)=false from beq_eq_false_iff_ne.2 hk]
  have hX:=qFh hK he hk
  have hPx:Pasts (20+(i+1)) (qIS m l[i]).1:=qEy hP l[i]
  have h0x:(qIS m l[i]).1.f0≤100000+((i+1:Nat):Int):=by rw [(qFQ he).2]; show m.f0+1≤_; omega
  generalize qIS m l[i]=t at he hX hPx h0x ⊢
  have hmx:=hX.may
  have h9x:=sized9 hmx (by omega) hPx
  have h3:=hmx.1.2.2.2.1
  have ea:actM t.1 0=actL t.1 0:=if_pos ⟨hmx,Int.le_refl _,by omega⟩
  have hsn:=(trail0 hmx).1
  refine .s (qD.j152_s · _ _ _ _ _ _ _ _ _ _ _ _ _ _) (.n nF ?_)
  have j170:∀ b:Int,0≤b→b≤255→Ev (fun k=>qD.j170 k l z (D:Int) (i:Int) nd t b) true:=by
   intro b hb hb2
   refine .s (qD.j170_s · _ _ _ _ _ _ _) ?_
   have next:∀(nd':List (Int × KK))(D':Nat),Kept t.1 (lesK nd') (donK nd') (D':Int)→D'≤i+1→nd'.length≤10 * (i+1)→Ev (fun k=>qD.l105 k l z (D':Int) (w64 ((i:Int)+1)) nd' t.1.f0 t.1.f1 t.1.f2 t.1.f3 t.1.f4 t.1.f5 t.1.f6) true:=by
    intro nd' D' hK' hD' hl'
    rw [w64n i (by omega)]
    exact ih t.1 nd' D' hK' hPx hD' hl' h0x
   have more:actL t.1 0≠[]→t.1.f2≤((actL t.1 0).length:Int)→∀(nd1:List (Int × KK)),Kept t.1 (lesK nd1) (donK nd1) (D:Int)→nd1.length≤10 * i+3→∀(d j:Nat)(nd2:List (Int × KK)),j+d=(actM t.1 0).length→nd2.length≤10 * i+3+j →
     (∀ x,x ∉ (actM t.1 0).take j→lesK nd2 x=lesK nd1 x∧donK nd2 x=donK nd1 x)→(∀ x ∈ (actM t.1 0).take j,lesK nd2 x=sinceM t.1∧donK nd2 x=(D:Int)+1)→Ev (fun k=>qD.l329 k l z (D:Int) (i:Int) t (actM t.1 0) (j:Int) nd2) true:=by
    intro hne hmin nd1 hK1 hl1 d
    induction d with
    | zero =>
     intro j nd2 hj hl2 q1 q2
     rw [List.take_of_length_le (by omega),ea]at q1 q2
     refine .s (qD.l329_s · _ _ _ _ _ _ _ _) (.n (by omega) ?_)
     rw [w64n D (by omega)]
     have a3:=qDZ hmx 0
     exact next nd2 (D+1) (qGp hK1 hne hmin q1 q2 (by omega)) (by omega) (by omega)
    | succ d ihd =>
     intro j nd2 hj hl2 q1 q2
     have hj1:j<(actM t.1 0).length:=by omega
     have a3:=qDZ hmx 0
     have hb9:=qEZ hmx _ (gM hj1)
     refine .s (qD.l329_s · _ _ _ _ _ _ _ _) (.t (by omega) (.t (by omega) ?_))
     rw [nth_get _ _ _ hj1,w64n j (by omega),w64n D (by omega)]
     refine .t ⟨by omega,by omega,by omega⟩ (ihd (j+1) _ (by omega) (by rw [List.length_cons]; omega) (fun x hx=>?_) (fun x hx=>?_))
     ·rw [← List.take_append_getElem hj1,List.mem_append,List.mem_singleton]at hx
      rw [qDG,qDH,if_neg (fun e=>hx (.inr e.symm)),if_neg (fun e=>hx (.inr e.symm))]
      exact q1 x (fun e=>hx (.inl e))
     ·rw [← List.take_append_getElem hj1,List.mem_append,List.mem_singleton]at hx
      rw [qDG,qDH]
      by_cases c:(actM t.1 0)[j]=x
      ·rw [if_pos c,if_pos c]
       exact ⟨rfl,rfl⟩
      ·rw [if_neg c,if_neg c]
       rcases hx with hx | hx
       ·exact q2 x hx
       ·exact absurd hx.symm c
   have start:actL t.1 0≠[]→t.1.f2≤((actL t.1 0).length:Int)→∀(d j:Nat)(nd1:List (Int × KK)),j+d=(actM t.1 0).length→nd1.length≤10 * i+j →
     (∀ x,x ∉ (actM t.1 0).take j→lesK nd1 x=lesK nd x∧donK nd1 x=donK nd x)→(∀ x ∈ (actM t.1 0).take j,(lesK nd1 x=lesK nd x∨lesK nd1 x=sinceM t.1)∧donK nd1 x=(D:Int))→Ev (fun k=>qD.l279 k l z (D:Int) (i:Int) t b (actM t.1 0) (j:Int) nd1) true:=by
    intro hne hmin d
    induction d with
    | zero =>
     intro j nd1 hj hl1 q1 q2
     rw [List.take_of_length_le (by omega),ea]at q1 q2
     have a3:=qDZ hmx 0
     have hK1:=qFi hX hne q1 q2 (by omega)
     refine .s (qD.l279_s · _ _ _ _ _ _ _ _ _) (.n (by omega) (.i (fun _=>?_) (fun _=>?_)))
     ·refine more hne hmin nd1 hK1 (by omega) _ 0 nd1 (Nat.zero_add _) (by omega) (fun x _=>⟨rfl,rfl⟩) (fun x hx=>?_)
      rw [List.take_zero]at hx
      cases hx
     ·exact next nd1 D hK1 (by omega) (by omega)
    | succ d ihd =>
     intro j nd1 hj hl1 q1 q2
     have hj1:j<(actM t.1 0).length:=by omega
     have a3:=qDZ hmx 0
     have hb9:=qEZ hmx _ (gM hj1)
     have hnt:¬ (actM t.1 0)[j] ∈ (actM t.1 0).take j:=by
      have hnd:(actM t.1 0).Nodup:=by rw [ea]; exact (qDo hmx 0).1
      rw [← List.take_append_drop j (actM t.1 0),List.drop_eq_getElem_cons hj1]at hnd
      exact fun hc=>(List.nodup_append.1 hnd).2.2 _ hc _ List.mem_cons_self rfl
     have old:=(q1 _ hnt).1
     have j312:∀ y:Int,(y=lesK nd (actM t.1 0)[j]∨y=sinceM t.1)→Ev (fun k=>qD.j312 k l z (D:Int) (i:Int) t b (actM t.1 0) (j:Int) nd1 y) true:=by
      intro y hy
      refine .s (qD.j312_s · _ _ _ _ _ _ _ _ _ _) ?_
      rw [nth_get _ _ _ hj1,w64n j (by omega)]
      refine .t ⟨by omega,by omega,by omega⟩ (ihd (j+1) _ (by omega) (by rw [List.length_cons]; omega) (fun x hx=>?_) (fun x hx=>?_))
      ·rw [← List.take_append_getElem hj1,List.mem_append,List.mem_singleton]at hx
       rw [qDG,qDH,if_neg (fun e=>hx (.inr e.symm)),if_neg (fun e=>hx (.inr e.symm))]
       exact q1 x (fun e=>hx (.inl e))
      ·rw [← List.take_append_getElem hj1,List.mem_append,List.mem_singleton]at hx
       rw [qDG,qDH]
       by_cases c:(actM t.1 0)[j]=x
       ·rw [if_pos c,if_pos c,← c]
        exact ⟨hy,rfl⟩
       ·rw [if_neg c,if_neg c]
        rcases hx with hx | hx
        ·exact q2 x hx
        ·exact absurd hx.symm c
     have j304:∀ y:Bool,Ev (fun k=>qD.j304 k l z (D:Int) (i:Int) t b (actM t.1 0) (j:Int) nd1 y) true:=by
      intro y
      refine .s (qD.j304_s · _ _ _ _ _ _ _ _ _ _) (.i (fun _=>j312 _ (.inr rfl)) (fun _=>j312 _ (.inl ?_)))
      rw [nth_get _ _ _ hj1]
      exact old
     refine .s (qD.l279_s · _ _ _ _ _ _ _ _ _) (.t (by omega) (.t (by omega) (.t ?_ (.i (fun _=>j304 _) (fun _=>j304 _)))))
     rw [nth_get _ _ _ hj1]
     omega
   have infos:∀(d g:Nat)(ids:List Int),g+d=10→1≤g→(∀ x ∈ ids,1≤x∧x<(g:Int))→ids.Nodup→ids.length<g→Ev (fun k=>qD.l187 k l z (D:Int) (i:Int) nd t b (ids.map (infoK nd)) (g:Int)) true:=by
    intro d
    induction d with
    | zero =>
     intro g ids hg hg1 hx hn hlen
     have hll:(ids.map (infoK nd)).length<1000000:=by rw [List.length_map]; omega
     have hmi:Q.mayI (ids.map (infoK nd))=true:=by
      unfold Q.mayI
      rw [Bool.and_eq_true]
      refine ⟨qEa nd (fun x=>?_) ids [] (fun x hxx=>by have:=hx x hxx; omega) hn,dT (by rw [List.length_map]; omega)⟩
      have q1:=hX.lesB x
      have q2:=hX.donB x
      omega
     have hso:SoundQ t.1 0 (ids.map (infoK nd)):=⟨hmx,⟨Int.le_refl _,by omega⟩,hmi⟩
     have hdec:=qIA t.1 h9x 0 (ids.map (infoK nd)) hll
     rw [if_pos hso]at hdec
     refine .s (qD.l187_s · _ _ _ _ _ _ _ _ _) (.n (by omega) (.b hdec (.t rfl (.i (fun hr=>?_) (fun hr=>?_)))))
     ·obtain ⟨b1,b2,b3⟩:=qGo hX (l:=ids.map (infoK nd)) (fun y hy=>by obtain ⟨x,_,rfl⟩:=List.mem_map.1 hy; rfl) hso hr
      have hau : -9223372036854775808≤(decideP t.1 (ids.map (infoK nd)) (actM t.1 0) (countsP t.1 0 (ids.map (infoK nd)))).f1∧(decideP t.1 (ids.map (infoK nd)) (actM t.1 0) (countsP t.1 0 (ids.map (infoK nd)))).f1≤9223372036854775807:=by
       show -9223372036854775808≤authOf _ _∧authOf _ _≤9223372036854775807
       unfold authOf
       split
       ·unfold Q.bestP
        split
        ·rename_i c
         have hmax:Q.bestI (ids.map (infoK nd)) ∈ ids.map (infoK nd):=by
          cases he2:ids.map (infoK nd) with
          | nil=>rw [he2]at c; exact absurd c.1 (Nat.lt_irrefl 0)
          | cons x r=>exact (qEE r x).1
         obtain ⟨x,hxx,e⟩:=List.mem_map.1 hmax
         rw [← e]
         have:=hx x hxx
         show -9223372036854775808≤x∧x≤9223372036854775807
         omega
        ·exact ⟨by decide,by decide⟩
       ·exact ⟨by decide,by decide⟩
      refine .t hau (.t b1 (.t ⟨Int.le_refl _,?_⟩ (.b (mActing t.1 h9x.small 0) (start b2 b3 _ 0 nd (Nat.zero_add _) (by omega) (fun x _=>⟨rfl,rfl⟩) (fun x hxx=>?_)))))
      ·have:=hmx.2.2.1
       omega
      ·rw [List.take_zero]at hxx
       cases hxx
     ·exact next nd D hX (by omega) (by omega)
    | succ d ihd =>
     intro g ids hg hg1 hx hn hlen
     have j202:∀ y:Bool,Ev (fun k=>qD.j202 k l z (D:Int) (i:Int) nd t b (ids.map (infoK nd)) (g:Int) y) true:=by
      intro y
      refine .s (qD.j202_s · _ _ _ _ _ _ _ _ _ _) ?_
      rw [w64n g (by omega)]
      cases y with
      | true =>
       refine .t rfl (.t ⟨by omega,by omega⟩ (.t (by rw [List.length_map]; omega) ?_))
       have hg':=ihd (g+1) (ids++[(g:Int)]) (by omega) (by omega) (fun x hxx=>by
        rcases List.mem_append.1 hxx with h | h
        ·have:=hx x h; omega
        ·rw [List.mem_singleton.1 h]; omega) (by
        rw [List.nodup_append]
        refine ⟨hn,by simp,fun a ha b hb e=>?_⟩
        have:=hx a ha
        rw [List.mem_singleton.1 hb]at e
        omega) (by rw [lA,List.length_singleton]; omega)
       rw [List.map_append]at hg'
       exact hg'
      | false=>exact .n nF (ihd (g+1) ids (by omega) (by omega) (fun x hxx=>by have:=hx x hxx; omega) hn (by omega))
     refine .s (qD.l187_s · _ _ _ _ _ _ _ _ _) (.t (by omega) (.b (rup h9x.small _) (.i (fun _=>.t ?_ (j202 _)) (fun _=>j202 _))))
     have e:((g:Int)).tmod 7=((g % 7:Nat):Int):=rfl
     rw [e]
     have h7:g % 7<7:=Nat.mod_lt _ (by decide)
     generalize g % 7=r at h7
     have:r=0∨r=1∨r=2∨r=3∨r=4∨r=5∨r=6:=by omega
     rcases this with rfl | rfl | rfl | rfl | rfl | rfl | rfl <;> decide
   exact infos 9 1 [] rfl (Nat.le_refl 1) (fun _ h=>nomatch h) List.nodup_nil (by decide)
  refine .i (fun c=>.t ⟨by omega,c⟩ ?_) (fun _=>j170 0 (Int.le_refl _) (by decide))
  have hzi:i<z.length:=by omega
  rw [nth_get _ _ _ hzi]
  have:=hz _ (gM hzi)
  rw [qCI (by omega) (by omega)]
  exact j170 _ this.1 this.2
end Maps
open Maps in
theorem pureQuorumKeeps:PureQuorumKeeps:=by
 intro m l z _ _ hz
 refine Ev.one (f:=fun k=>qD.f k m l z) (v:=true) ?_
 have aw:Ev (fun k=>(qAX.f k).bind fun t=>some t) true:=.b awakes (.c _)
 have out:Ev (fun k=>qD.j19 k m l z true) true:=.s (qD.j19_s · _ _ _ _) (.t rfl aw)
 have hz0:∀ x ∈ z,0≤x∧x≤255:=fun x hx=>by
  have h:=hz.2 x hx
  rw [Lit.wf,Bool.and_eq_true]at h
  exact ⟨oT h.1,oT h.2⟩
 unfold qD.f
 obtain ⟨b,hb,hL⟩:=Maps.light m
 refine .b hb ?_
 cases b with
 | false=>exact .n nF out
 | true =>
  have h8:=hL rfl
  obtain ⟨b2,hb2,hD⟩:=Maps.deltasG l
  refine .t rfl (.b hb2 ?_)
  cases b2 with
  | false=>exact .n nF out
  | true =>
   obtain ⟨hl60,hld⟩:=hD rfl
   refine .t rfl (.b (may m h8.small) ?_)
   by_cases h:May m
   rotate_left
   ·rw [dF h]
    exact .n nF out
   rw [dT h]
   refine .t rfl ?_
   by_cases he:m.f0>100000
   ·rw [dT he]
    exact out
   rw [dF he]
   refine .s (qD.j19_s · _ _ _ _) (.n nF ?_)
   have h3:=h.1.2.2.2.1
   have h6:=h.2.2.1
   have fin:Ev (fun k=>(qBD.f k m 0).bind fun t57=>(if (t57.length:Int)>0 then ((qAX.f k).bind fun t67=>(some t67)) else (if ((([]:List qC).length:Int)+(m.f6.length:Int)) * 32≤140737488355328 then (qD.l105 k l z 0 0 [] m.f0 m.f1 m.f2 m.f3 m.f4 m.f5 (([]:List qC)++m.f6)) else (none)))) true:=by
    refine .b (mActing m h8.small 0) (.i (fun _=>aw) (fun ha=>.t (by rw [List.length_nil]; omega) ?_))
    have ea:actM m 0=actL m 0:=if_pos ⟨h,Int.le_refl _,by omega⟩
    rw [ea]at ha
    exact started l hl60 hld z hz0 l.length 0 (Nat.zero_add _) m [] 0 (qGq h (List.length_eq_zero_iff.1 (by omega))) (show Pasts 20 m from h8.hp) (Nat.le_refl _) (Nat.le_refl _) (by omega)
   have loop:∀(d i:Nat),i+d=m.f6.length→Ev (fun k=>qD.l32 k m l z (i:Int)) true:=by
    intro d
    induction d with
    | zero =>
     intro i hi
     exact .s (qD.l32_s · _ _ _ _) (.n (by omega) fin)
    | succ d ih =>
     intro i hi
     refine .s (qD.l32_s · _ _ _ _) (.t (by omega) (.t (by omega) (.i (fun _=>aw) (fun _=>?_))))
     rw [w64n i (by omega)]
     exact ih (i+1) (by omega)
   exact loop m.f6.length 0 (Nat.zero_add _)
end Go.Proofs.YtpohepinmjmbkaaGreat.QK
