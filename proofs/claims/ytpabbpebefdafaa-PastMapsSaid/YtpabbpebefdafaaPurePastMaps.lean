import Derived.Lib.EndianBits
import Derived.Test.YtpabbpebefdafaaPMoPastMaps
namespace Go.Proofs.Ytpabbpebefdafaa.PM
open Go Go.RowKit Go.Proofs.Ytpabbpebefdafaa.Sl
set_option linter.unusedVariables false
set_option linter.unusedSimpArgs false
theorem dT{p:Prop}[Decidable p](h:p):decide p=true:=_root_.decide_eq_true h
theorem dF{p:Prop}[Decidable p](h:¬ p):decide p=false:=_root_.decide_eq_false h
theorem gM{α : Type}{l:List α}{n:Nat}(h:n<l.length):l[n] ∈ l:=List.getElem_mem h
theorem lA{α : Type}{a b:List α}: (a++b).length=a.length+b.length:=List.length_append
theorem w64n(i:Nat)(h:i<9223372036854775807):w64 ((i:Int)+1)=((i+1:Nat):Int):=by rw [qBW (by omega) (by omega)]; omega
theorem w64p(i:Nat)(h:i<9223372036854775807)(h0:0<i):w64 ((i:Int) - 1)=((i - 1:Nat):Int):=by rw [qBW (by omega) (by omega)]; omega
theorem qAK{α : Type}(z : α)(l:List α)(i:Nat)(h:i<l.length):nth z l (i:Int)=l[i]:=by simp [nth,h]
def Ev{β : Type}(f:Nat→Option β)(v : β):Prop:=∃ K,∀ k,K≤k→f k=some v
theorem Ev.c{β : Type}(v : β):Ev (fun _=>some v) v:=⟨0,fun _ _=>rfl⟩
theorem Ev.cv{β : Type}{v w : β}(h:v=w):Ev (fun _=>some v) w:=⟨0,fun _ _=>congrArg some h⟩
theorem Ev.v{β : Type}{f:Nat→Option β}{v w : β}(h:Ev f v)(e:v=w):Ev f w:=e ▸ h
theorem Ev.s{β : Type}{f g:Nat→Option β}{v : β}(h:∀ k,f (k+1)=g k)(hg:Ev g v):Ev f v:=by
 obtain ⟨K,hK⟩:=hg
 refine ⟨K+1,fun k hk=>?_⟩
 obtain ⟨k,rfl⟩:∃ m,k=m+1:=⟨k - 1,by omega⟩
 rw [h]
 exact hK k (by omega)
theorem Ev.b{α β : Type}{f:Nat→Option α}{g:Nat→α→Option β}{a : α}{v : β}(hf:Ev f a)(hg:Ev (fun k=>g k a) v):Ev (fun k=>(f k).bind (g k)) v:=by
 obtain ⟨K,hK⟩:=hf
 obtain ⟨L,hL⟩:=hg
 refine ⟨K+L,fun k hk=>?_⟩
 show (f k).bind (g k)=some v
 rw [hK k (by omega),Option.bind_some]
 exact hL k (by omega)
theorem Ev.b0{α β : Type}{o:Option α}{g:Nat→α→Option β}{a : α}{v : β}(ho:o=some a)(hg:Ev (fun k=>g k a) v):Ev (fun k=>o.bind (g k)) v:=Ev.b ⟨0,fun _ _=>ho⟩ hg
theorem Ev.i{β : Type}{c:Prop}[Decidable c]{f g:Nat→Option β}{v : β}(hf:c→Ev f v)(hg:¬ c→Ev g v):Ev (fun k=>if c then f k else g k) v:=by
 by_cases h:c
 ·simpa only [if_pos h] using hf h
 ·simpa only [if_neg h] using hg h
theorem Ev.t{β : Type}{c:Prop}[Decidable c]{f g:Nat→Option β}{v : β}(h:c)(hf:Ev f v):Ev (fun k=>if c then f k else g k) v:=Ev.i (fun _=>hf) (fun n=>absurd h n)
theorem Ev.n{β : Type}{c:Prop}[Decidable c]{f g:Nat→Option β}{v : β}(h:¬ c)(hg:Ev g v):Ev (fun k=>if c then f k else g k) v:=Ev.i (fun n=>absurd n h) (fun _=>hg)
theorem Ev.one{α : Type}{f:Nat→Option α}{v : α}(hf:Ev f v):∃ k,f k=some v:=by
 obtain ⟨K,hK⟩:=hf
 exact ⟨K,hK _ (by omega)⟩
def eno:Bool→Int
 | true=>0
 | false=>1
def Ht{β : Type}(f:Nat→Option β)(P : β→Prop):Prop:=∃ v,Ev f v∧P v
theorem Ht.c{β : Type}{v : β}{P : β→Prop}(h:P v):Ht (fun _=>some v) P:=⟨v,.c v,h⟩
theorem Ht.s{β : Type}{f g:Nat→Option β}{P : β→Prop}(h:∀ k,f (k+1)=g k):Ht g P→Ht f P:=fun ⟨v,e,p⟩=>⟨v,.s h e,p⟩
theorem Ht.b{α β : Type}{f:Nat→Option α}{g:Nat→α→Option β}{Q : α→Prop}{P : β→Prop}: Ht f Q→(∀ a,Q a→Ht (fun k=>g k a) P)→Ht (fun k=>(f k).bind (g k)) P:=fun ⟨a,e,q⟩ h=>by
 obtain ⟨v,e2,p⟩:=h a q
 exact ⟨v,.b e e2,p⟩
theorem Ht.e{α β : Type}{f:Nat→Option α}{g:Nat→α→Option β}{a : α}{P : β→Prop}(e:Ev f a):Ht (fun k=>g k a) P→Ht (fun k=>(f k).bind (g k)) P:=fun ⟨v,e2,p⟩=>⟨v,.b e e2,p⟩
theorem Ht.o{α β : Type}{o:Option α}{g:Nat→α→Option β}{a : α}{P : β→Prop}(e:o=some a):Ht (fun k=>g k a) P→Ht (fun k=>o.bind (g k)) P:=fun ⟨v,e2,p⟩=>⟨v,.b0 e e2,p⟩
theorem Ht.i{β : Type}{c:Prop}[Decidable c]{f g:Nat→Option β}{P : β→Prop}(hf:c→Ht f P)(hg:¬ c→Ht g P):Ht (fun k=>if c then f k else g k) P:=by
 by_cases h:c
 ·simpa only [if_pos h] using hf h
 ·simpa only [if_neg h] using hg h
theorem Ht.t{β : Type}{c:Prop}[Decidable c]{f g:Nat→Option β}{P : β→Prop}(h:c)(hf:Ht f P):Ht (fun k=>if c then f k else g k) P:=.i (fun _=>hf) (fun n=>absurd h n)
theorem Ht.n{β : Type}{c:Prop}[Decidable c]{f g:Nat→Option β}{P : β→Prop}(h:¬ c)(hg:Ht g P):Ht (fun k=>if c then f k else g k) P:=.i (fun n=>absurd n h) (fun _=>hg)
theorem Ht.m{β : Type}{f:Nat→Option β}{P Q : β→Prop}(h:∀ v,P v→Q v):Ht f P→Ht f Q:=fun ⟨v,e,p⟩=>⟨v,e,h v p⟩
namespace Topo
theorem tin(x a b:Int):qAA.f x a b=some (decide (a≤x∧x≤b)):=by
 unfold qAA.f
 by_cases h:x≥a
 ·rw [if_pos h]
  congr 1
  simp only [decide_eq_decide]
  omega
 ·rw [if_neg h,dF (by omega)]
def okN(n:qA):Prop:=(1≤n.f0∧n.f0≤999)∧(1≤n.f1∧n.f1≤9)∧(1≤n.f2∧n.f2≤9)∧0≤n.f3∧n.f3≤65536
instance (n:qA):Decidable (okN n):=inferInstanceAs (Decidable (_∧_))
def rise:Int→List qA→Bool
 | _,[]=>true
 | p,n :: l=>decide (okN n∧p<n.f0)&&rise n.f0 l
def pre(l:List qA)(i:Nat):Int:=if i=0 then 0 else (nth qA.z l (w64 ((i:Int) - 1))).f0
theorem qBq(l:List qA)(i:Nat)(h:i<l.length)(hl:l.length<4611686018427387904):pre l (i+1)=l[i].f0:=by
 unfold pre
 rw [if_neg (by omega),w64p (i+1) (by omega) (by omega),show i+1 - 1=i by omega,qAK _ _ _ h]
def Nodes(l:List qA):Prop:=l.length≤12∧rise 0 l=true
instance (l:List qA):Decidable (Nodes l):=inferInstanceAs (Decidable (_∧_))
theorem qCs(l:List qA)(hl:l.length<4611686018427387904):∀(d i:Nat),i+d=l.length→Ev (fun k=>qi.l9 k l (i:Int)) (eno (rise (pre l i) (l.drop i))):=by
 intro d
 induction d with
 | zero =>
  intro i hi
  refine .s (qi.l9_s · _ _) (.n (by omega) (.cv ?_))
  rw [List.drop_eq_nil_of_le (by omega)]
  rfl
 | succ d ih =>
  intro i hi
  have h1:i<l.length:=by omega
  refine .s (qi.l9_s · _ _) (.t (by omega) (.t (by omega) ?_))
  have ih:=ih (i+1) (by omega)
  rw [qBq l i h1 hl]at ih
  rw [List.drop_eq_getElem_cons h1,qAK _ _ _ h1]
  have hj:∀ b:Bool,(b=true↔¬ (okN l[i]∧pre l i<l[i].f0))→Ev (fun k=>qi.j49 k l (i:Int) b) (eno (rise (pre l i) (l[i] :: l.drop (i+1)))):=by
   intro b hb
   refine .s (qi.j49_s · _ _ _) ?_
   simp only [rise]
   by_cases h:okN l[i]∧pre l i<l[i].f0
   ·refine .n (fun e=>(hb.1 e) h) ?_
    rw [w64n i (by omega),dT h,Bool.true_and]
    exact ih
   ·refine .t (hb.2 h) (.cv ?_)
    rw [dF h,Bool.false_and]
    rfl
  clear ih
  have hp0:i=0→pre l i=0:=fun e=>if_pos e
  have hp1:i≠0→(nth qA.z l (w64 ((i:Int) - 1))).f0=pre l i:=fun e=>(if_neg e).symm
  have hw:i≠0→w64 ((i:Int) - 1)=((i - 1:Nat):Int):=fun e=>w64p i (by omega) (by omega)
  unfold okN at hj
  generalize hv:eno (rise (pre l i) (l[i] :: l.drop (i+1)))=v at hj ⊢
  clear hv
  generalize pre l i=p at *
  generalize (nth qA.z l (w64 ((i:Int) - 1))).f0=q at *
  generalize l[i]=n at *
  repeat' (first | refine Ev.b0 (tin _ _ _) ?_ | refine Ev.i (fun _=>?_) (fun _=>?_))
  all_goals simp only [decide_eq_true_eq]at *
  all_goals first
   | exact hj _ (by simp only [decide_eq_true_eq,Bool.false_eq_true,true_iff,false_iff]; omega)
   | (exfalso; omega)
theorem check'(l:List qA):Ev (fun k=>qi.f k l) (eno (decide (Nodes l))):=by
 unfold qi.f
 refine .i (fun h=>.cv ?_) (fun h=>(qCs l (by omega) l.length 0 (by omega)).v ?_)
 ·rw [dF (fun n:Nodes l=>by have:=n.1; omega)]
  rfl
 ·rw [show pre l 0=0 from rfl,List.drop_zero]
  congr 1
  rw [Bool.eq_iff_iff,decide_eq_true_eq]
  exact ⟨fun h0=>⟨by omega,h0⟩,fun n=>n.2⟩
theorem check(l:List qA)(_:l.length<4611686018427387904):Ev (fun k=>qi.f k l) (eno (decide (Nodes l))):=check' l
theorem qDk(l:List qA)(hl:l.length<4611686018427387904):∀(d i:Nat),i+d=l.length→Ev (fun k=>qO.l5 k l (i:Int)) (rise (pre l i) (l.drop i)&&decide (l.length≤12)):=by
 intro d
 induction d with
 | zero =>
  intro i hi
  refine .s (qO.l5_s · _ _) (.n (by omega) (.cv ?_))
  rw [List.drop_eq_nil_of_le (by omega)]
  simp only [rise,Bool.true_and,decide_eq_decide]
  omega
 | succ d ih =>
  intro i hi
  have h1:i<l.length:=by omega
  refine .s (qO.l5_s · _ _) (.t (by omega) (.t (by omega) ?_))
  have ih:=ih (i+1) (by omega)
  rw [qBq l i h1 hl]at ih
  rw [List.drop_eq_getElem_cons h1,qAK _ _ _ h1]
  have hj:∀ b:Bool,(b=true↔¬ (okN l[i]∧pre l i<l[i].f0))→Ev (fun k=>qO.j37 k l (i:Int) b) (rise (pre l i) (l[i] :: l.drop (i+1))&&decide (l.length≤12)):=by
   intro b hb
   refine .s (qO.j37_s · _ _ _) ?_
   simp only [rise]
   by_cases h:okN l[i]∧pre l i<l[i].f0
   ·refine .n (fun e=>(hb.1 e) h) ?_
    rw [w64n i (by omega),dT h,Bool.true_and]
    exact ih
   ·refine .t (hb.2 h) (.cv ?_)
    rw [dF h,Bool.false_and,Bool.false_and]
  clear ih
  have hp0:i=0→pre l i=0:=fun e=>if_pos e
  have hp1:i≠0→(nth qA.z l (w64 ((i:Int) - 1))).f0=pre l i:=fun e=>(if_neg e).symm
  have hw:i≠0→w64 ((i:Int) - 1)=((i - 1:Nat):Int):=fun e=>w64p i (by omega) (by omega)
  unfold okN at hj
  generalize hv:(rise (pre l i) (l[i] :: l.drop (i+1))&&decide (l.length≤12))=v at hj ⊢
  clear hv
  generalize pre l i=p at *
  generalize (nth qA.z l (w64 ((i:Int) - 1))).f0=q at *
  generalize l[i]=n at *
  repeat' (first | refine Ev.i (fun _=>?_) (fun _=>?_))
  all_goals first
   | exact hj _ (by simp only [decide_eq_true_eq,Bool.false_eq_true,true_iff,false_iff]; omega)
   | (exfalso; omega)
theorem may(l:List qA)(hl:l.length<4611686018427387904):Ev (fun k=>qO.f k l) (decide (Nodes l)):=by
 unfold qO.f
 refine (qDk l hl l.length 0 (by omega)).v ?_
 rw [show pre l 0=0 from rfl,List.drop_zero,Bool.eq_iff_iff,Bool.and_eq_true,decide_eq_true_eq,decide_eq_true_eq]
 exact And.comm
theorem qCt(l:List Int)(v:Int)(hl:l.length<4611686018427387904):∀(d i:Nat),i+d=l.length→∃ x,Ev (fun k=>qX.l5 k l v (i:Int)) x∧(0≤x↔v ∈ l.drop i):=by
 intro d
 induction d with
 | zero =>
  intro i hi
  refine ⟨-1,.s (qX.l5_s · _ _ _) (.n (by omega) (.c _)),?_⟩
  rw [List.drop_eq_nil_of_le (by omega)]
  simp
 | succ d ih =>
  intro i hi
  have h1:i<l.length:=by omega
  obtain ⟨x,hx,hm⟩:=ih (i+1) (by omega)
  by_cases h:v=l[i]
  ·refine ⟨i,.s (qX.l5_s · _ _ _) (.t (by omega) (.t (by omega) (.t (by rw [qAK _ _ _ h1]; exact h) (.c _)))),?_⟩
   rw [List.drop_eq_getElem_cons h1]
   exact ⟨fun _=>List.mem_cons.2 (.inl h),fun _=>by omega⟩
  ·refine ⟨x,.s (qX.l5_s · _ _ _) (.t (by omega) (.t (by omega) (.n (by rw [qAK _ _ _ h1]; exact h) ?_))),?_⟩
   ·rw [w64n i (by omega)]
    exact hx
   ·rw [List.drop_eq_getElem_cons h1,hm]
    exact ⟨fun m=>List.mem_cons.2 (.inr m),fun m=>(List.mem_cons.1 m).resolve_left h⟩
theorem contains(l:List Int)(v:Int)(hl:l.length<4611686018427387904):Ev (fun k=>qn.f k l v) (decide (v ∈ l)):=by
 obtain ⟨x,hx,hm⟩:=qCt l v hl l.length 0 (by omega)
 unfold qn.f qX.f
 refine .b hx (.cv ?_)
 rw [decide_eq_decide]
 exact hm
def apartR(l:List qA):List Int→List Int→Bool
 | _,[]=>true
 | met,id :: r=>match l.find? (fun n=>decide (n.f0=id)) with
  | some n => !decide (n.f1 ∈ met)&&apartR l (met++[n.f1]) r
  | none=>false
def apartT(l:List qA):List Int→List Int→Bool
 | _,[]=>true
 | met,id :: r=>match l.find? (fun n=>decide (n.f0=id) && !decide (n.f1 ∈ met)) with
  | some n=>apartT l (met++[n.f1]) r
  | none=>false
theorem qCY (l:List qA) (ids met:List Int) (i:Nat) (w:Bool) (hl:l.length<4611686018427387904) (hm:met.length<1000000000000) (hi:i<ids.length) (hil:ids.length<4611686018427387904)
  (hs:∀ n,l.find? (fun n=>decide (n.f0=ids[i]) && !decide (n.f1 ∈ met))=some n→Ev (fun k=>qd.l18 k l ids (met++[n.f1]) ((i+1:Nat):Int)) w)
  (hn:l.find? (fun n=>decide (n.f0=ids[i]) && !decide (n.f1 ∈ met))=none→w=false) :
  ∀(d j:Nat),j+d=l.length→(l.take j).find? (fun n=>decide (n.f0=ids[i]) && !decide (n.f1 ∈ met))=none→Ev (fun k=>qd.l35 k l ids met (i:Int) (j:Int)) w:=by
 intro d
 induction d with
 | zero =>
  intro j hj ht
  refine .s (qd.l35_s · _ _ _ _ _) (.n (by omega) (.cv ?_))
  rw [List.take_of_length_le (by omega)]at ht
  exact (hn ht).symm
 | succ d ih =>
  intro j hj ht
  have h1:j<l.length:=by omega
  refine .s (qd.l35_s · _ _ _ _ _) (.t (by omega) (.t (by omega) ?_))
  have hb:∀ b:Bool,b=(decide (l[j].f0=ids[i]) && !decide (l[j].f1 ∈ met))→Ev (fun k=>qd.j58 k l ids met (i:Int) (j:Int) b) w:=by
   intro b hb
   refine .s (qd.j58_s · _ _ _ _ _ _) ?_
   cases b with
   | true =>
    refine .t rfl (.t (by omega) ?_)
    rw [qAK _ _ _ h1,w64n i (by omega)]
    refine hs _ ?_
    have e:=congrArg (List.find? (fun n=>decide (n.f0=ids[i]) && !decide (n.f1 ∈ met))) (List.take_append_drop j l)
    rw [← e,List.find?_append,ht,List.drop_eq_getElem_cons h1,List.find?_cons_of_pos (p:=fun n:qA=>decide (n.f0=ids[i]) && !decide (n.f1 ∈ met)) hb.symm]
    rfl
   | false =>
    refine .n (by decide) ?_
    rw [w64n j (by omega)]
    refine ih (j+1) (by omega) ?_
    rw [List.take_add_one,List.find?_append,ht,List.getElem?_eq_getElem h1]
    simp only [Option.toList_some,Option.none_or]
    rw [List.find?_cons_of_neg]
    ·rfl
    ·rw [← hb]; decide
  rw [qAK _ _ _ h1,qAK _ _ _ hi]
  by_cases h:l[j].f0=ids[i]
  ·refine .t h (.b (contains met _ (by omega)) (hb _ ?_))
   rw [dT h]; rfl
  ·refine .n h (hb _ ?_)
   rw [dF h]; rfl
theorem qCZ(l:List qA)(ids:List Int)(hl:l.length<4611686018427387904)(hil:ids.length<500000000000):∀(d i:Nat)(met:List Int),i+d=ids.length→met.length=i→Ev (fun k=>qd.l18 k l ids met (i:Int)) (apartT l met (ids.drop i)):=by
 intro d
 induction d with
 | zero =>
  intro i met hi hm
  refine .s (qd.l18_s · _ _ _ _) (.n (by omega) (.cv ?_))
  rw [List.drop_eq_nil_of_le (by omega)]
  rfl
 | succ d ih =>
  intro i met hi hm
  have h1:i<ids.length:=by omega
  refine .s (qd.l18_s · _ _ _ _) (.t (by omega) (.t (by omega) ?_))
  refine qCY l ids met i _ hl (by omega) h1 (by omega) ?_ ?_ l.length 0 (by omega) rfl
  ·intro n hn
   refine (ih (i+1) _ (by omega) (by simp [hm])).v ?_
   rw [List.drop_eq_getElem_cons h1,apartT,hn]
  ·intro hn
   rw [List.drop_eq_getElem_cons h1,apartT,hn]
theorem qCa:∀(p:Int)(l:List qA),rise p l=true→∀ n ∈ l,p<n.f0
 | _,[],_,_,h=>nomatch h
 | p,m :: l,h,n,hn=>by
  simp only [rise,Bool.and_eq_true,decide_eq_true_eq]at h
  rcases List.mem_cons.1 hn with rfl | hn
  ·exact h.1.2
  ·exact Int.lt_trans h.1.2 (qCa _ l h.2 n hn)
theorem qBr(id:Int)(met:List Int):∀(p:Int)(l:List qA),rise p l=true→l.find? (fun n=>decide (n.f0=id) && !decide (n.f1 ∈ met))=match l.find? (fun n=>decide (n.f0=id)) with
  | some n=>if n.f1 ∈ met then none else some n
  | none=>none
 | _,[],_=>rfl
 | p,m :: l,h=>by
  simp only [rise,Bool.and_eq_true,decide_eq_true_eq]at h
  by_cases hm:m.f0=id
  ·rw [List.find?_cons_of_pos (a:=m) (p:=fun n:qA=>decide (n.f0=id)) (by simpa using hm)]
   by_cases hz:m.f1 ∈ met
   ·simp only [hz,if_true]
    rw [List.find?_eq_none]
    intro n hn
    rcases List.mem_cons.1 hn with rfl | hn
    ·simp [hz]
    ·have:=qCa _ _ h.2 n hn
     have:¬ n.f0=id:=by omega
     simp [this]
   ·rw [List.find?_cons_of_pos (by simp [hm,hz])]
    simp only [hz,if_false]
  ·rw [List.find?_cons_of_neg (by simp [hm]),List.find?_cons_of_neg (by simpa using hm)]
   exact qBr id met _ l h.2
theorem qBE(l:List qA)(h:rise 0 l=true):∀(ids met:List Int),apartT l met ids=apartR l met ids
 | [],_=>rfl
 | id :: r,met=>by
  rw [apartT,apartR,qBr id met 0 l h]
  cases l.find? (fun n=>decide (n.f0=id)) with
  | none=>rfl
  | some n =>
   by_cases hz:n.f1 ∈ met
   ·simp [hz]
   ·simp only [hz,if_false,decide_false,Bool.not_false,Bool.true_and]
    exact qBE l h r _
theorem apart(l:List qA)(ids:List Int)(hl:l.length<4611686018427387904)(hil:ids.length<500000000000):Ev (fun k=>qd.f k l ids) (decide (Nodes l)&&apartR l [] ids):=by
 unfold qd.f
 refine .b (check l hl) ?_
 by_cases h:Nodes l
 ·rw [dT h]
  refine .t rfl ((qCZ l ids hl hil ids.length 0 [] (by omega) rfl).v ?_)
  rw [List.drop_zero,qBE l h.2,Bool.true_and]
 ·rw [dF h]
  exact .n (by decide) (.c _)
def find(l:List qA)(id:Int):qA × Bool:=match l.find? (fun n=>decide (n.f0=id)) with
 | some n=>(n,true)
 | none=>(⟨0,0,0,0,false,false⟩,false)
theorem qDT(l:List qA)(id:Int)(hl:l.length<4611686018427387904):∀(d i:Nat),i+d=l.length→Ev (fun k=>qa.l7 k l id (i:Int)) (find (l.drop i) id):=by
 intro d
 induction d with
 | zero =>
  intro i hi
  refine .s (qa.l7_s · _ _ _) (.n (by omega) (.cv ?_))
  rw [List.drop_eq_nil_of_le (by omega)]
  rfl
 | succ d ih =>
  intro i hi
  have h1:i<l.length:=by omega
  refine .s (qa.l7_s · _ _ _) (.t (by omega) (.t (by omega) ?_))
  rw [List.drop_eq_getElem_cons h1,qAK _ _ _ h1]
  by_cases h:l[i].f0=id
  ·refine .t h (.cv ?_)
   rw [find,List.find?_cons_of_pos (by simpa using h)]
  ·refine .n h ?_
   rw [w64n i (by omega)]
   refine (ih (i+1) (by omega)).v ?_
   rw [find,find,List.find?_cons_of_neg (by simpa using h)]
theorem reffind(l:List qA)(id:Int)(hl:l.length<4611686018427387904):Ev (fun k=>qa.f k l id) (find l id):=by
 unfold qa.f
 exact qDT l id hl l.length 0 (by omega)
def zn(l:List qA)(id:Int):Int:=(find l id).1.f1
theorem qCb(l:List qA)(ids:List Int)(i:Nat)(t:qA × Bool)(w:Bool)(hl:l.length<4611686018427387904)(hi:i<ids.length)(hil:ids.length<4611686018427387904):∀(d j:Nat),j+d=i →
  (t.1.f1 ∈ ((ids.take i).drop j).map (zn l)→w=false)→(¬ t.1.f1 ∈ ((ids.take i).drop j).map (zn l)→Ev (fun k=>qN.l5 k l ids ((i+1:Nat):Int)) w) →
  Ev (fun k=>qN.l31 k l ids (i:Int) t (j:Int)) w:=by
 intro d
 induction d with
 | zero =>
  intro j hj _ hn
  refine .s (qN.l31_s · _ _ _ _ _) (.n (by omega) ?_)
  rw [w64n i (by omega)]
  refine hn ?_
  rw [List.drop_eq_nil_of_le (by simp; omega)]
  simp
 | succ d ih =>
  intro j hj hy hn
  have h1:j<ids.length:=by omega
  have h2:j<(ids.take i).length:=by simp; omega
  rw [List.drop_eq_getElem_cons h2,List.getElem_take,List.map_cons,List.mem_cons]at hy hn
  refine .s (qN.l31_s · _ _ _ _ _) (.t (by omega) (.t (by omega) ?_))
  rw [qAK _ _ _ h1]
  refine .b (reffind l _ hl) ?_
  by_cases h:t.1.f1=zn l ids[j]
  ·exact .t h (.cv (hy (.inl h)).symm)
  ·refine .n h ?_
   rw [w64n j (by omega)]
   exact ih (j+1) (by omega) (fun m=>hy (.inr m)) (fun m=>hn (fun o=>o.elim h m))
theorem qCu(l:List qA)(ids:List Int)(hl:l.length<4611686018427387904)(hil:ids.length<500000000000):∀(d i:Nat),i+d=ids.length→Ev (fun k=>qN.l5 k l ids (i:Int)) (apartR l ((ids.take i).map (zn l)) (ids.drop i)):=by
 intro d
 induction d with
 | zero =>
  intro i hi
  refine .s (qN.l5_s · _ _ _) (.n (by omega) (.cv ?_))
  rw [List.drop_eq_nil_of_le (by omega)]
  rfl
 | succ d ih =>
  intro i hi
  have h1:i<ids.length:=by omega
  refine .s (qN.l5_s · _ _ _) (.t (by omega) (.t (by omega) ?_))
  rw [qAK _ _ _ h1,List.drop_eq_getElem_cons h1,apartR]
  have ih:=ih (i+1) (by omega)
  rw [List.take_add_one,List.getElem?_eq_getElem h1,Option.toList_some,List.map_append,List.map_singleton]at ih
  refine .b (reffind l _ hl) ?_
  have e:zn l ids[i]=(find l ids[i]).1.f1:=rfl
  unfold find at e ⊢
  cases hf:l.find? (fun n=>decide (n.f0=ids[i])) with
  | none=>exact .n (by decide) (.c _)
  | some n =>
   rw [hf]at e
   rw [e]at ih
   refine .t rfl ?_
   refine qCb l ids i (n,true) _ hl h1 (by omega) i 0 (by omega) ?_ ?_
   ·intro h
    rw [List.drop_zero]at h
    show (!decide (n.f1 ∈ _)&&_)=false
    rw [dT h]
    rfl
   ·intro h
    rw [List.drop_zero]at h
    refine ih.v ?_
    show _=(!decide (n.f1 ∈ _)&&_)
    rw [dF h]
    rfl
theorem refapart(l:List qA)(ids:List Int)(hl:l.length<4611686018427387904)(hil:ids.length<500000000000):Ev (fun k=>qN.f k l ids) (apartR l [] ids):=by
 unfold qN.f
 exact qCu l ids hl hil ids.length 0 (by omega)
end Topo
namespace Maps
theorem min'(x a b:Int):qy.f x a b=some (decide (a≤x∧x≤b)):=by
 unfold qy.f
 by_cases h:x≥a
 ·rw [if_pos h]
  congr 1
  simp only [decide_eq_decide]
  omega
 ·rw [if_neg h,dF (by omega)]
def temps(m:qK):Int→List qI→Bool
 | _,[]=>true
 | p,t :: l=>(decide ((0≤t.f0∧t.f0<m.f3)∧p<t.f0∧1≤(t.f1.length:Int)∧(t.f1.length:Int)≤m.f1)&&Topo.apartR m.f4 [] t.f1)&&temps m t.f0 l
def riseI:Int→List Int→Bool
 | _,[]=>true
 | p,n :: l=>decide ((1≤n∧n≤999)∧p<n)&&riseI n l
def past(m:qK)(since:Int):Int→List qD→List qD→Bool
 | _,_,[]=>true
 | p,seen,s :: l=>(decide ((0≤s.f0∧s.f0<since)∧p<s.f0∧m.f2≤(s.f1.length:Int)∧(s.f1.length:Int)≤m.f1)&&riseI 0 s.f1 && !decide (∃ x ∈ seen,x.f1=s.f1))&&past m since s.f0 (seen++[s]) l
def trails(m:qK):List qC→Bool
 | []=>true
 | t :: l=>(decide (0≤t.f0∧t.f0≤m.f0)&&past m t.f0 (-1) [] t.f1)&&trails m l
def Flat(m:qK):Prop:=(0≤m.f0∧m.f0≤2147483647)∧(1≤m.f1∧m.f1≤3)∧(1≤m.f2∧m.f2≤m.f1)∧(1≤m.f3∧m.f3≤8)∧Topo.Nodes m.f4
instance (m:qK):Decidable (Flat m):=inferInstanceAs (Decidable (_∧_))
def May(m:qK):Prop:=Flat m∧temps m (-1) m.f5=true∧(m.f6.length:Int)=m.f3∧trails m m.f6=true
instance (m:qK):Decidable (May m):=inferInstanceAs (Decidable (_∧_))
structure Small (m:qK):Prop where
 h4:m.f4.length<4611686018427387904
 h5:m.f5.length<4611686018427387904
 h6:m.f6.length<4611686018427387904
 hp:∀ t ∈ m.f6,t.f1.length<4611686018427387904
 hs:∀ t ∈ m.f6,∀ s ∈ t.f1,s.f1.length<4611686018427387904
def preT(l:List qI)(i:Nat):Int:=if i=0 then -1 else (nth qI.z l (w64 ((i:Int) - 1))).f0
theorem qBa(l:List qI)(i:Nat)(h:i<l.length)(hl:l.length<4611686018427387904):preT l (i+1)=l[i].f0:=by
 unfold preT
 rw [if_neg (by omega),w64p (i+1) (by omega) (by omega),show i+1 - 1=i by omega,qAK _ _ _ h]
def preS(l:List qD)(i:Nat):Int:=if i=0 then -1 else (nth qD.z l (w64 ((i:Int) - 1))).f0
theorem qCc(l:List qD)(i:Nat)(h:i<l.length)(hl:l.length<4611686018427387904):preS l (i+1)=l[i].f0:=by
 unfold preS
 rw [if_neg (by omega),w64p (i+1) (by omega) (by omega),show i+1 - 1=i by omega,qAK _ _ _ h]
def preI(l:List Int)(i:Nat):Int:=if i=0 then 0 else nth 0 l (w64 ((i:Int) - 1))
theorem qBb(l:List Int)(i:Nat)(h:i<l.length)(hl:l.length<4611686018427387904):preI l (i+1)=l[i]:=by
 unfold preI
 rw [if_neg (by omega),w64p (i+1) (by omega) (by omega),show i+1 - 1=i by omega,qAK _ _ _ h]
theorem qBO{α : Type}(a b:List α)(i:Nat)(ha:i<a.length)(hb:i<b.length):(a.drop i=b.drop i)↔(a[i]=b[i]∧a.drop (i+1)=b.drop (i+1)):=by
 rw [List.drop_eq_getElem_cons ha,List.drop_eq_getElem_cons hb,List.cons.injEq]
theorem qCv(a b:List Int)(hab:a.length=b.length)(hl:a.length<4611686018427387904):∀(d i:Nat),i+d=a.length→Ev (fun k=>qW.l9 k a b (i:Int)) (decide (a.drop i=b.drop i)):=by
 intro d
 induction d with
 | zero =>
  intro i hi
  refine .s (qW.l9_s · _ _ _) (.n (by omega) (.cv ?_))
  rw [List.drop_eq_nil_of_le (by omega),List.drop_eq_nil_of_le (by omega)]
  rfl
 | succ d ih =>
  intro i hi
  have h1:i<a.length:=by omega
  have h2:i<b.length:=by omega
  refine .s (qW.l9_s · _ _ _) (.t (by omega) (.t (by omega) (.t (by omega) ?_)))
  rw [qAK _ _ _ h1,qAK _ _ _ h2,w64n i (by omega)]
  refine .i (fun h=>(ih (i+1) (by omega)).v ?_) (fun h=>.cv ?_)
  ·simp only [qBO a b i h1 h2,h,true_and]
  ·simp only [qBO a b i h1 h2,h,false_and,decide_false]
theorem equal(a b:List Int)(hl:a.length<4611686018427387904):Ev (fun k=>qW.f k a b) (decide (a=b)):=by
 unfold qW.f
 refine .i (fun h=>qCv a b (by omega) hl a.length 0 (by omega)) (fun h=>.cv ?_)
 exact (dF (fun e=>h (by rw [e]))).symm
theorem qDU(a b:List Int)(hab:a.length=b.length)(hl:a.length<4611686018427387904):∀(d i:Nat),i+d=a.length→Ev (fun k=>qV.l9 k a b (i:Int)) (decide (a.drop i=b.drop i)):=by
 intro d
 induction d with
 | zero =>
  intro i hi
  refine .s (qV.l9_s · _ _ _) (.n (by omega) (.cv ?_))
  rw [List.drop_eq_nil_of_le (by omega),List.drop_eq_nil_of_le (by omega)]
  rfl
 | succ d ih =>
  intro i hi
  have h1:i<a.length:=by omega
  have h2:i<b.length:=by omega
  refine .s (qV.l9_s · _ _ _) (.t (by omega) (.t (by omega) (.t (by omega) ?_)))
  rw [qAK _ _ _ h1,qAK _ _ _ h2,w64n i (by omega)]
  refine .i (fun h=>(ih (i+1) (by omega)).v ?_) (fun h=>.cv ?_)
  ·simp only [qBO a b i h1 h2,h,true_and]
  ·simp only [qBO a b i h1 h2,h,false_and,decide_false]
theorem ints(a b:List Int)(hl:a.length<4611686018427387904):Ev (fun k=>qV.f k a b) (decide (a=b)):=by
 unfold qV.f
 refine .i (fun h=>qDU a b (by omega) hl a.length 0 (by omega)) (fun h=>.cv ?_)
 exact (dF (fun e=>h (by rw [e]))).symm
theorem qDV(l:List qD)(s:qD)(hl:l.length<4611686018427387904)(hs:∀ x ∈ l,x.f1.length<4611686018427387904):∀(d i:Nat),i+d=l.length→∃ x,Ev (fun k=>qG.l5 k l s (i:Int)) x∧(0≤x↔∃ y ∈ l.drop i,y.f1=s.f1):=by
 intro d
 induction d with
 | zero =>
  intro i hi
  refine ⟨-1,.s (qG.l5_s · _ _ _) (.n (by omega) (.c _)),?_⟩
  rw [List.drop_eq_nil_of_le (by omega)]
  simp
 | succ d ih =>
  intro i hi
  have h1:i<l.length:=by omega
  obtain ⟨x,hx,hm⟩:=ih (i+1) (by omega)
  have hq:Ev (fun k=>qz.f k l[i] s) (decide (l[i].f1=s.f1)):=by
   unfold qz.f
   exact .b (equal _ _ (hs _ (gM h1))) (.c _)
  by_cases h:l[i].f1=s.f1
  ·refine ⟨i,.s (qG.l5_s · _ _ _) (.t (by omega) (.t (by omega) ?_)),?_⟩
   ·rw [qAK _ _ _ h1]
    exact .b hq (.t (dT h) (.c _))
   ·rw [List.drop_eq_getElem_cons h1]
    exact ⟨fun _=>⟨_,List.mem_cons_self,h⟩,fun _=>by omega⟩
  ·refine ⟨x,.s (qG.l5_s · _ _ _) (.t (by omega) (.t (by omega) ?_)),?_⟩
   ·rw [qAK _ _ _ h1,w64n i (by omega)]
    exact .b hq (.n (by simpa using h) hx)
   ·rw [List.drop_eq_getElem_cons h1,hm]
    exact ⟨fun ⟨y,m,e⟩=>⟨y,List.mem_cons.2 (.inr m),e⟩,fun ⟨y,m,e⟩=>⟨y,(List.mem_cons.1 m).resolve_left (fun q=>h (q ▸ e)),e⟩⟩
theorem seen(l:List qD)(s:qD)(hl:l.length<4611686018427387904)(hs:∀ x ∈ l,x.f1.length<4611686018427387904):Ev (fun k=>qS.f k l s) (decide (∃ y ∈ l,y.f1=s.f1)):=by
 obtain ⟨x,hx,hm⟩:=qDV l s hl hs l.length 0 (by omega)
 unfold qS.f qG.f
 refine .b hx (.cv ?_)
 rw [decide_eq_decide]
 exact hm
theorem qCw (m:qK) (t:qC) (i:Nat) (hl:t.f1.length<4611686018427387904) (hs:∀ s ∈ t.f1,s.f1.length<4611686018427387904) (hi:i<t.f1.length) (w:Bool)
  (hc:riseI 0 t.f1[i].f1=true→(∃ y ∈ t.f1.take i,y.f1=t.f1[i].f1)→w=false)
  (hn:riseI 0 t.f1[i].f1=true→(¬ ∃ y ∈ t.f1.take i,y.f1=t.f1[i].f1)→Ev (fun k=>qc.l9 k m t ((i+1:Nat):Int)) w)
  (hr:¬ riseI 0 t.f1[i].f1=true→w=false):∀(d j:Nat),j+d=t.f1[i].f1.length→(riseI 0 t.f1[i].f1=riseI (preI t.f1[i].f1 j) (t.f1[i].f1.drop j))→Ev (fun k=>qc.l61 k m t (i:Int) (j:Int)) w:=by
 have hz:=qAK qD.z _ _ hi
 have hsl:=hs _ (gM hi)
 intro d
 induction d with
 | zero =>
  intro j hj he
  refine .s (qc.l61_s · _ _ _ _) ?_
  rw [hz]
  rw [List.drop_eq_nil_of_le (by omega)]at he
  refine .n (by omega) (.t (by omega) ?_)
  rw [show cutl t.f1 0 (i:Int)=t.f1.take i by simp [cutl],w64n i (by omega)]
  refine .b (seen _ _ (by simp; omega) (fun x m=>hs x (List.mem_of_mem_take m))) ?_
  refine .i (fun h=>.cv (hc he ?_).symm) (fun h=>hn he ?_)
  ·simpa using h
  ·simpa using h
 | succ d ih =>
  intro j hj he
  have h1:j<t.f1[i].f1.length:=by omega
  refine .s (qc.l61_s · _ _ _ _) ?_
  rw [hz]
  refine .t (by omega) (.t (by omega) ?_)
  rw [List.drop_eq_getElem_cons h1]at he
  simp only [riseI]at he
  have hb:∀ b:Bool,(b=true↔¬ ((1≤t.f1[i].f1[j]∧t.f1[i].f1[j]≤999)∧preI t.f1[i].f1 j<t.f1[i].f1[j]))→Ev (fun k=>qc.j86 k m t (i:Int) (j:Int) b) w:=by
   intro b hb
   refine .s (qc.j86_s · _ _ _ _ _) ?_
   by_cases h:(1≤t.f1[i].f1[j]∧t.f1[i].f1[j]≤999)∧preI t.f1[i].f1 j<t.f1[i].f1[j]
   ·refine .n (fun e=>(hb.1 e) h) ?_
    rw [w64n j (by omega)]
    refine ih (j+1) (by omega) ?_
    rw [he,qBb _ j h1 hsl,dT h,Bool.true_and]
   ·refine .t (hb.2 h) (.cv (hr ?_).symm)
    rw [he,dF h]
    simp
  clear he ih hr hn hc
  rw [qAK _ _ _ h1]
  have hp0:j=0→preI t.f1[i].f1 j=0:=fun e=>if_pos e
  have hp1:j≠0→nth 0 t.f1[i].f1 (w64 ((j:Int) - 1))=preI t.f1[i].f1 j:=fun e=>(if_neg e).symm
  have hw:j≠0→w64 ((j:Int) - 1)=((j - 1:Nat):Int):=fun e=>w64p j (by omega) (by omega)
  generalize preI t.f1[i].f1 j=p at *
  generalize nth 0 t.f1[i].f1 (w64 ((j:Int) - 1))=q at *
  generalize t.f1[i].f1[j]=n at *
  repeat' (first | refine Ev.b0 (min' _ _ _) ?_ | refine Ev.i (fun _=>?_) (fun _=>?_))
  all_goals simp only [decide_eq_true_eq]at *
  all_goals first
   | exact hb _ (by simp only [decide_eq_true_eq,Bool.false_eq_true,true_iff,false_iff]; omega)
   | (exfalso; omega)
theorem qDW(m:qK)(t:qC)(hl:t.f1.length<4611686018427387904)(hs:∀ s ∈ t.f1,s.f1.length<4611686018427387904)(ht:0≤t.f0∧t.f0≤2147483647):∀(d i:Nat),i+d=t.f1.length→Ev (fun k=>qc.l9 k m t (i:Int)) (past m t.f0 (preS t.f1 i) (t.f1.take i) (t.f1.drop i)):=by
 intro d
 induction d with
 | zero =>
  intro i hi
  refine .s (qc.l9_s · _ _ _) (.n (by omega) (.cv ?_))
  rw [List.drop_eq_nil_of_le (by omega)]
  rfl
 | succ d ih =>
  intro i hi
  have h1:i<t.f1.length:=by omega
  refine .s (qc.l9_s · _ _ _) (.t (by omega) (.t (by omega) ?_))
  have ih:=ih (i+1) (by omega)
  rw [qCc _ i h1 hl,List.take_add_one,List.getElem?_eq_getElem h1,Option.toList_some]at ih
  rw [qAK _ _ _ h1,List.drop_eq_getElem_cons h1]
  simp only [past]
  have hj:∀ b:Bool,(b=true↔¬ ((0≤t.f1[i].f0∧t.f1[i].f0<t.f0)∧preS t.f1 i<t.f1[i].f0∧m.f2≤(t.f1[i].f1.length:Int)∧(t.f1[i].f1.length:Int)≤m.f1))→Ev (fun k=>qc.j51 k m t (i:Int) b) (decide ((0≤t.f1[i].f0∧t.f1[i].f0<t.f0)∧preS t.f1 i<t.f1[i].f0∧m.f2≤(t.f1[i].f1.length:Int)∧(t.f1[i].f1.length:Int)≤m.f1)&&riseI 0 t.f1[i].f1 && !decide (∃ x ∈ t.f1.take i,x.f1=t.f1[i].f1)&&past m t.f0 t.f1[i].f0 (t.f1.take i++[t.f1[i]]) (t.f1.drop (i+1))):=by
   intro b hb
   refine .s (qc.j51_s · _ _ _ _) ?_
   by_cases h:(0≤t.f1[i].f0∧t.f1[i].f0<t.f0)∧preS t.f1 i<t.f1[i].f0∧m.f2≤(t.f1[i].f1.length:Int)∧(t.f1[i].f1.length:Int)≤m.f1
   ·refine .n (fun e=>(hb.1 e) h) ?_
    rw [dT h,Bool.true_and]
    refine qCw m t i hl hs h1 _ ?_ ?_ ?_ t.f1[i].f1.length 0 (by omega) (by rw [List.drop_zero]; rfl)
    ·intro h2 h3
     rw [h2,dT h3]
     simp
    ·intro h2 h3
     refine ih.v ?_
     rw [h2,dF h3]
     simp
    ·intro h2
     simp [h2]
   ·refine .t (hb.2 h) (.cv ?_)
    rw [dF h]
    simp
  clear ih
  have hp0:i=0→preS t.f1 i = -1:=fun e=>if_pos e
  have hp1:i≠0→(nth qD.z t.f1 (w64 ((i:Int) - 1))).f0=preS t.f1 i:=fun e=>(if_neg e).symm
  have hw:i≠0→w64 ((i:Int) - 1)=((i - 1:Nat):Int):=fun e=>w64p i (by omega) (by omega)
  have hw2:w64 (t.f0 - 1)=t.f0 - 1:=qBW (by omega) (by omega)
  rw [hw2]
  generalize hv:(decide ((0≤t.f1[i].f0∧t.f1[i].f0<t.f0)∧preS t.f1 i<t.f1[i].f0∧m.f2≤(t.f1[i].f1.length:Int)∧(t.f1[i].f1.length:Int)≤m.f1)&&riseI 0 t.f1[i].f1 && !decide (∃ x ∈ t.f1.take i,x.f1=t.f1[i].f1)&&past m t.f0 t.f1[i].f0 (t.f1.take i++[t.f1[i]]) (t.f1.drop (i+1)))=v at hj ⊢
  clear hv
  generalize preS t.f1 i=p at *
  generalize (nth qD.z t.f1 (w64 ((i:Int) - 1))).f0=q at *
  generalize t.f1[i]=n at *
  repeat' (first | refine Ev.b0 (min' _ _ _) ?_ | refine Ev.i (fun _=>?_) (fun _=>?_))
  all_goals simp only [decide_eq_true_eq]at *
  all_goals first
   | exact hj _ (by simp only [decide_eq_true_eq,Bool.false_eq_true,true_iff,false_iff,Bool.not_eq_true',decide_eq_false_iff_not]; omega)
   | (exfalso; omega)
theorem pastf(m:qK)(t:qC)(hl:t.f1.length<4611686018427387904)(hs:∀ s ∈ t.f1,s.f1.length<4611686018427387904)(ht:0≤t.f0∧t.f0≤2147483647):Ev (fun k=>qc.f k m t) (past m t.f0 (-1) [] t.f1):=by
 unfold qc.f
 exact qDW m t hl hs ht t.f1.length 0 (by omega)
theorem qBz(m:qK)(hm:Small m)(h0:m.f0≤2147483647):∀(d i:Nat),i+d=m.f6.length→Ev (fun k=>qk.l11 k m (i:Int)) (eno (trails m (m.f6.drop i))):=by
 have h6:=hm.h6
 intro d
 induction d with
 | zero =>
  intro i hi
  refine .s (qk.l11_s · _ _) (.n (by omega) (.cv ?_))
  rw [List.drop_eq_nil_of_le (by omega)]
  rfl
 | succ d ih =>
  intro i hi
  have h1:i<m.f6.length:=by omega
  refine .s (qk.l11_s · _ _) (.t (by omega) (.t (by omega) ?_))
  have ih:=ih (i+1) (by omega)
  rw [qAK _ _ _ h1,List.drop_eq_getElem_cons h1,trails]
  refine .b0 (min' _ _ _) (.i (fun h=>?_) (fun h=>?_))
  ·have h:=of_decide_eq_true h
   refine .b (pastf m m.f6[i] (hm.hp _ (gM h1)) (hm.hs _ (gM h1)) (by omega)) (.s (qk.j40_s · _ _ _) ?_)
   rw [dT h,Bool.true_and,w64n i (by omega)]
   cases past m m.f6[i].f0 (-1) [] m.f6[i].f1 with
   | true=>exact .n (by decide) ih
   | false=>exact .t rfl (.c _)
  ·refine .s (qk.j40_s · _ _ _) (.t rfl (.cv ?_))
   have h:¬ (0≤m.f6[i].f0∧m.f6[i].f0≤m.f0):=fun e=>h (dT e)
   rw [dF h]
   rfl
theorem trailsf(m:qK)(hm:Small m)(h0:m.f0≤2147483647):Ev (fun k=>qk.f k m) (eno (decide ((m.f6.length:Int)=m.f3∧trails m m.f6=true))):=by
 unfold qk.f
 refine .i (fun h=>(qBz m hm h0 m.f6.length 0 (by omega)).v ?_) (fun h=>.cv ?_)
 ·rw [List.drop_zero]
  congr 1
  simp [h]
 ·rw [dF (fun e=>h e.1)]
  rfl
theorem qCd(m:qK)(hm:Small m)(hf:Flat m):∀(d i:Nat),i+d=m.f5.length→Ev (fun k=>qY.l36 k m (i:Int)) (eno (temps m (preT m.f5 i) (m.f5.drop i)&&decide ((m.f6.length:Int)=m.f3∧trails m m.f6=true))):=by
 have h5:=hm.h5
 have hg:=hf.2.2.2.1
 intro d
 induction d with
 | zero =>
  intro i hi
  refine .s (qY.l36_s · _ _) (.n (by omega) (.b (trailsf m hm hf.1.2) (.cv ?_)))
  rw [List.drop_eq_nil_of_le (by omega)]
  rfl
 | succ d ih =>
  intro i hi
  have h1:i<m.f5.length:=by omega
  refine .s (qY.l36_s · _ _) (.t (by omega) (.t (by omega) ?_))
  have ih:=ih (i+1) (by omega)
  rw [qBa _ i h1 h5]at ih
  rw [qAK _ _ _ h1,List.drop_eq_getElem_cons h1,temps]
  have hj:∀ b:Bool,(b = !(decide ((0≤m.f5[i].f0∧m.f5[i].f0<m.f3)∧preT m.f5 i<m.f5[i].f0∧1≤(m.f5[i].f1.length:Int)∧(m.f5[i].f1.length:Int)≤m.f1)&&Topo.apartR m.f4 [] m.f5[i].f1))→Ev (fun k=>qY.j85 k m (i:Int) b) (eno (((decide ((0≤m.f5[i].f0∧m.f5[i].f0<m.f3)∧preT m.f5 i<m.f5[i].f0∧1≤(m.f5[i].f1.length:Int)∧(m.f5[i].f1.length:Int)≤m.f1)&&Topo.apartR m.f4 [] m.f5[i].f1)&&temps m m.f5[i].f0 (m.f5.drop (i+1)))&&decide ((m.f6.length:Int)=m.f3∧trails m m.f6=true))):=by
   intro b hb
   refine .s (qY.j85_s · _ _ _) ?_
   rw [w64n i (by omega)]
   generalize (decide ((0≤m.f5[i].f0∧m.f5[i].f0<m.f3)∧preT m.f5 i<m.f5[i].f0∧1≤(m.f5[i].f1.length:Int)∧(m.f5[i].f1.length:Int)≤m.f1)&&Topo.apartR m.f4 [] m.f5[i].f1)=c at hb ⊢
   subst hb
   cases c with
   | true=>exact .n (by decide) ih
   | false=>exact .t rfl (.c _)
  clear ih
  have hj1:¬ ((0≤m.f5[i].f0∧m.f5[i].f0<m.f3)∧preT m.f5 i<m.f5[i].f0∧1≤(m.f5[i].f1.length:Int)∧(m.f5[i].f1.length:Int)≤m.f1)→Ev (fun k=>qY.j85 k m (i:Int) true) _:=fun h=>hj true (by rw [dF h]; rfl)
  have hj2:((0≤m.f5[i].f0∧m.f5[i].f0<m.f3)∧preT m.f5 i<m.f5[i].f0∧1≤(m.f5[i].f1.length:Int)∧(m.f5[i].f1.length:Int)≤m.f1)→Ev (fun k=>(qd.f k m.f4 m.f5[i].f1).bind fun t75=>qY.j85 k m (i:Int) (!t75)) _:=fun h=>.b (Topo.apart m.f4 m.f5[i].f1 hm.h4 (by have:=hf.2.1; omega)) (hj _ (by rw [dT h,dT hf.2.2.2.2]))
  have hp0:i=0→preT m.f5 i = -1:=fun e=>if_pos e
  have hp1:i≠0→(nth qI.z m.f5 (w64 ((i:Int) - 1))).f0=preT m.f5 i:=fun e=>(if_neg e).symm
  have hw:i≠0→w64 ((i:Int) - 1)=((i - 1:Nat):Int):=fun e=>w64p i (by omega) (by omega)
  have hw2:w64 (m.f3 - 1)=m.f3 - 1:=qBW (by omega) (by omega)
  rw [hw2]
  clear hj
  generalize (eno (((decide ((0≤m.f5[i].f0∧m.f5[i].f0<m.f3)∧preT m.f5 i<m.f5[i].f0∧1≤(m.f5[i].f1.length:Int)∧(m.f5[i].f1.length:Int)≤m.f1)&&Topo.apartR m.f4 [] m.f5[i].f1)&&temps m m.f5[i].f0 (m.f5.drop (i+1)))&&decide ((m.f6.length:Int)=m.f3∧trails m m.f6=true)))=v at hj1 hj2 ⊢
  generalize preT m.f5 i=p at *
  generalize (nth qI.z m.f5 (w64 ((i:Int) - 1))).f0=q at *
  generalize m.f5[i]=n at *
  repeat' (first | refine Ev.b0 (min' _ _ _) ?_ | refine Ev.i (fun _=>?_) (fun _=>?_))
  all_goals simp only [decide_eq_true_eq]at *
  all_goals first
   | exact hj1 (by omega)
   | exact hj2 (by omega)
   | (exfalso; omega)
theorem check(m:qK)(hm:Small m):Ev (fun k=>qY.f k m) (eno (decide (May m))):=by
 have hj1:¬ Flat m→Ev (fun k=>qY.j26 k m true) (eno (decide (May m))):=fun h=>.s (qY.j26_s · _ _) (.t rfl (.cv (by rw [dF (fun e:May m=>h e.1)]; rfl)))
 have hj2:Flat m→Ev (fun k=>qY.j26 k m false) (eno (decide (May m))):=fun h=>.s (qY.j26_s · _ _) (.n (by decide) ((qCd m hm h m.f5.length 0 (by omega)).v (by
  rw [List.drop_zero]
  congr 1
  rw [Bool.eq_iff_iff,Bool.and_eq_true,decide_eq_true_eq,decide_eq_true_eq]
  exact ⟨fun e=>⟨h,e⟩,fun e=>e.2⟩)))
 unfold qY.f
 generalize eno (decide (May m))=v at *
 unfold Flat at hj1 hj2
 refine .b0 (min' _ _ _) (.i (fun h=>.b0 (min' _ _ _) (.i (fun h=>.b0 (min' _ _ _) (.i (fun h=>.b0 (min' _ _ _) (.i (fun h=>.b (Topo.check m.f4 hm.h4) ?_) (fun h=>?_))) (fun h=>?_))) (fun h=>?_))) (fun h=>?_))
 all_goals simp only [decide_eq_true_eq]at *
 ·by_cases hN:Topo.Nodes m.f4
  ·rw [dT hN]
   refine hj2 ⟨?_,?_,?_,?_,hN⟩ <;> omega
  ·rw [dF hN]
   exact hj1 (fun e=>hN e.2.2.2.2)
 all_goals refine hj1 (fun e=>?_)
 all_goals have:=e.1
 all_goals have:=e.2.1
 all_goals have:=e.2.2.1
 all_goals have:=e.2.2.2.1
 all_goals omega
def ahead(s:qD)(seen:List qD):Bool:=decide (∀ x ∈ seen,x.f0<s.f0∧x.f1≠s.f1)
def pastR(m:qK)(since:Int):List qD→List qD→Bool
 | _,[]=>true
 | seen,s :: l=>(decide ((0≤s.f0∧s.f0<since)∧m.f2≤(s.f1.length:Int)∧(s.f1.length:Int)≤m.f1)&&riseI 0 s.f1&&ahead s seen)&&pastR m since (seen++[s]) l
theorem qAE(m:qK)(since:Int):∀(l seen:List qD)(p:Int),(∀ x ∈ seen,x.f0≤p)→(p = -1∨∃ x ∈ seen,x.f0=p)→past m since p seen l=pastR m since seen l
 | [],_,_,_,_=>rfl
 | s :: l,seen,p,h1,h2=>by
  rw [past,pastR]
  by_cases h:(0≤s.f0∧s.f0<since)∧p<s.f0∧m.f2≤(s.f1.length:Int)∧(s.f1.length:Int)≤m.f1
  ·have h':(0≤s.f0∧s.f0<since)∧m.f2≤(s.f1.length:Int)∧(s.f1.length:Int)≤m.f1:=⟨h.1,h.2.2⟩
   have ha:(!decide (∃ x ∈ seen,x.f1=s.f1))=ahead s seen:=by
    unfold ahead
    rw [Bool.eq_iff_iff,Bool.not_eq_true',decide_eq_false_iff_not,decide_eq_true_eq]
    exact ⟨fun e x hx=>⟨Int.lt_of_le_of_lt (h1 x hx) h.2.1,fun q=>e ⟨x,hx,q⟩⟩,fun e ⟨x,hx,q⟩=>(e x hx).2 q⟩
   rw [dT h,dT h',ha,qAE m since l (seen++[s]) s.f0 ?_ (.inr ⟨s,by simp,rfl⟩)]
   ·intro x hx
    rcases List.mem_append.1 hx with hx | hx
    ·have:=h1 x hx
     omega
    ·simp only [List.mem_cons,List.not_mem_nil,or_false]at hx
     rw [hx]
     exact Int.le_refl _
  ·rw [dF h]
   simp only [Bool.false_and]
   by_cases h3:(0≤s.f0∧s.f0<since)∧m.f2≤(s.f1.length:Int)∧(s.f1.length:Int)≤m.f1
   ·have:ahead s seen=false:=by
     unfold ahead
     rw [decide_eq_false_iff_not]
     intro e
     rcases h2 with rfl | ⟨x,hx,rfl⟩
     ·exact h ⟨h3.1,by omega,h3.2⟩
     ·exact h ⟨h3.1,(e x hx).1,h3.2⟩
    rw [this]
    simp
   ·rw [dF h3]
    simp
def trailsR(m:qK):List qC→Bool
 | []=>true
 | t :: l=>(decide (0≤t.f0∧t.f0≤m.f0)&&pastR m t.f0 [] t.f1)&&trailsR m l
theorem qAs(m:qK):∀ l:List qC,trails m l=trailsR m l
 | []=>rfl
 | t :: l=>by
  rw [trails,trailsR,qAs m l,qAE m t.f0 t.f1 [] (-1) (fun _ h=>nomatch h) (.inl rfl)]
theorem qCA (m:qK) (hm:Small m) (i x:Nat) (hi:i<m.f6.length) (hx:x<m.f6[i].f1.length) (w:Bool)
  (hy:ahead m.f6[i].f1[x] (m.f6[i].f1.take x)=false→w=false)
  (hn:ahead m.f6[i].f1[x] (m.f6[i].f1.take x)=true→Ev (fun k=>qB.l40 k m (i:Int) ((x+1:Nat):Int)) w) :
  ∀(d j:Nat),j+d=x→(∀ y ∈ m.f6[i].f1.take j,y.f0<m.f6[i].f1[x].f0∧y.f1≠m.f6[i].f1[x].f1)→Ev (fun k=>qB.l113 k m (i:Int) (x:Int) (j:Int)) w:=by
 have hz:=qAK qC.z _ _ hi
 have hz2:=qAK qD.z _ _ hx
 have hp:=hm.hp _ (gM hi)
 have hs:=hm.hs _ (gM hi)
 intro d
 induction d with
 | zero =>
  intro j hj h
  refine .s (qB.l113_s · _ _ _ _) (.n (by omega) ?_)
  obtain rfl:j=x:=by omega
  rw [w64n j (by omega)]
  exact hn (dT h)
 | succ d ih =>
  intro j hj h
  have h1:j<m.f6[i].f1.length:=by omega
  refine .s (qB.l113_s · _ _ _ _) ?_
  rw [hz,hz2,qAK _ _ _ h1]
  refine .t (by omega) (.t (by omega) ?_)
  have hin:m.f6[i].f1[j] ∈ m.f6[i].f1.take x:=List.mem_take_iff_getElem.2 ⟨j,by omega,rfl⟩
  refine .i (fun h2=>?_) (fun h2=>.b (ints _ _ (hs _ (gM h1))) ?_)
  ·refine .s (qB.j137_s · _ _ _ _ _) (.t rfl (.cv (hy ?_).symm))
   exact dF (fun e=>by have:=(e _ hin).1; omega)
  ·refine .s (qB.j137_s · _ _ _ _ _) (.i (fun h3=>.cv (hy ?_).symm) (fun h3=>?_))
   ·exact dF (fun e=>(e _ hin).2 (of_decide_eq_true h3))
   ·rw [w64n j (by omega)]
    refine ih (j+1) (by omega) ?_
    intro y hy
    rw [List.take_add_one,List.getElem?_eq_getElem h1,Option.toList_some]at hy
    rcases List.mem_append.1 hy with hy | hy
    ·exact h y hy
    ·simp only [List.mem_cons,List.not_mem_nil,or_false]at hy
     rw [hy]
     exact ⟨by omega,fun e=>h3 (dT e)⟩
theorem qCe (m:qK) (hm:Small m) (i x:Nat) (hi:i<m.f6.length) (hx:x<m.f6[i].f1.length) (w:Bool)
  (hc:riseI 0 m.f6[i].f1[x].f1=true→Ev (fun k=>qB.l113 k m (i:Int) (x:Int) 0) w)
  (hr:riseI 0 m.f6[i].f1[x].f1=false→w=false):∀(d j:Nat),j+d=m.f6[i].f1[x].f1.length→(riseI 0 m.f6[i].f1[x].f1=riseI (preI m.f6[i].f1[x].f1 j) (m.f6[i].f1[x].f1.drop j))→Ev (fun k=>qB.l76 k m (i:Int) (x:Int) (j:Int)) w:=by
 have hz:=qAK qC.z _ _ hi
 have hz2:=qAK qD.z _ _ hx
 have hsl:=hm.hs _ (gM hi) _ (gM hx)
 generalize hs:m.f6[i].f1[x]=s at *
 intro d
 induction d with
 | zero =>
  intro j hj he
  refine .s (qB.l76_s · _ _ _ _) ?_
  rw [hz,hz2]
  rw [List.drop_eq_nil_of_le (by omega)]at he
  exact .n (by omega) (hc he)
 | succ d ih =>
  intro j hj he
  have h1:j<s.f1.length:=by omega
  refine .s (qB.l76_s · _ _ _ _) ?_
  rw [hz,hz2]
  refine .t (by omega) (.t (by omega) ?_)
  rw [List.drop_eq_getElem_cons h1]at he
  simp only [riseI]at he
  have hb:∀ b:Bool,(b=true↔¬ ((1≤s.f1[j]∧s.f1[j]≤999)∧preI s.f1 j<s.f1[j]))→Ev (fun k=>qB.j104 k m (i:Int) (x:Int) (j:Int) b) w:=by
   intro b hb
   refine .s (qB.j104_s · _ _ _ _ _) ?_
   by_cases h:(1≤s.f1[j]∧s.f1[j]≤999)∧preI s.f1 j<s.f1[j]
   ·refine .n (fun e=>(hb.1 e) h) ?_
    rw [w64n j (by omega)]
    refine ih (j+1) (by omega) ?_
    rw [he,qBb _ j h1 hsl,dT h,Bool.true_and]
   ·refine .t (hb.2 h) (.cv (hr ?_).symm)
    rw [he,dF h]
    simp
  clear he ih hr hc
  rw [qAK _ _ _ h1]
  have hp0:j=0→preI s.f1 j=0:=fun e=>if_pos e
  have hp1:j≠0→nth 0 s.f1 (w64 ((j:Int) - 1))=preI s.f1 j:=fun e=>(if_neg e).symm
  have hw:j≠0→w64 ((j:Int) - 1)=((j - 1:Nat):Int):=fun e=>w64p j (by omega) (by omega)
  generalize preI s.f1 j=p at *
  generalize nth 0 s.f1 (w64 ((j:Int) - 1))=q at *
  generalize s.f1[j]=n at *
  clear hs hz hz2
  repeat' (first | refine Ev.i (fun _=>?_) (fun _=>?_))
  all_goals first
   | exact hb _ (by simp only [decide_eq_true_eq,Bool.false_eq_true,true_iff,false_iff]; omega)
   | (exfalso; omega)
theorem qCf (m:qK) (hm:Small m) (i:Nat) (hi:i<m.f6.length) (w:Bool→Bool)
  (hn:Ev (fun k=>qB.l7 k m ((i+1:Nat):Int)) (w true)) (hw:w false=false) :
  ∀(d j:Nat),j+d=m.f6[i].f1.length→Ev (fun k=>qB.l40 k m (i:Int) (j:Int)) (w (pastR m m.f6[i].f0 (m.f6[i].f1.take j) (m.f6[i].f1.drop j))):=by
 have hz:=qAK qC.z _ _ hi
 have hp:=hm.hp _ (gM hi)
 have h6:=hm.h6
 intro d
 induction d with
 | zero =>
  intro j hj
  refine .s (qB.l40_s · _ _ _) ?_
  rw [hz]
  refine .n (by omega) ?_
  rw [List.drop_eq_nil_of_le (by omega),w64n i (by omega)]
  exact hn
 | succ d ih =>
  intro j hj
  have h1:j<m.f6[i].f1.length:=by omega
  refine .s (qB.l40_s · _ _ _) ?_
  rw [hz]
  refine .t (by omega) (.t (by omega) ?_)
  have ih:=ih (j+1) (by omega)
  rw [List.take_add_one,List.getElem?_eq_getElem h1,Option.toList_some]at ih
  rw [qAK _ _ _ h1,List.drop_eq_getElem_cons h1]
  simp only [pastR]
  have hb:∀ b:Bool,(b=true↔¬ ((0≤m.f6[i].f1[j].f0∧m.f6[i].f1[j].f0<m.f6[i].f0)∧m.f2≤(m.f6[i].f1[j].f1.length:Int)∧(m.f6[i].f1[j].f1.length:Int)≤m.f1))→Ev (fun k=>qB.j66 k m (i:Int) (j:Int) b) (w ((decide ((0≤m.f6[i].f1[j].f0∧m.f6[i].f1[j].f0<m.f6[i].f0)∧m.f2≤(m.f6[i].f1[j].f1.length:Int)∧(m.f6[i].f1[j].f1.length:Int)≤m.f1)&&riseI 0 m.f6[i].f1[j].f1&&ahead m.f6[i].f1[j] (m.f6[i].f1.take j))&&pastR m m.f6[i].f0 (m.f6[i].f1.take j++[m.f6[i].f1[j]]) (m.f6[i].f1.drop (j+1)))):=by
   intro b hb
   refine .s (qB.j66_s · _ _ _ _) ?_
   by_cases h:(0≤m.f6[i].f1[j].f0∧m.f6[i].f1[j].f0<m.f6[i].f0)∧m.f2≤(m.f6[i].f1[j].f1.length:Int)∧(m.f6[i].f1[j].f1.length:Int)≤m.f1
   ·refine .n (fun e=>(hb.1 e) h) ?_
    rw [dT h,Bool.true_and]
    refine qCe m hm i j hi h1 _ ?_ ?_ m.f6[i].f1[j].f1.length 0 (by omega) (by rw [List.drop_zero]; rfl)
    ·intro h2
     refine qCA m hm i j hi h1 _ ?_ ?_ j 0 (by omega) (fun _ hy=>by rw [List.take_zero]at hy; cases hy)
     ·intro h3
      rw [h3,Bool.and_false,Bool.false_and]
      exact hw
     ·intro h3
      refine ih.v ?_
      rw [h2,h3]
      rfl
    ·intro h2
     rw [h2]
     exact hw
   ·refine .t (hb.2 h) (.cv ?_)
    rw [dF h]
    exact hw.symm
  clear ih hn
  generalize (w ((decide ((0≤m.f6[i].f1[j].f0∧m.f6[i].f1[j].f0<m.f6[i].f0)∧m.f2≤(m.f6[i].f1[j].f1.length:Int)∧(m.f6[i].f1[j].f1.length:Int)≤m.f1)&&riseI 0 m.f6[i].f1[j].f1&&ahead m.f6[i].f1[j] (m.f6[i].f1.take j))&&pastR m m.f6[i].f0 (m.f6[i].f1.take j++[m.f6[i].f1[j]]) (m.f6[i].f1.drop (j+1))))=v at hb ⊢
  generalize m.f6[i].f1[j]=n at *
  generalize m.f6[i].f0=q at *
  clear hz
  repeat' (first | refine Ev.i (fun _=>?_) (fun _=>?_))
  all_goals first
   | exact hb _ (by simp only [decide_eq_true_eq,Bool.false_eq_true,true_iff,false_iff]; omega)
   | (exfalso; omega)
theorem qCx(m:qK)(hm:Small m):∀(d i:Nat),i+d=m.f6.length→Ev (fun k=>qB.l7 k m (i:Int)) (trailsR m (m.f6.drop i)&&decide ((m.f6.length:Int)=m.f3)):=by
 have h6:=hm.h6
 intro d
 induction d with
 | zero =>
  intro i hi
  refine .s (qB.l7_s · _ _) (.n (by omega) (.cv ?_))
  rw [List.drop_eq_nil_of_le (by omega),trailsR,Bool.true_and]
  rw [Bool.eq_iff_iff,decide_eq_true_eq,beq_iff_eq]
 | succ d ih =>
  intro i hi
  have h1:i<m.f6.length:=by omega
  refine .s (qB.l7_s · _ _) (.t (by omega) (.t (by omega) ?_))
  have ih:=ih (i+1) (by omega)
  rw [qAK _ _ _ h1,List.drop_eq_getElem_cons h1,trailsR]
  have hj:∀ b:Bool,(b=true↔¬ (0≤m.f6[i].f0∧m.f6[i].f0≤m.f0))→Ev (fun k=>qB.j31 k m (i:Int) b) (decide (0≤m.f6[i].f0∧m.f6[i].f0≤m.f0)&&pastR m m.f6[i].f0 [] m.f6[i].f1&&trailsR m (m.f6.drop (i+1))&&decide ((m.f6.length:Int)=m.f3)):=by
   intro b hb
   refine .s (qB.j31_s · _ _ _) ?_
   by_cases h:0≤m.f6[i].f0∧m.f6[i].f0≤m.f0
   ·refine .n (fun e=>(hb.1 e) h) ?_
    rw [dT h,Bool.true_and]
    have:=qCf m hm i h1 (fun b=>b&&trailsR m (m.f6.drop (i+1))&&decide ((m.f6.length:Int)=m.f3)) ih rfl m.f6[i].f1.length 0 (by omega)
    rw [List.take_zero,List.drop_zero]at this
    exact this
   ·refine .t (hb.2 h) (.cv ?_)
    rw [dF h]
    simp
  refine .i (fun h=>hj _ ?_) (fun h=>hj _ ?_)
  ·simp only [true_iff]; omega
  ·simp only [decide_eq_true_eq]; omega
theorem pasts(m:qK)(hm:Small m):Ev (fun k=>qB.f k m) (decide ((m.f6.length:Int)=m.f3∧trails m m.f6=true)):=by
 unfold qB.f
 refine (qCx m hm m.f6.length 0 (by omega)).v ?_
 rw [List.drop_zero,← qAs,Bool.eq_iff_iff,Bool.and_eq_true,decide_eq_true_eq,decide_eq_true_eq]
 exact And.comm
theorem qDX(m:qK)(hm:Small m)(hf:Flat m):∀(d i:Nat),i+d=m.f5.length→Ev (fun k=>qJ.l28 k m (i:Int)) (temps m (preT m.f5 i) (m.f5.drop i)&&decide ((m.f6.length:Int)=m.f3∧trails m m.f6=true)):=by
 have h5:=hm.h5
 have hg:=hf.2.2.2.1
 intro d
 induction d with
 | zero =>
  intro i hi
  refine .s (qJ.l28_s · _ _) (.n (by omega) (.b (pasts m hm) (.cv ?_)))
  rw [List.drop_eq_nil_of_le (by omega)]
  rfl
 | succ d ih =>
  intro i hi
  have h1:i<m.f5.length:=by omega
  refine .s (qJ.l28_s · _ _) (.t (by omega) (.t (by omega) ?_))
  have ih:=ih (i+1) (by omega)
  rw [qBa _ i h1 h5]at ih
  rw [qAK _ _ _ h1,List.drop_eq_getElem_cons h1,temps]
  have hj:∀ b:Bool,(b = !(decide ((0≤m.f5[i].f0∧m.f5[i].f0<m.f3)∧preT m.f5 i<m.f5[i].f0∧1≤(m.f5[i].f1.length:Int)∧(m.f5[i].f1.length:Int)≤m.f1)&&Topo.apartR m.f4 [] m.f5[i].f1))→Ev (fun k=>qJ.j71 k m (i:Int) b) (((decide ((0≤m.f5[i].f0∧m.f5[i].f0<m.f3)∧preT m.f5 i<m.f5[i].f0∧1≤(m.f5[i].f1.length:Int)∧(m.f5[i].f1.length:Int)≤m.f1)&&Topo.apartR m.f4 [] m.f5[i].f1)&&temps m m.f5[i].f0 (m.f5.drop (i+1)))&&decide ((m.f6.length:Int)=m.f3∧trails m m.f6=true)):=by
   intro b hb
   refine .s (qJ.j71_s · _ _ _) ?_
   rw [w64n i (by omega)]
   generalize (decide ((0≤m.f5[i].f0∧m.f5[i].f0<m.f3)∧preT m.f5 i<m.f5[i].f0∧1≤(m.f5[i].f1.length:Int)∧(m.f5[i].f1.length:Int)≤m.f1)&&Topo.apartR m.f4 [] m.f5[i].f1)=c at hb ⊢
   subst hb
   cases c with
   | true=>exact .n (by decide) ih
   | false=>exact .t rfl (.c _)
  clear ih
  have hj1:¬ ((0≤m.f5[i].f0∧m.f5[i].f0<m.f3)∧preT m.f5 i<m.f5[i].f0∧1≤(m.f5[i].f1.length:Int)∧(m.f5[i].f1.length:Int)≤m.f1)→Ev (fun k=>qJ.j71 k m (i:Int) true) _:=fun h=>hj true (by rw [dF h]; rfl)
  have hj2:((0≤m.f5[i].f0∧m.f5[i].f0<m.f3)∧preT m.f5 i<m.f5[i].f0∧1≤(m.f5[i].f1.length:Int)∧(m.f5[i].f1.length:Int)≤m.f1)→Ev (fun k=>(qN.f k m.f4 m.f5[i].f1).bind fun t75=>qJ.j71 k m (i:Int) (!t75)) _:=fun h=>.b (Topo.refapart m.f4 m.f5[i].f1 hm.h4 (by have:=hf.2.1; omega)) (hj _ (by rw [dT h]; rfl))
  have hp0:i=0→preT m.f5 i = -1:=fun e=>if_pos e
  have hp1:i≠0→(nth qI.z m.f5 (w64 ((i:Int) - 1))).f0=preT m.f5 i:=fun e=>(if_neg e).symm
  have hw:i≠0→w64 ((i:Int) - 1)=((i - 1:Nat):Int):=fun e=>w64p i (by omega) (by omega)
  clear hj
  generalize (((decide ((0≤m.f5[i].f0∧m.f5[i].f0<m.f3)∧preT m.f5 i<m.f5[i].f0∧1≤(m.f5[i].f1.length:Int)∧(m.f5[i].f1.length:Int)≤m.f1)&&Topo.apartR m.f4 [] m.f5[i].f1)&&temps m m.f5[i].f0 (m.f5.drop (i+1)))&&decide ((m.f6.length:Int)=m.f3∧trails m m.f6=true))=v at hj1 hj2 ⊢
  generalize preT m.f5 i=p at *
  generalize (nth qI.z m.f5 (w64 ((i:Int) - 1))).f0=q at *
  generalize m.f5[i]=n at *
  repeat' (first | refine Ev.i (fun _=>?_) (fun _=>?_))
  all_goals first
   | exact hj1 (by omega)
   | exact hj2 (by omega)
   | (exfalso; omega)
theorem may(m:qK)(hm:Small m):Ev (fun k=>qJ.f k m) (decide (May m)):=by
 have hj1:¬ Flat m→Ev (fun k=>qJ.j18 k m true) (decide (May m)):=fun h=>.s (qJ.j18_s · _ _) (.t rfl (.cv (dF (fun e:May m=>h e.1)).symm))
 have hj2:Flat m→Ev (fun k=>qJ.j18 k m false) (decide (May m)):=fun h=>.s (qJ.j18_s · _ _) (.n (by decide) ((qDX m hm h m.f5.length 0 (by omega)).v (by
  rw [List.drop_zero,Bool.eq_iff_iff,Bool.and_eq_true,decide_eq_true_eq,decide_eq_true_eq]
  exact ⟨fun e=>⟨h,e⟩,fun e=>e.2⟩)))
 have hj3:(0≤m.f0∧m.f0≤2147483647)∧(1≤m.f1∧m.f1≤3)∧(1≤m.f2∧m.f2≤m.f1)∧(1≤m.f3∧m.f3≤8)→Ev (fun k=>(qO.f k m.f4).bind fun t15=>qJ.j18 k m (!t15)) (decide (May m)):=by
  intro h
  refine .b (Topo.may m.f4 hm.h4) ?_
  by_cases hN:Topo.Nodes m.f4
  ·rw [dT hN]
   exact hj2 ⟨h.1,h.2.1,h.2.2.1,h.2.2.2,hN⟩
  ·rw [dF hN]
   exact hj1 (fun e=>hN e.2.2.2.2)
 unfold qJ.f
 generalize decide (May m)=v at *
 have hj4:¬ ((0≤m.f0∧m.f0≤2147483647)∧(1≤m.f1∧m.f1≤3)∧(1≤m.f2∧m.f2≤m.f1)∧(1≤m.f3∧m.f3≤8))→Ev (fun k=>qJ.j18 k m true) v:=fun h=>hj1 (fun e=>h ⟨e.1,e.2.1,e.2.2.1,e.2.2.2.1⟩)
 clear hj1 hj2
 repeat' (first | refine Ev.i (fun _=>?_) (fun _=>?_))
 all_goals first
  | exact hj4 (by omega)
  | exact hj3 (by omega)
theorem qCB(l:List qA)(hl:l.length<4611686018427387904):∀(d i:Nat),i+d=l.length→Ev (fun k=>qe.l9 k l l (i:Int)) true:=by
 intro d
 induction d with
 | zero=>exact fun i hi=>.s (qe.l9_s · _ _ _) (.n (by omega) (.c _))
 | succ d ih =>
  intro i hi
  refine .s (qe.l9_s · _ _ _) (.t (by omega) (.t (by omega) (.t (by omega) (.t rfl ?_))))
  rw [w64n i (by omega)]
  exact ih (i+1) (by omega)
theorem qCC(l:List qD)(hl:l.length<4611686018427387904)(hs:∀ s ∈ l,s.f1.length<4611686018427387904):∀(d i:Nat),i+d=l.length→Ev (fun k=>qT.l9 k l l (i:Int)) true:=by
 intro d
 induction d with
 | zero=>exact fun i hi=>.s (qT.l9_s · _ _ _) (.n (by omega) (.c _))
 | succ d ih =>
  intro i hi
  have h1:i<l.length:=by omega
  refine .s (qT.l9_s · _ _ _) (.t (by omega) (.t (by omega) (.t (by omega) (.t rfl ?_))))
  rw [qAK _ _ _ h1]
  refine .b (ints _ _ (hs _ (gM h1))) (.s (qT.j45_s · _ _ _ _) ?_)
  rw [dT rfl,w64n i (by omega)]
  exact .n (by decide) (ih (i+1) (by omega))
theorem qBj(l:List qC)(hl:l.length<4611686018427387904)(hp:∀ t ∈ l,t.f1.length<4611686018427387904)(hs:∀ t ∈ l,∀ s ∈ t.f1,s.f1.length<4611686018427387904):∀(d i:Nat),i+d=l.length→Ev (fun k=>qQ.l9 k l l (i:Int)) true:=by
 intro d
 induction d with
 | zero=>exact fun i hi=>.s (qQ.l9_s · _ _ _) (.n (by omega) (.c _))
 | succ d ih =>
  intro i hi
  have h1:i<l.length:=by omega
  have hsp:Ev (fun k=>qT.f k l[i].f1 l[i].f1) true:=by
   unfold qT.f
   exact .t rfl (qCC _ (hp _ (gM h1)) (hs _ (gM h1)) _ 0 (Nat.zero_add _))
  refine .s (qQ.l9_s · _ _ _) (.t (by omega) (.t (by omega) (.t (by omega) (.t rfl ?_))))
  rw [qAK _ _ _ h1]
  refine .b hsp (.s (qQ.j45_s · _ _ _ _) (.n (by decide) ?_))
  rw [w64n i (by omega)]
  exact ih (i+1) (by omega)
theorem same_refl(m:qK)(hm:Small m)(ht:∀ t ∈ m.f5,t.f1.length<4611686018427387904):Ev (fun k=>qM.f k m m) true:=by
 have h4:=hm.h4
 have h5:=hm.h5
 have h6:=hm.h6
 have hN:Ev (fun k=>qe.f k m.f4 m.f4) true:=by
  unfold qe.f
  exact .t rfl (qCB _ h4 _ 0 (Nat.zero_add _))
 have hT:Ev (fun k=>qQ.f k m.f6 m.f6) true:=by
  unfold qQ.f
  exact .t rfl (qBj _ h6 hm.hp hm.hs _ 0 (Nat.zero_add _))
 have hL:∀(d i:Nat),i+d=m.f5.length→Ev (fun k=>qM.l27 k m m (i:Int)) true:=by
  intro d
  induction d with
  | zero=>exact fun i hi=>.s (qM.l27_s · _ _ _) (.n (by omega) (.b hT (.c _)))
  | succ d ih =>
   intro i hi
   have h1:i<m.f5.length:=by omega
   refine .s (qM.l27_s · _ _ _) (.t (by omega) (.t (by omega) (.t (by omega) (.t rfl ?_))))
   rw [qAK _ _ _ h1]
   refine .b (ints _ _ (ht _ (gM h1))) (.s (qM.j63_s · _ _ _ _) ?_)
   rw [dT rfl,w64n i (by omega)]
   exact .n (by decide) (ih (i+1) (by omega))
 unfold qM.f
 refine .t rfl (.t rfl (.t rfl (.t rfl (.b hN (.t rfl (.s (qM.j17_s · _ _ _) ?_))))))
 rw [show ((m.f5.length:Int) == (m.f5.length:Int))=true from beq_self_eq_true _]
 exact .n (by decide) (hL _ 0 (Nat.zero_add _))
structure Lit8 (m:qK):Prop where
 h4:m.f4.length≤30
 h5:m.f5.length≤20
 h6:m.f6.length≤20
 ht:∀ t ∈ m.f5,t.f1.length≤20
 hp:∀ t ∈ m.f6,t.f1.length≤20
 hs:∀ t ∈ m.f6,∀ s ∈ t.f1,s.f1.length≤20
theorem Lit8.small{m:qK}(h:Lit8 m):Small m:=by
 have h4:=h.h4
 have h5:=h.h5
 have h6:=h.h6
 exact ⟨by omega,by omega,by omega,fun t ht=>by have:=h.hp t ht; omega,fun t ht s hs=>by have:=h.hs t ht s hs; omega⟩
theorem light(m:qK):Ht (fun k=>qF.f k m) (fun b=>b=true→Lit8 m):=by
 have h65:∀(i:Nat)(hi:i<m.f6.length),m.f6[i].f1.length≤20→(∀ t ∈ m.f6.take i,t.f1.length≤20∧∀ s ∈ t.f1,s.f1.length≤20)→(∀ t ∈ m.f5.take 20,t.f1.length≤20) →
   ((∀ t ∈ m.f6.take (i+1),t.f1.length≤20∧∀ s ∈ t.f1,s.f1.length≤20)→Ht (fun k=>qF.l36 k m ((i+1:Nat):Int)) (fun b=>b=true→Lit8 m))→i<20 →
   ∀(d j:Nat),j+d=m.f6[i].f1.length→(∀ s ∈ m.f6[i].f1.take j,s.f1.length≤20)→Ht (fun k=>qF.l65 k m (i:Int) (j:Int)) (fun b=>b=true→Lit8 m):=by
  intro i hi h20 hp ht hk hi20 d
  induction d with
  | zero =>
   intro j hj hs
   refine .s (qF.l65_s · _ _ _) ?_
   rw [qAK _ _ _ hi,w64n i (by omega)]
   refine .n (by omega) (hk (fun t hm=>?_))
   rw [← List.take_append_getElem hi]at hm
   rcases List.mem_append.1 hm with hm | hm
   ·exact hp t hm
   ·rw [List.mem_singleton.1 hm]
    exact ⟨h20,fun s hsm=>hs s (by rw [List.take_of_length_le (by omega)]; exact hsm)⟩
  | succ d ih =>
   intro j hj hs
   have h1:j<m.f6[i].f1.length:=by omega
   refine .s (qF.l65_s · _ _ _) ?_
   rw [qAK _ _ _ hi]
   refine .t (by omega) (.t (by omega) ?_)
   rw [qAK _ _ _ h1,w64n j (by omega)]
   refine .i (fun _=>.c (fun e=>nomatch e)) (fun c=>ih (j+1) (by omega) (fun s hsm=>?_))
   rw [← List.take_append_getElem h1]at hsm
   rcases List.mem_append.1 hsm with hsm | hsm
   ·exact hs s hsm
   ·rw [List.mem_singleton.1 hsm]
    omega
 have h36:∀(d i:Nat),i+d=min 20 m.f6.length→(∀ t ∈ m.f6.take i,t.f1.length≤20∧∀ s ∈ t.f1,s.f1.length≤20)→(∀ t ∈ m.f5.take 20,t.f1.length≤20)→Ht (fun k=>qF.l36 k m (i:Int)) (fun b=>b=true→Lit8 m):=by
  intro d
  induction d with
  | zero =>
   intro i hi hp ht
   have fin:Ht (fun k=>qF.j44 k m (i:Int) false) (fun b=>b=true→Lit8 m):=by
    refine .s (qF.j44_s · _ _ _) (.n (by decide) (.i (fun c4=>.i (fun c5=>.c (fun e=>?_)) (fun _=>.c (fun e=>nomatch e))) (fun _=>.c (fun e=>nomatch e))))
    have c6:=of_decide_eq_true e
    rw [List.take_of_length_le (by omega)]at hp
    rw [List.take_of_length_le (by omega)]at ht
    exact ⟨by omega,by omega,by omega,ht,fun t hm=>(hp t hm).1,fun t hm=>(hp t hm).2⟩
   refine .s (qF.l36_s · _ _) (.i (fun c=>?_) (fun _=>fin))
   rw [dF (by omega)]
   exact fin
  | succ d ih =>
   intro i hi hp ht
   have h1:i<m.f6.length:=by omega
   refine .s (qF.l36_s · _ _) (.t (by omega) ?_)
   rw [dT (by omega)]
   refine .s (qF.j44_s · _ _ _) (.t rfl (.t (by omega) ?_))
   rw [qAK _ _ _ h1]
   exact .i (fun _=>.c (fun e=>nomatch e)) (fun c=>h65 i h1 (by omega) hp ht (fun q=>ih (i+1) (by omega) q ht) (by omega) m.f6[i].f1.length 0 (by omega) (fun _ h=>nomatch h))
 have h7:∀(d i:Nat),i+d=min 20 m.f5.length→(∀ t ∈ m.f5.take i,t.f1.length≤20)→Ht (fun k=>qF.l7 k m (i:Int)) (fun b=>b=true→Lit8 m):=by
  intro d
  induction d with
  | zero =>
   intro i hi ht
   have fin:Ht (fun k=>qF.j15 k m (i:Int) false) (fun b=>b=true→Lit8 m):=by
    refine .s (qF.j15_s · _ _ _) (.n (by decide) (h36 (min 20 m.f6.length) 0 (by omega) (fun _ h=>nomatch h) ?_))
    by_cases c:m.f5.length≤20
    ·rw [List.take_of_length_le (by omega)]at ht ⊢
     exact ht
    ·rwa [show i=20 by omega]at ht
   refine .s (qF.l7_s · _ _) (.i (fun c=>?_) (fun _=>fin))
   rw [dF (by omega)]
   exact fin
  | succ d ih =>
   intro i hi ht
   have h1:i<m.f5.length:=by omega
   refine .s (qF.l7_s · _ _) (.t (by omega) ?_)
   rw [dT (by omega)]
   refine .s (qF.j15_s · _ _ _) (.t rfl (.t (by omega) ?_))
   rw [qAK _ _ _ h1,w64n i (by omega)]
   refine .i (fun _=>.c (fun e=>nomatch e)) (fun c=>ih (i+1) (by omega) (fun t hm=>?_))
   rw [← List.take_append_getElem h1]at hm
   rcases List.mem_append.1 hm with hm | hm
   ·exact ht t hm
   ·rw [List.mem_singleton.1 hm]
    omega
 exact h7 (min 20 m.f5.length) 0 (by omega) (fun _ h=>nomatch h)
end Maps
namespace Read
def bit:Bool→Int
 | true=>1
 | false=>0
def encN(n:qA):List Int:=[n.f0,n.f1,n.f2,n.f3,bit n.f4,bit n.f5]
def encT(t:qI):List Int:=t.f0 :: (t.f1.length:Int) :: t.f1
def encS(s:qD):List Int:=s.f0 :: (s.f1.length:Int) :: s.f1
def encTr(t:qC):List Int:=t.f0 :: (t.f1.length:Int) :: t.f1.flatMap encS
def enc(m:qK):List Int:=m.f0 :: m.f1 :: m.f2 :: m.f3 :: (m.f4.length:Int) :: (m.f4.flatMap encN++(m.f5.length:Int) :: (m.f5.flatMap encT++m.f6.flatMap encTr))
theorem qBP{α : Type}(f : α→List Int)(n:Nat):∀ l:List α,(∀ x ∈ l,n≤(f x).length)→l.length * n≤(l.flatMap f).length
 | [],_=>by simp
 | x :: l,h=>by
  have h1:=qBP f n l (fun y m=>h y (List.mem_cons_of_mem _ m))
  have h2:=h x List.mem_cons_self
  rw [List.flatMap_cons,lA,List.length_cons,Nat.succ_mul]
  omega
theorem qAt{α : Type}(f : α→List Int)(n:Nat):∀ l:List α,(∀ x ∈ l,(f x).length≤n)→(l.flatMap f).length≤l.length * n
 | [],_=>by simp
 | x :: l,h=>by
  have h1:=qAt f n l (fun y m=>h y (List.mem_cons_of_mem _ m))
  have h2:=h x List.mem_cons_self
  rw [List.flatMap_cons,lA,List.length_cons,Nat.succ_mul]
  omega
def nx(r:qE):Int × qE:=match r.f0 with
 | []=>(0,⟨[],true⟩)
 | n :: l=>(n,⟨l,r.f1⟩)
theorem next(r:qE):qU.f r=some (nx r):=by
 obtain ⟨l,b⟩:=r
 unfold qU.f nx
 cases l with
 | nil=>rfl
 | cons n l =>
  dsimp only [List.length_cons]
  rw [if_neg (by omega),if_pos (by omega),if_pos (by omega)]
  simp [nth,cutl]
theorem qAR(r:qE)(h:(nx r).2.f1=false):r.f1=false∧r.f0=(nx r).1 :: (nx r).2.f0:=by
 obtain ⟨l,b⟩:=r
 cases l with
 | nil=>cases h
 | cons n l=>exact ⟨h,rfl⟩
theorem qAU(r:qE):(nx r).2.f0.length≤r.f0.length:=by
 obtain ⟨l,b⟩:=r
 cases l with
 | nil=>exact Nat.le_refl _
 | cons n l=>exact Nat.le_succ _
def cnt(r:qE)(e:Int):Int × qE:=if (nx r).1<0∨(nx r).1>(((nx r).2.f0.length:Int).tdiv e) then (0,⟨(nx r).2.f0,true⟩) else nx r
theorem count(r:qE)(e:Int)(he:1≤e)(hl:r.f0.length<4611686018427387904):Ev (fun k=>qZ.f k r e) (cnt r e):=by
 have h1:=qAU r
 unfold qZ.f cnt
 have hd:0≤(((nx r).2.f0.length:Int).tdiv e)∧(((nx r).2.f0.length:Int).tdiv e)≤((nx r).2.f0.length:Int):=by
  rw [Int.tdiv_eq_ediv_of_nonneg (by omega)]
  exact ⟨Int.ediv_nonneg (by omega) (by omega),Int.ediv_le_self _ (by omega)⟩
 refine .b0 (next r) ?_
 rw [qBW (by omega) (by omega)]
 generalize (((nx r).2.f0.length:Int).tdiv e)=x at *
 generalize nx r=q at *
 refine .i (fun h=>.s (qZ.j15_s · _ _) (.t rfl (.cv ?_))) (fun h=>.t (by omega) (.s (qZ.j15_s · _ _) (.i (fun h2=>.cv ?_) (fun h2=>.cv ?_))))
 ·rw [if_pos (.inl h)]
 ·rw [if_pos (.inr (of_decide_eq_true h2))]
 ·rw [if_neg (fun o=>o.elim h (fun n=>h2 (dT n)))]
theorem qAh(r:qE)(e:Int)(h:(cnt r e).2.f1=false):r.f1=false∧r.f0=(cnt r e).1 :: (cnt r e).2.f0:=by
 unfold cnt at *
 split at h
 ·cases h
 ·rename_i h2
  rw [if_neg h2]
  exact qAR r h
theorem qBF(r:qE)(e:Int)(he:1≤e):0≤(cnt r e).1∧(cnt r e).1≤(((cnt r e).2.f0.length:Int).tdiv e)∧(cnt r e).1≤((cnt r e).2.f0.length:Int)∧(cnt r e).2.f0.length≤r.f0.length:=by
 have h1:=qAU r
 have hd:∀ n:Nat,0≤(n:Int).tdiv e∧(n:Int).tdiv e≤(n:Int):=by
  intro n
  rw [Int.tdiv_eq_ediv_of_nonneg (by omega)]
  exact ⟨Int.ediv_nonneg (by omega) (by omega),Int.ediv_le_self _ (by omega)⟩
 have hd:=hd (nx r).2.f0.length
 unfold cnt
 by_cases h:(nx r).1<0∨(nx r).1>(((nx r).2.f0.length:Int).tdiv e)
 ·rw [if_pos h]
  exact ⟨by omega,hd.1,by omega,h1⟩
 ·rw [if_neg h]
  exact ⟨by omega,by omega,by omega,h1⟩
theorem qAl(n e:Int)(l:List Int)(b:Bool)(he:1≤e)(h0:0≤n)(h:n * e≤(l.length:Int)):cnt ⟨n :: l,b⟩ e=(n,⟨l,b⟩):=by
 unfold cnt
 refine if_neg ?_
 show ¬ (n<0∨n>((l.length:Int).tdiv e))
 rw [Int.tdiv_eq_ediv_of_nonneg (by omega)]
 have:=(Int.le_ediv_iff_mul_le (show 0<e by omega)).2 h
 omega
def lst(r:qE):List Int × qE:=((cnt r 1).2.f0.take (cnt r 1).1.toNat,⟨(cnt r 1).2.f0.drop (cnt r 1).1.toNat,(cnt r 1).2.f1⟩)
theorem list(r:qE)(hl:r.f0.length<1000000):Ev (fun k=>qu.f k r) (lst r):=by
 have h:=qBF r 1 (by omega)
 unfold qu.f
 refine .b (count r 1 (by omega) (by omega)) (.t (by omega) ?_)
 obtain ⟨n,hn⟩:∃ n:Nat,(cnt r 1).1=n:=⟨(cnt r 1).1.toNat,by omega⟩
 have e1:cutl (cnt r 1).2.f0 0 (cnt r 1).1=(cnt r 1).2.f0.take (cnt r 1).1.toNat:=by simp [cutl]
 have e2:cutl (cnt r 1).2.f0 (cnt r 1).1 ((cnt r 1).2.f0.length:Int)=(cnt r 1).2.f0.drop (cnt r 1).1.toNat:=by
  simp only [cutl]
  first
   | rfl
   | (rw [List.take_of_length_le]; simp; omega)
   | simp
 refine .b0 (a:=(cnt r 1).2.f0.take (cnt r 1).1.toNat) ?_ (.cv ?_)
 ·unfold qs.f
  rw [e1,if_pos]
  ·rfl
  ·simp only [List.length_nil,List.length_take]
   omega
 ·rw [e2]
  rfl
theorem qBc(r:qE)(h:(lst r).2.f1=false):r.f1=false∧r.f0=((lst r).1.length:Int) :: ((lst r).1++(lst r).2.f0):=by
 have h1:=qBF r 1 (by omega)
 obtain ⟨h2,h3⟩:=qAh r 1 h
 refine ⟨h2,?_⟩
 rw [h3]
 unfold lst
 rw [List.take_append_drop]
 congr 1
 simp only [List.length_take]
 omega
theorem qCg(r:qE):(lst r).1.length≤r.f0.length∧(lst r).2.f0.length≤r.f0.length:=by
 have h1:=qBF r 1 (by omega)
 unfold lst
 simp only [List.length_take,List.length_drop]
 omega
theorem qBs(v l:List Int)(b:Bool):lst ⟨(v.length:Int) :: (v++l),b⟩=(v,⟨l,b⟩):=by
 unfold lst
 rw [qAl _ _ _ _ (by omega) (by omega) (by simp; omega)]
 simp
def fl(r:qE):Bool × qE:=((nx r).1 == 1,⟨(nx r).2.f0,(nx r).2.f1||decide ((nx r).1<0)||decide ((nx r).1>1)⟩)
theorem flag(r:qE):qt.f r=some (fl r):=by
 unfold qt.f fl
 rw [next,Option.bind_some]
 generalize nx r=q
 cases h:q.2.f1 with
 | true=>simp
 | false =>
  by_cases h2:q.1<0
  ·simp [h2]
  ·simp [h2]
theorem qBt(r:qE)(h:(fl r).2.f1=false):r.f1=false∧r.f0=bit (fl r).1 :: (fl r).2.f0:=by
 unfold fl at h ⊢
 simp only [Bool.or_eq_false_iff,decide_eq_false_iff_not]at h
 obtain ⟨h1,h2⟩:=qAR r h.1.1
 refine ⟨h1,?_⟩
 rw [h2]
 congr 1
 have:(nx r).1=0∨(nx r).1=1:=by omega
 rcases this with e | e <;> rw [e] <;> rfl
theorem qDD(r:qE):(fl r).2.f0.length≤r.f0.length:=qAU r
theorem qCh(v:Bool)(l:List Int):fl ⟨bit v :: l,false⟩=(v,⟨l,false⟩):=by
 cases v <;> rfl
def PostT(r:qE)(w:qC × qE):Prop:=w.2.f0.length≤4000∧w.1.f1.length≤4000∧(∀ s ∈ w.1.f1,s.f1.length≤4000)∧(w.2.f1=false→r.f1=false∧r.f0=encTr w.1++w.2.f0)∧(∀ t rest,r=⟨encTr t++rest,false⟩→w=(t,⟨rest,false⟩))
theorem qCi(r:qE)(t6 t18:Int × qE)(hN:t18.1≤4000):∀(d i:Nat)(l:List Int)(b:Bool)(sp:List qD),(i:Int)+d=t18.1→l.length≤4000→sp.length=i→(∀ s ∈ sp,s.f1.length≤4000)→(b=false→r.f1=false∧r.f0=t6.1 :: t18.1 :: (sp.flatMap encS++l))→(∀ t rest,r=⟨encTr t++rest,false⟩→b=false∧t6.1=t.f0∧t18.1=t.f1.length∧sp=t.f1.take i∧l=(t.f1.drop i).flatMap encS++rest)→Ht (fun k=>qf.l35 k t6 t18 (i:Int) l b sp) (PostT r):=by
 intro d
 induction d with
 | zero =>
  intro i l b sp hi hl hsl hs h1 h2
  refine .s (qf.l35_s · _ _ _ _ _ _) (.n (by omega) (.c ⟨hl,by show sp.length≤4000; omega,hs,?_,?_⟩))
  ·intro hb
   obtain ⟨q1,q2⟩:=h1 hb
   refine ⟨q1,?_⟩
   rw [q2]
   show _=t6.1 :: (sp.length:Int) :: sp.flatMap encS++l
   rw [hsl,show t18.1=(i:Int) by omega]
   rfl
  ·intro t rest hr
   obtain ⟨rfl,q1,q2,q3,q4⟩:=h2 t rest hr
   have hti:t.f1.length=i:=by omega
   rw [List.take_of_length_le (by omega)]at q3
   rw [List.drop_eq_nil_of_le (by omega)]at q4
   rw [q1,q3,q4]
   rfl
 | succ d ih =>
  intro i l b sp hi hl hsl hs h1 h2
  refine .s (qf.l35_s · _ _ _ _ _ _) (.t (by omega) (.o (next _) ?_))
  have n1:=qAU ⟨l,b⟩
  have l1:=qCg (nx ⟨l,b⟩).2
  have n1:(nx ⟨l,b⟩).2.f0.length≤l.length:=n1
  refine .e (list _ (by omega)) (.t (by omega) ?_)
  rw [w64n i (by omega)]
  refine ih (i+1) _ _ _ (by omega) (by omega) (by simp [hsl]) ?_ ?_ ?_
  ·intro s hm
   rcases List.mem_append.1 hm with hm | hm
   ·exact hs s hm
   ·simp only [List.mem_cons,List.not_mem_nil,or_false]at hm
    rw [hm]
    show (lst (nx ⟨l,b⟩).2).1.length≤4000
    omega
  ·intro hb
   obtain ⟨q1,q2⟩:=qBc _ hb
   obtain ⟨q3,q4⟩:=qAR _ q1
   obtain ⟨q5,q6⟩:=h1 q3
   refine ⟨q5,?_⟩
   have q4:l=_:=q4
   have e1:l=encS ⟨(nx ⟨l,b⟩).1,(lst (nx ⟨l,b⟩).2).1⟩++(lst (nx ⟨l,b⟩).2).2.f0:=q4.trans (by rw [q2]; rfl)
   rw [q6,List.flatMap_append,List.append_assoc,List.flatMap_singleton,← e1]
  ·intro t rest hr
   obtain ⟨rfl,q1,q2,q3,q4⟩:=h2 t rest hr
   have hti:i<t.f1.length:=by omega
   rw [List.drop_eq_getElem_cons hti,List.flatMap_cons,List.append_assoc]at q4
   subst q4
   have e1:nx ⟨encS t.f1[i]++((t.f1.drop (i+1)).flatMap encS++rest),false⟩=(t.f1[i].f0,⟨(t.f1[i].f1.length:Int) :: (t.f1[i].f1++((t.f1.drop (i+1)).flatMap encS++rest)),false⟩):=rfl
   rw [e1,qBs]
   refine ⟨rfl,q1,q2,?_,rfl⟩
   rw [q3,List.take_add_one,List.getElem?_eq_getElem hti]
   rfl
theorem trail(r:qE)(hl:r.f0.length≤4000):Ht (fun k=>qf.f k r) (PostT r):=by
 unfold qf.f
 refine .o (next r) (.e (count _ 2 (by omega) (by have:=qAU r; omega)) ?_)
 have n1:=qAU r
 have c1:=qBF (nx r).2 2 (by omega)
 obtain ⟨n,hn⟩:∃ n:Nat,(cnt (nx r).2 2).1=n:=⟨(cnt (nx r).2 2).1.toNat,by omega⟩
 refine qCi r _ _ (by omega) n 0 _ _ _ (by omega) (by omega) rfl (fun _ h=>nomatch h) ?_ ?_
 ·intro hb
  obtain ⟨q1,q2⟩:=qAh _ _ hb
  obtain ⟨q3,q4⟩:=qAR _ q1
  exact ⟨q3,by rw [q4,q2]; rfl⟩
 ·intro t rest hr
  have e1:nx r=(t.f0,⟨(t.f1.length:Int) :: (t.f1.flatMap encS++rest),false⟩):=by rw [hr]; rfl
  have:=qBP encS 2 t.f1 (fun x _=>by simp [encS])
  rw [e1,qAl _ _ _ _ (by omega) (by omega) (by simp only [lA]; omega)]
  exact ⟨rfl,rfl,rfl,rfl,rfl⟩
def Good(x:qP)(m:qK):Prop:=Maps.May m∧enc m=x.f0∧x.f1=[]
def PostM(x:qP)(w:qK × Int):Prop:=(w.2=0∧Good x w.1∧Maps.Small w.1∧∀ m,Good x m→m=w.1)∨(w=((⟨0,0,0,0,[],[],[]⟩:qK),2)∧∀ m,¬ Good x m)
theorem qCy(x:qP)(t11 t18 t25 t32:Int × qE)(ns:List qA)(ts:List qI)(n:Nat)(hn8:n≤8)(hn:∀ g:Nat,(g:Int)<(if 8<t32.1 then 8 else t32.1)↔g<n)(hns:ns.length≤4000)(hts:ts.length≤4000):∀(d g:Nat)(l:List Int)(b:Bool)(trs:List qC),g+d=n→l.length≤4000→trs.length=g→(∀ t ∈ trs,t.f1.length≤4000)→(∀ t ∈ trs,∀ s ∈ t.f1,s.f1.length≤4000)→(b=false→x.f0=t11.1 :: t18.1 :: t25.1 :: t32.1 :: (ns.length:Int) :: (ns.flatMap encN++(ts.length:Int) :: (ts.flatMap encT++(trs.flatMap encTr++l))))→(∀ m,Good x m→b=false∧t11.1=m.f0∧t18.1=m.f1∧t25.1=m.f2∧t32.1=m.f3∧ns=m.f4∧ts=m.f5∧trs=m.f6.take g∧l=(m.f6.drop g).flatMap encTr)→Ht (fun k=>qR.l199 k x t11 t18 t25 t32 ns ts (g:Int) l b trs) (PostM x):=by
 intro d
 induction d with
 | zero =>
  intro g l b trs hg hl htl ht hs h1 h2
  refine .s (qR.l199_s · _ _ _ _ _ _ _ _ _ _ _) (.n (fun e=>by have:=(hn g).1 e; omega) ?_)
  have hsm:Maps.Small ⟨t11.1,t18.1,t25.1,t32.1,ns,ts,trs⟩:=⟨by show ns.length<_; omega,by show ts.length<_; omega,by show trs.length<_; omega,fun t hm=>by have:=ht t hm; omega,fun t hm s hm2=>by have:=hs t hm s hm2; omega⟩
  have hm:∀ m,Good x m→b=false∧l=[]∧m=⟨t11.1,t18.1,t25.1,t32.1,ns,ts,trs⟩:=by
   intro m hm
   obtain ⟨q0,q1,q2,q3,q4,q5,q6,q7,q8⟩:=h2 m hm
   have hf:=hm.1.1.2.2.2.1
   have hl6:=hm.1.2.2.1
   have hg:m.f6.length≤g:=by
    by_cases hc:m.f6.length≤g
    ·exact hc
    ·exfalso
     have:¬ (8:Int)<t32.1:=by omega
     have:=(hn g).1 (by rw [if_neg this]; omega)
     omega
   rw [List.take_of_length_le hg]at q7
   rw [List.drop_eq_nil_of_le hg]at q8
   refine ⟨q0,q8,?_⟩
   rw [q1,q2,q3,q4,q5,q6,q7]
  have hbad:(∀ m,¬ Good x m)→Ht (fun k=>qR.j240 k t11 t18 t25 t32 ns ts trs true) (PostM x):=fun h=>.s (qR.j240_s · _ _ _ _ _ _ _ _) (.t rfl (.c (.inr ⟨rfl,h⟩)))
  refine .i (fun e=>hbad (fun m g=>by have:=(hm m g).1; rw [e]at this; cases this)) (fun e=>.i (fun e2=>hbad (fun m g=>by have:=(hm m g).2.1; rw [this]at e2; simp at e2)) (fun e2=>.i (fun e3=>hbad (fun m g=>by rw [g.2.2]at e3; simp at e3)) (fun e3=>.e (Maps.check _ hsm) ?_)))
  by_cases hM:Maps.May ⟨t11.1,t18.1,t25.1,t32.1,ns,ts,trs⟩
  ·rw [dT hM]
   refine .s (qR.j240_s · _ _ _ _ _ _ _ _) (.n (by decide) (.c (.inl ⟨rfl,⟨hM,?_,?_⟩,hsm,fun m g=>(hm m g).2.2⟩)))
   ·have hb:b=false:=by simpa using e
    have hl0:l=[]:=List.eq_nil_of_length_eq_zero (by omega)
    have:=h1 hb
    rw [hl0,List.append_nil]at this
    exact this.symm
   ·exact List.eq_nil_of_length_eq_zero (by omega)
  ·rw [dF hM]
   refine hbad (fun m g=>hM ?_)
   rw [← (hm m g).2.2]
   exact g.1
 | succ d ih =>
  intro g l b trs hg hl htl ht hs h1 h2
  refine .s (qR.l199_s · _ _ _ _ _ _ _ _ _ _ _) (.t ((hn g).2 (by omega)) (.b (trail _ hl) ?_))
  intro w hw
  obtain ⟨p1,p2,p3,p4,p5⟩:=hw
  refine .t (by omega) ?_
  rw [w64n g (by omega)]
  refine ih (g+1) _ _ _ (by omega) p1 (by simp [htl]) ?_ ?_ ?_ ?_
  ·intro t hm
   rcases List.mem_append.1 hm with hm | hm
   ·exact ht t hm
   ·simp only [List.mem_cons,List.not_mem_nil,or_false]at hm
    rw [hm]
    exact p2
  ·intro t hm
   rcases List.mem_append.1 hm with hm | hm
   ·exact hs t hm
   ·simp only [List.mem_cons,List.not_mem_nil,or_false]at hm
    rw [hm]
    exact p3
  ·intro hb
   obtain ⟨q1,q2⟩:=p4 hb
   have q2:l=encTr w.1++w.2.f0:=q2
   rw [h1 q1,List.flatMap_append,List.flatMap_singleton,List.append_assoc,q2]
  ·intro m hm
   obtain ⟨q0,q1,q2,q3,q4,q5,q6,q7,q8⟩:=h2 m hm
   have hf:=hm.1.1.2.2.2.1
   have hl6:=hm.1.2.2.1
   have hgl:g<m.f6.length:=by
    have:=(hn g).2 (by omega)
    rw [if_neg (by omega)]at this
    omega
   rw [List.drop_eq_getElem_cons hgl,List.flatMap_cons]at q8
   have:=p5 m.f6[g] ((m.f6.drop (g+1)).flatMap encTr) (by rw [q0,q8])
   rw [this]
   refine ⟨rfl,q1,q2,q3,q4,q5,q6,?_,rfl⟩
   rw [q7,List.take_add_one,List.getElem?_eq_getElem hgl]
   rfl
theorem qCz(x:qP)(t11 t18 t25 t32 t125:Int × qE)(ns:List qA)(hN:t125.1≤4000)(hns:ns.length≤4000):∀(d i:Nat)(l:List Int)(b:Bool)(ts:List qI),(i:Int)+d=t125.1→l.length≤4000→ts.length=i→(b=false→x.f0=t11.1 :: t18.1 :: t25.1 :: t32.1 :: (ns.length:Int) :: (ns.flatMap encN++t125.1 :: (ts.flatMap encT++l)))→(∀ m,Good x m→b=false∧t11.1=m.f0∧t18.1=m.f1∧t25.1=m.f2∧t32.1=m.f3∧ns=m.f4∧t125.1=m.f5.length∧ts=m.f5.take i∧l=(m.f5.drop i).flatMap encT++m.f6.flatMap encTr)→Ht (fun k=>qR.l142 k x t11 t18 t25 t32 ns t125 (i:Int) l b ts) (PostM x):=by
 intro d
 induction d with
 | zero =>
  intro i l b ts hi hl htl h1 h2
  refine .s (qR.l142_s · _ _ _ _ _ _ _ _ _ _ _) (.n (by omega) ?_)
  obtain ⟨n,hn8,hn⟩:∃ n:Nat,n≤8∧∀ g:Nat,(g:Int)<(if 8<t32.1 then 8 else t32.1)↔g<n:=by
   refine ⟨(if 8<t32.1 then 8 else t32.1).toNat,?_,?_⟩
   ·split <;> omega
   ·intro g
    split <;> omega
  refine qCy x t11 t18 t25 t32 ns ts n hn8 hn hns (by omega) n 0 l b [] (by omega) hl rfl (fun _ h=>nomatch h) (fun _ h=>nomatch h) ?_ ?_
  ·intro hb
   rw [h1 hb,htl,show t125.1=(i:Int) by omega]
   rfl
  ·intro m hm
   obtain ⟨q0,q1,q2,q3,q4,q5,q6,q7,q8⟩:=h2 m hm
   rw [List.take_of_length_le (by omega)]at q7
   rw [List.drop_eq_nil_of_le (by omega)]at q8
   exact ⟨q0,q1,q2,q3,q4,q5,q7,rfl,q8⟩
 | succ d ih =>
  intro i l b ts hi hl htl h1 h2
  refine .s (qR.l142_s · _ _ _ _ _ _ _ _ _ _ _) (.t (by omega) (.o (next _) ?_))
  have n1:=qAU ⟨l,b⟩
  have l1:=qCg (nx ⟨l,b⟩).2
  have n1:(nx ⟨l,b⟩).2.f0.length≤l.length:=n1
  refine .e (list _ (by omega)) (.t (by omega) ?_)
  rw [w64n i (by omega)]
  refine ih (i+1) _ _ _ (by omega) (by omega) (by simp [htl]) ?_ ?_
  ·intro hb
   obtain ⟨q1,q2⟩:=qBc _ hb
   obtain ⟨q3,q4⟩:=qAR _ q1
   have q4:l=_:=q4
   have e1:l=encT ⟨(nx ⟨l,b⟩).1,(lst (nx ⟨l,b⟩).2).1⟩++(lst (nx ⟨l,b⟩).2).2.f0:=q4.trans (by rw [q2]; rfl)
   rw [h1 q3,List.flatMap_append,List.append_assoc,List.flatMap_singleton,← e1]
  ·intro m hm
   obtain ⟨rfl,q1,q2,q3,q4,q5,q6,q7,q8⟩:=h2 m hm
   have hti:i<m.f5.length:=by omega
   rw [List.drop_eq_getElem_cons hti,List.flatMap_cons,List.append_assoc]at q8
   subst q8
   have e1:nx ⟨encT m.f5[i]++((m.f5.drop (i+1)).flatMap encT++m.f6.flatMap encTr),false⟩=(m.f5[i].f0,⟨(m.f5[i].f1.length:Int) :: (m.f5[i].f1++((m.f5.drop (i+1)).flatMap encT++m.f6.flatMap encTr)),false⟩):=rfl
   rw [e1,qBs]
   refine ⟨rfl,q1,q2,q3,q4,q5,q6,?_,rfl⟩
   rw [q7,List.take_add_one,List.getElem?_eq_getElem hti]
   rfl
theorem qDY(x:qP)(t11 t18 t25 t32 t44:Int × qE)(hN:t44.1≤4000):∀(d i:Nat)(l:List Int)(b:Bool)(ns:List qA),(i:Int)+d=t44.1→l.length≤4000→ns.length=i→(b=false→x.f0=t11.1 :: t18.1 :: t25.1 :: t32.1 :: t44.1 :: (ns.flatMap encN++l))→(∀ m,Good x m→b=false∧t11.1=m.f0∧t18.1=m.f1∧t25.1=m.f2∧t32.1=m.f3∧t44.1=m.f4.length∧ns=m.f4.take i∧l=(m.f4.drop i).flatMap encN++(m.f5.length:Int) :: (m.f5.flatMap encT++m.f6.flatMap encTr))→Ht (fun k=>qR.l61 k x t11 t18 t25 t32 t44 (i:Int) l b ns) (PostM x):=by
 intro d
 induction d with
 | zero =>
  intro i l b ns hi hl hnl h1 h2
  refine .s (qR.l61_s · _ _ _ _ _ _ _ _ _ _) (.n (by omega) (.e (count _ 2 (by omega) (by show l.length<_; omega)) ?_))
  have c1:=qBF ⟨l,b⟩ 2 (by omega)
  have c2:(cnt ⟨l,b⟩ 2).2.f0.length≤l.length:=c1.2.2.2
  obtain ⟨n,hn⟩:∃ n:Nat,(cnt ⟨l,b⟩ 2).1=n:=⟨(cnt ⟨l,b⟩ 2).1.toNat,by omega⟩
  refine qCz x t11 t18 t25 t32 _ ns (by omega) (by omega) n 0 _ _ [] (by omega) (by omega) rfl ?_ ?_
  ·intro hb
   obtain ⟨q1,q2⟩:=qAh _ _ hb
   have q2:l=_:=q2
   rw [h1 q1,hnl,show t44.1=(i:Int) by omega]
   congr 6
  ·intro m hm
   obtain ⟨rfl,q1,q2,q3,q4,q5,q6,q7⟩:=h2 m hm
   rw [List.take_of_length_le (by omega)]at q6
   rw [List.drop_eq_nil_of_le (by omega)]at q7
   have q7:l=(m.f5.length:Int) :: (m.f5.flatMap encT++m.f6.flatMap encTr):=q7
   have:=qBP encT 2 m.f5 (fun x _=>by simp [encT])
   rw [q7,qAl _ _ _ _ (by omega) (by omega) (by simp only [lA]; omega)]
   exact ⟨rfl,q1,q2,q3,q4,q6,rfl,rfl,rfl⟩
 | succ d ih =>
  intro i l b ns hi hl hnl h1 h2
  refine .s (qR.l61_s · _ _ _ _ _ _ _ _ _ _) (.t (by omega) (.o (next _) (.o (next _) (.o (next _) (.o (next _) (.o (flag _) (.o (flag _) (.t (by omega) ?_))))))))
  have n1:(nx ⟨l,b⟩).2.f0.length≤l.length:=qAU ⟨l,b⟩
  generalize hr1:nx ⟨l,b⟩=r1 at *
  have n2:=qAU r1.2
  generalize hr2:nx r1.2=r2 at *
  have n3:=qAU r2.2
  generalize hr3:nx r2.2=r3 at *
  have n4:=qAU r3.2
  generalize hr4:nx r3.2=r4 at *
  have n5:=qDD r4.2
  generalize hr5:fl r4.2=r5 at *
  have n6:=qDD r5.2
  generalize hr6:fl r5.2=r6 at *
  rw [w64n i (by omega)]
  refine ih (i+1) _ _ _ (by omega) (by omega) (by simp [hnl]) ?_ ?_
  ·intro hb
   obtain ⟨p6,q6⟩:=qBt r5.2 (by rw [hr6]; exact hb)
   obtain ⟨p5,q5⟩:=qBt r4.2 (by rw [hr5]; exact p6)
   obtain ⟨p4,q4⟩:=qAR r3.2 (by rw [hr4]; exact p5)
   obtain ⟨p3,q3⟩:=qAR r2.2 (by rw [hr3]; exact p4)
   obtain ⟨p2,q2⟩:=qAR r1.2 (by rw [hr2]; exact p3)
   obtain ⟨p1,q1⟩:=qAR ⟨l,b⟩ (by rw [hr1]; exact p2)
   rw [hr1]at q1
   rw [hr2]at q2
   rw [hr3]at q3
   rw [hr4]at q4
   rw [hr5]at q5
   rw [hr6]at q6
   have q1:l=_:=q1
   have e1:l=encN ⟨r1.1,r2.1,r3.1,r4.1,r5.1,r6.1⟩++r6.2.f0:=by
    rw [q1,q2,q3,q4,q5,q6]
    rfl
   rw [h1 p1,List.flatMap_append,List.append_assoc,List.flatMap_singleton,← e1]
  ·intro m hm
   obtain ⟨rfl,q1,q2,q3,q4,q5,q6,q7⟩:=h2 m hm
   have hti:i<m.f4.length:=by omega
   rw [List.drop_eq_getElem_cons hti,List.flatMap_cons,List.append_assoc]at q7
   subst q7
   generalize (m.f4.drop (i+1)).flatMap encN++(m.f5.length:Int) :: (m.f5.flatMap encT++m.f6.flatMap encTr)=rest at *
   obtain rfl:(m.f4[i].f0,(⟨[m.f4[i].f1,m.f4[i].f2,m.f4[i].f3,bit m.f4[i].f4,bit m.f4[i].f5]++rest,false⟩:qE))=r1:=hr1
   obtain rfl:(m.f4[i].f1,(⟨[m.f4[i].f2,m.f4[i].f3,bit m.f4[i].f4,bit m.f4[i].f5]++rest,false⟩:qE))=r2:=hr2
   obtain rfl:(m.f4[i].f2,(⟨[m.f4[i].f3,bit m.f4[i].f4,bit m.f4[i].f5]++rest,false⟩:qE))=r3:=hr3
   obtain rfl:(m.f4[i].f3,(⟨[bit m.f4[i].f4,bit m.f4[i].f5]++rest,false⟩:qE))=r4:=hr4
   obtain rfl:(m.f4[i].f4,(⟨[bit m.f4[i].f5]++rest,false⟩:qE))=r5:=(qCh _ _).symm.trans hr5
   obtain rfl:(m.f4[i].f5,(⟨rest,false⟩:qE))=r6:=(qCh _ _).symm.trans hr6
   refine ⟨rfl,q1,q2,q3,q4,q5,?_,rfl⟩
   rw [q6,List.take_add_one,List.getElem?_eq_getElem hti]
   rfl
theorem map(x:qP)(hl:x.f0.length≤4000):Ht (fun k=>qR.f k x) (PostM x):=by
 unfold qR.f
 refine .o (next _) (.o (next _) (.o (next _) (.o (next _) (.e (count _ 6 (by omega) ?_) ?_))))
 ·have n1:=qAU ⟨x.f0,false⟩
  have n2:=qAU (nx ⟨x.f0,false⟩).2
  have n3:=qAU (nx (nx ⟨x.f0,false⟩).2).2
  have n4:=qAU (nx (nx (nx ⟨x.f0,false⟩).2).2).2
  have n1:(nx ⟨x.f0,false⟩).2.f0.length≤x.f0.length:=n1
  omega
 have n1:(nx ⟨x.f0,false⟩).2.f0.length≤x.f0.length:=qAU _
 generalize hr1:nx ⟨x.f0,false⟩=r1 at *
 have n2:=qAU r1.2
 generalize hr2:nx r1.2=r2 at *
 have n3:=qAU r2.2
 generalize hr3:nx r2.2=r3 at *
 have n4:=qAU r3.2
 generalize hr4:nx r3.2=r4 at *
 have c1:=qBF r4.2 6 (by omega)
 generalize hr5:cnt r4.2 6=r5 at *
 obtain ⟨n,hn⟩:∃ n:Nat,r5.1=n:=⟨r5.1.toNat,by omega⟩
 refine qDY x r1 r2 r3 r4 r5 (by omega) n 0 _ _ [] (by omega) (by omega) rfl ?_ ?_
 ·intro hb
  obtain ⟨p5,q5⟩:=qAh r4.2 6 (by rw [hr5]; exact hb)
  obtain ⟨p4,q4⟩:=qAR r3.2 (by rw [hr4]; exact p5)
  obtain ⟨p3,q3⟩:=qAR r2.2 (by rw [hr3]; exact p4)
  obtain ⟨p2,q2⟩:=qAR r1.2 (by rw [hr2]; exact p3)
  obtain ⟨p1,q1⟩:=qAR ⟨x.f0,false⟩ (by rw [hr1]; exact p2)
  rw [hr1]at q1
  rw [hr2]at q2
  rw [hr3]at q3
  rw [hr4]at q4
  rw [hr5]at q5
  have q1:x.f0=_:=q1
  rw [q1,q2,q3,q4,q5]
  rfl
 ·intro m hm
  have hx:=hm.2.1
  have:=qBP encN 6 m.f4 (fun x _=>by simp [encN])
  unfold enc at hx
  generalize hrest:(m.f5.length:Int) :: (m.f5.flatMap encT++m.f6.flatMap encTr)=rest at *
  rw [← hx]at hr1
  obtain rfl:(m.f0,(⟨m.f1 :: m.f2 :: m.f3 :: (m.f4.length:Int) :: (m.f4.flatMap encN++rest),false⟩:qE))=r1:=hr1
  obtain rfl:(m.f1,(⟨m.f2 :: m.f3 :: (m.f4.length:Int) :: (m.f4.flatMap encN++rest),false⟩:qE))=r2:=hr2
  obtain rfl:(m.f2,(⟨m.f3 :: (m.f4.length:Int) :: (m.f4.flatMap encN++rest),false⟩:qE))=r3:=hr3
  obtain rfl:(m.f3,(⟨(m.f4.length:Int) :: (m.f4.flatMap encN++rest),false⟩:qE))=r4:=hr4
  obtain rfl:((m.f4.length:Int),(⟨m.f4.flatMap encN++rest,false⟩:qE))=r5:=(qAl _ _ _ _ (by omega) (by omega) (by simp only [lA]; omega)).symm.trans hr5
  exact ⟨rfl,rfl,rfl,rfl,rfl,rfl,rfl,rfl⟩
theorem reflist(l:List Int)(h:l.length≤1000000000):qq.f l=some ((l.length:Int) :: l):=by
 unfold qq.f
 rw [if_pos]
 ·rfl
 ·simp only [List.length_singleton]
  omega
theorem refbit(b:Bool):qv.f b=some (bit b):=by
 cases b <;> rfl
theorem qDA(m:qK)(hm:Maps.Small m)(hb:(enc m).length≤1000000000)(g:Nat)(hg:g<m.f6.length)(v:qP)(hc:∀ l,l++(m.f6.drop (g+1)).flatMap encTr=enc m→Ev (fun k=>qL.l114 k m l ((g+1:Nat):Int)) v):∀(d i:Nat)(l:List Int),i+d=m.f6[g].f1.length→l++((m.f6[g].f1.drop i).flatMap encS++(m.f6.drop (g+1)).flatMap encTr)=enc m→Ev (fun k=>qL.l150 k m (g:Int) l (i:Int)) v:=by
 have hz:=qAK qC.z _ _ hg
 have hp:=hm.hp _ (gM hg)
 have h6:=hm.h6
 intro d
 induction d with
 | zero =>
  intro i l hi he
  refine .s (qL.l150_s · _ _ _ _) ?_
  rw [hz]
  refine .n (by omega) ?_
  rw [List.drop_eq_nil_of_le (by omega)]at he
  rw [w64n g (by omega)]
  exact hc l he
 | succ d ih =>
  intro i l hi he
  have h1:i<m.f6[g].f1.length:=by omega
  refine .s (qL.l150_s · _ _ _ _) ?_
  rw [hz]
  rw [List.drop_eq_getElem_cons h1,List.flatMap_cons]at he
  have hlen:=congrArg List.length he
  simp only [lA]at hlen
  have hes:(encS m.f6[g].f1[i]).length=m.f6[g].f1[i].f1.length+2:=by simp [encS]
  refine .t (by omega) (.t (by omega) (.t (by omega) ?_))
  rw [qAK _ _ _ h1,w64n i (by omega)]
  refine .b0 (reflist _ (by omega)) (.t (by simp only [lA,List.length_cons,List.length_nil]; omega) (ih (i+1) _ (by omega) ?_))
  rw [← he]
  simp [encS]
theorem qDB(m:qK)(hm:Maps.Small m)(hb:(enc m).length≤1000000000):∀(d g:Nat)(l:List Int),g+d=m.f6.length→l++(m.f6.drop g).flatMap encTr=enc m→Ev (fun k=>qL.l114 k m l (g:Int)) ⟨enc m,[]⟩:=by
 have h6:=hm.h6
 intro d
 induction d with
 | zero =>
  intro g l hg he
  refine .s (qL.l114_s · _ _ _) (.n (by omega) (.cv ?_))
  rw [List.drop_eq_nil_of_le (by omega)]at he
  rw [← he]
  simp
 | succ d ih =>
  intro g l hg he
  have h1:g<m.f6.length:=by omega
  rw [List.drop_eq_getElem_cons h1,List.flatMap_cons]at he
  have hlen:=congrArg List.length he
  simp only [lA,encTr,List.length_cons]at hlen
  refine .s (qL.l114_s · _ _ _) (.t (by omega) (.t (by omega) (.t (by omega) ?_)))
  rw [qAK _ _ _ h1]
  refine qDA m hm hb g h1 _ (fun l' h=>ih (g+1) l' (by omega) h) _ 0 _ (Nat.zero_add _) ?_
  rw [← he]
  simp [encTr]
theorem qDZ(m:qK)(hm:Maps.Small m)(hb:(enc m).length≤1000000000):∀(d i:Nat)(l:List Int),i+d=m.f5.length→l++((m.f5.drop i).flatMap encT++m.f6.flatMap encTr)=enc m→Ev (fun k=>qL.l66 k m l (i:Int)) ⟨enc m,[]⟩:=by
 have h5:=hm.h5
 intro d
 induction d with
 | zero =>
  intro i l hi he
  refine .s (qL.l66_s · _ _ _) (.n (by omega) ?_)
  rw [List.drop_eq_nil_of_le (by omega)]at he
  exact qDB m hm hb _ 0 l (Nat.zero_add _) he
 | succ d ih =>
  intro i l hi he
  have h1:i<m.f5.length:=by omega
  rw [List.drop_eq_getElem_cons h1,List.flatMap_cons]at he
  have hlen:=congrArg List.length he
  simp only [lA]at hlen
  have hes:(encT m.f5[i]).length=m.f5[i].f1.length+2:=by simp [encT]
  refine .s (qL.l66_s · _ _ _) (.t (by omega) (.t (by omega) (.t (by omega) ?_)))
  rw [qAK _ _ _ h1,w64n i (by omega)]
  refine .b0 (reflist _ (by omega)) (.t (by simp only [lA,List.length_cons,List.length_nil]; omega) (ih (i+1) _ (by omega) ?_))
  rw [← he]
  simp [encT]
theorem qDa(m:qK)(hm:Maps.Small m)(hb:(enc m).length≤1000000000):∀(d i:Nat)(l:List Int),i+d=m.f4.length→l++((m.f4.drop i).flatMap encN++(m.f5.length:Int) :: (m.f5.flatMap encT++m.f6.flatMap encTr))=enc m→Ev (fun k=>qL.l18 k m l (i:Int)) ⟨enc m,[]⟩:=by
 have h4:=hm.h4
 intro d
 induction d with
 | zero =>
  intro i l hi he
  rw [List.drop_eq_nil_of_le (by omega)]at he
  have hlen:=congrArg List.length he
  simp only [lA,List.length_cons]at hlen
  refine .s (qL.l18_s · _ _ _) (.n (by omega) (.t (by omega) ?_))
  refine qDZ m hm hb _ 0 _ (Nat.zero_add _) ?_
  rw [← he]
  simp
 | succ d ih =>
  intro i l hi he
  have h1:i<m.f4.length:=by omega
  rw [List.drop_eq_getElem_cons h1,List.flatMap_cons]at he
  have hlen:=congrArg List.length he
  simp only [lA]at hlen
  have hes:(encN m.f4[i]).length=6:=rfl
  refine .s (qL.l18_s · _ _ _) (.t (by omega) (.t (by omega) (.b0 (refbit _) (.b0 (refbit _) (.t (by omega) ?_)))))
  rw [qAK _ _ _ h1,w64n i (by omega)]
  refine ih (i+1) _ (by omega) ?_
  rw [← he]
  simp [encN]
theorem encmap(m:qK)(hm:Maps.Small m)(hb:(enc m).length≤1000000000):Ev (fun k=>qL.f k m) ⟨enc m,[]⟩:=by
 unfold qL.f
 exact qDa m hm hb _ 0 _ (Nat.zero_add _) rfl
theorem qBd(m:qK):∀(p:Int)(l:List qI),p≤m.f3 - 1→Maps.temps m p l=true→(l.length:Int)≤m.f3 - 1 - p
 | p,[],h,_=>by simp; omega
 | p,t :: l,h,ht=>by
  simp only [Maps.temps,Bool.and_eq_true,decide_eq_true_eq]at ht
  have:=qBd m t.f0 l (by omega) ht.2
  simp only [List.length_cons]
  omega
theorem qBQ(m:qK):∀(p:Int)(l:List qI),Maps.temps m p l=true→∀ t ∈ l,(t.f1.length:Int)≤m.f1
 | _,[],_,_,h=>nomatch h
 | p,t :: l,ht,u,hu=>by
  simp only [Maps.temps,Bool.and_eq_true,decide_eq_true_eq]at ht
  rcases List.mem_cons.1 hu with rfl | hu
  ·exact ht.1.1.2.2.2
  ·exact qBQ m t.f0 l ht.2 u hu
theorem qAF(m:qK)(since:Int):∀(p:Int)(seen l:List qD),Maps.past m since p seen l=true→∀ s ∈ l,(s.f1.length:Int)≤m.f1
 | _,_,[],_,_,h=>nomatch h
 | p,seen,s :: l,hp,u,hu=>by
  simp only [Maps.past,Bool.and_eq_true,decide_eq_true_eq]at hp
  rcases List.mem_cons.1 hu with rfl | hu
  ·exact hp.1.1.1.2.2.2
  ·exact qAF m since s.f0 _ l hp.2 u hu
theorem qAu(m:qK):∀(l:List qC),Maps.trails m l=true→∀ t ∈ l,∀ s ∈ t.f1,(s.f1.length:Int)≤m.f1
 | [],_,_,h=>nomatch h
 | t :: l,ht,u,hu=>by
  simp only [Maps.trails,Bool.and_eq_true,decide_eq_true_eq]at ht
  rcases List.mem_cons.1 hu with rfl | hu
  ·exact qAF m _ _ _ _ ht.1.2
  ·exact qAu m l ht.2 u hu
theorem qDb{x:qP}{m:qK}(h:Good x m):m.f5.length≤8∧(∀ t ∈ m.f5,t.f1.length≤20):=by
 have hf:=h.1.1
 have:=qBd m (-1) m.f5 (by have:=hf.2.2.2.1; omega) h.1.2.1
 refine ⟨by have:=hf.2.2.2.1; omega,fun t ht=>?_⟩
 have:=qBQ m (-1) m.f5 h.1.2.1 t ht
 have:=hf.2.1
 omega
theorem qDc{x:qP}{m:qK}(h:Good x m):(m.f6.length:Int)=m.f3∧m.f6.length≤8∧(∀ t ∈ m.f6,∀ s ∈ t.f1,s.f1.length≤20):=by
 have hf:=h.1.1
 refine ⟨h.1.2.2.1,by have:=hf.2.2.2.1; have:=h.1.2.2.1; omega,fun t ht s hs=>?_⟩
 have:=qAu m m.f6 h.1.2.2.2 t ht s hs
 have:=hf.2.1
 omega
theorem strings(l:List ByteArray):Ev (fun k=>qb.f k [] l) (decide (l=[])):=by
 unfold qb.f
 cases l with
 | nil=>exact .t rfl (.s (qb.l9_s · _ _ _) (.n (by decide) (.c _)))
 | cons s l=>exact .n (by simp only [List.length_cons,List.length_nil]; omega) (.c _)
theorem qBe(l:List Int)(x:qP)(hl:l.length≤1000000000):Ev (fun k=>ql.f k (⟨l,[]⟩:qP) x) (decide (l=x.f0∧x.f1=[])):=by
 unfold ql.f
 refine .b (Maps.ints l x.f0 (by omega)) (.i (fun h=>.b (strings _) (.cv ?_)) (fun h=>.cv ?_))
 ·have h:=of_decide_eq_true h
  rw [decide_eq_decide]
  exact ⟨fun e=>⟨h,e⟩,fun e=>e.2⟩
 ·exact (dF (fun e=>h (dT e.1))).symm
def cl(u:Nat):Nat:=if h:u<128 then 1 else cl (u / 128)+1
termination_by u
decreasing_by omega
theorem cl_le(u:Nat):cl u≤u+1:=by
 induction u using Nat.strongRecOn with
 | _ u ih =>
  rw [cl]
  split
  ·omega
  ·have:=ih (u / 128) (by omega)
   omega
theorem qCj:cl 0=1:=by rw [cl,dif_pos (by decide)]
def sz(l:List Int):Nat:=(l.map (fun n=>cl (2 * n.toNat))).sum
theorem qCk(n:Int)(l:List Int):sz (n :: l)=cl (2 * n.toNat)+sz l:=rfl
theorem fcount(u:Nat):∀ l:List Int,l.length+u≤100000000000→Ht (fun k=>frame_count.l9 k (u:Int) l) (fun w=>w.length=l.length+cl u):=by
 induction u using Nat.strongRecOn with
 | _ u ih =>
  intro l hl
  refine .s (frame_count.l9_s · _ _) (.i (fun c=>.t (by omega) ?_) (fun c=>.t (by omega) (.c ?_)))
  ·rw [show (u:Int).fdiv 128=((u / 128:Nat):Int) by rw [Int.fdiv_eq_ediv_of_nonneg _ (by decide)]; rfl]
   refine .m (fun w hw=>?_) (ih (u / 128) (by omega) _ (by simp only [lA,List.length_cons,List.length_nil]; omega))
   rw [hw,cl.eq_def u,dif_neg (by omega)]
   simp only [lA,List.length_cons,List.length_nil]
   omega
  ·rw [cl.eq_def u,dif_pos (by omega)]
   simp only [lA,List.length_cons,List.length_nil]
theorem fCount(n:Nat)(h:n≤10000000000):Ht (fun k=>frame_Count.f k (n:Int)) (fun w=>w.length=cl n):=by
 unfold frame_Count.f
 refine .n (by omega) ?_
 rw [wraps_u64 _ (by omega) (by omega)]
 unfold frame_count.f
 refine .b (fcount n [] (by simp only [List.length_nil]; omega)) (fun a ha=>.c ?_)
 rw [ha,List.length_nil,Nat.zero_add]
theorem zig(x:Int)(h0:0≤x)(h:x≤2147483647):IntKind.u64.wrap (((BitVec.ofInt 64 (IntKind.u64.wrap ((IntKind.u64.wrap x) * 2)) ^^^ BitVec.ofInt 64 (IntKind.u64.wrap (x.fdiv 9223372036854775808))).toNat:Int))=((2 * x.toNat:Nat):Int):=by
 have hd:x.fdiv 9223372036854775808=0:=by rw [Int.fdiv_eq_ediv_of_nonneg _ (by decide)]; omega
 rw [hd,wraps_u64 x h0 (by omega),wraps_u64 (x * 2) (by omega) (by omega),wraps_u64 0 (by decide) (by decide),show BitVec.ofInt 64 0=0#64 from rfl,BitVec.xor_zero,BitVec.toNat_ofInt,wraps_u64 _ (by omega) (by omega)]
 omega
theorem fNumber(x:Int)(h0:0≤x)(h:x≤2147483647):Ht (fun k=>frame_Number.f k x) (fun w=>w.length=cl (2 * x.toNat)):=by
 unfold frame_Number.f
 rw [zig x h0 h]
 unfold frame_count.f
 refine .b (fcount _ [] (by simp only [List.length_nil]; omega)) (fun a ha=>.c ?_)
 rw [ha,List.length_nil,Nat.zero_add]
theorem rcount(u:Nat):u≤10000000000→Ht (fun k=>qg.f k (u:Int)) (fun w=>w.length=cl u):=by
 induction u using Nat.strongRecOn with
 | _ u ih =>
  intro hl
  refine .s (qg.f_s · _) (.i (fun c=>.c ?_) (fun c=>?_))
  ·rw [cl.eq_def u,dif_pos (by omega)]
   rfl
  ·rw [show IntKind.u64.wrap ((u:Int).tdiv 128)=((u / 128:Nat):Int) by rw [Int.tdiv_eq_ediv_of_nonneg (by omega),wraps_u64 _ (by omega) (by omega)]; rfl]
   refine .b (ih (u / 128) (by omega) (by omega)) (fun a ha=>?_)
   have:=cl_le (u / 128)
   refine .t (by rw [ha,List.length_singleton]; omega) (.c ?_)
   rw [lA,ha,List.length_singleton,cl.eq_def u,dif_neg (by omega)]
   omega
theorem rCount(n:Nat)(h:n≤10000000000):Ht (fun k=>qm.f k (n:Int)) (fun w=>w.length=cl n):=by
 unfold qm.f
 rw [wraps_u64 _ (by omega) (by omega)]
 exact .b (rcount n h) (fun a ha=>.c ha)
theorem rNumber(x:Int)(h0:0≤x)(h:x≤2147483647):Ht (fun k=>qr.f k x) (fun w=>w.length=cl (2 * x.toNat)):=by
 unfold qr.f
 refine .t h0 ?_
 rw [show IntKind.u64.wrap ((IntKind.u64.wrap x) * 2)=((2 * x.toNat:Nat):Int) by rw [wraps_u64 x h0 (by omega),wraps_u64 _ (by omega) (by omega)]; omega]
 exact .b (rcount _ (by omega)) (fun a ha=>.c ha)
def In31(l:List Int):Prop:=∀ n ∈ l,0≤n∧n≤2147483647
theorem qDd(l:List Int)(hl:l.length≤1000000)(h31:In31 l):∀(d i:Nat)(b:List Int),i+d=l.length→b.length≤100000→Ht (fun k=>frame_Encode.l21 k (⟨l,[]⟩:qP) b (i:Int)) (fun w=>(w.2=0∧b.length+sz (l.drop i)+1≤4096)∨(w.2=4∧4096<b.length+sz (l.drop i)+1)):=by
 intro d
 induction d with
 | zero =>
  intro i b hi hb
  rw [List.drop_eq_nil_of_le (by omega)]
  refine .s (frame_Encode.l21_s · _ _ _) (.n (by show ¬ (i:Int)<(l.length:Int); omega) (.b (fCount 0 (by omega)) (fun a ha=>?_)))
  rw [qCj]at ha
  refine .t (by omega) (.s (frame_Encode.l67_s · _ _ _) (.n (by show ¬ (0:Int)<(([]:List ByteArray).length:Int); decide) (.i (fun c=>.c (.inr ⟨rfl,?_⟩)) (fun c=>.c (.inl ⟨rfl,?_⟩)))))
  ·rw [lA]at c
   show 4096<b.length+0+1
   omega
  ·rw [lA]at c
   show b.length+0+1≤4096
   omega
 | succ d ih =>
  intro i b hi hb
  have h1:i<l.length:=by omega
  have hn:=h31 _ (gM h1)
  refine .s (frame_Encode.l21_s · _ _ _) (.t (by show (i:Int)<(l.length:Int); omega) (.t (by show 0≤(i:Int)∧(i:Int)<(l.length:Int); omega) ?_))
  rw [show nth 0 (⟨l,[]⟩:qP).f0 (i:Int)=l[i] from qAK _ _ _ h1,w64n i (by omega),List.drop_eq_getElem_cons h1,qCk]
  refine .b (fNumber _ hn.1 hn.2) (fun a ha=>?_)
  have:=cl_le (2 * l[i].toNat)
  refine .t (by omega) (.i (fun c=>.c (.inr ⟨rfl,?_⟩)) (fun c=>?_))
  ·rw [lA]at c
   omega
  ·have hlen:(b++a).length=b.length+cl (2 * l[i].toNat):=by rw [lA,ha]
   refine .m (fun w hw=>?_) (ih (i+1) (b++a) (by omega) (by omega))
   rw [hlen]at hw
   rcases hw with ⟨h,g⟩ | ⟨h,g⟩
   ·exact .inl ⟨h,by omega⟩
   ·exact .inr ⟨h,by omega⟩
theorem encode(l:List Int)(hl:l.length≤4000)(h31:In31 l):Ht (fun k=>frame_Encode.f k (⟨l,[]⟩:qP)) (fun w=>(w.2=0∧cl l.length+sz l+1≤4096)∨(w.2=4∧4096<cl l.length+sz l+1)):=by
 unfold frame_Encode.f
 refine .b (fCount l.length (by omega)) (fun a ha=>?_)
 have:=cl_le l.length
 have:=qDd l (by omega) h31 l.length 0 a (by omega) (by omega)
 rw [ha,List.drop_zero]at this
 exact this
theorem qCl(l:List Int)(hl:l.length≤1000000)(h31:In31 l):∀(d i:Nat)(b:List Int),i+d=l.length→b.length≤10000000000→Ht (fun k=>qH.l21 k (⟨l,[]⟩:qP) b (i:Int)) (fun w=>w.length≤4096↔b.length+sz (l.drop i)+1≤4096):=by
 have fin:∀(b:List Int),b.length≤10000000000→∀ i:Int,Ht (fun k=>qH.j29 k (⟨l,[]⟩:qP) b i false) (fun w=>w.length=b.length+1):=by
  intro b hb i
  refine .s (qH.j29_s · _ _ _ _) (.n (by decide) (.b (rCount 0 (by omega)) (fun a ha=>?_)))
  rw [qCj]at ha
  refine .t (by omega) (.s (qH.l68_s · _ _ _) (.n (by show ¬ (0:Int)<(([]:List ByteArray).length:Int); decide) (.s (qH.j76_s · _ _ _ _) (.n (by decide) (.c ?_)))))
  rw [lA,ha]
 intro d
 induction d with
 | zero =>
  intro i b hi hb
  rw [List.drop_eq_nil_of_le (by omega)]
  refine .s (qH.l21_s · _ _ _) (.n (by show ¬ (i:Int)<(l.length:Int); omega) (.m (fun w hw=>?_) (fin b hb _)))
  rw [hw]
  exact Iff.rfl
 | succ d ih =>
  intro i b hi hb
  have h1:i<l.length:=by omega
  have hn:=h31 _ (gM h1)
  refine .s (qH.l21_s · _ _ _) (.t (by show (i:Int)<(l.length:Int); omega) ?_)
  rw [List.drop_eq_getElem_cons h1,qCk]
  by_cases c:b.length<5000
  ·rw [dT (by omega)]
   refine .s (qH.j29_s · _ _ _ _) (.t rfl (.t (by show 0≤(i:Int)∧(i:Int)<(l.length:Int); omega) ?_))
   rw [show nth 0 (⟨l,[]⟩:qP).f0 (i:Int)=l[i] from qAK _ _ _ h1,w64n i (by omega)]
   refine .b (rNumber _ hn.1 hn.2) (fun a ha=>?_)
   have:=cl_le (2 * l[i].toNat)
   have hlen:(b++a).length=b.length+cl (2 * l[i].toNat):=by rw [lA,ha]
   refine .t (by omega) (.m (fun w hw=>?_) (ih (i+1) (b++a) (by omega) (by omega)))
   rw [hw,hlen]
   omega
  ·rw [dF (by omega)]
   refine .m (fun w hw=>?_) (fin b hb _)
   rw [hw]
   omega
theorem refmay(l:List Int)(hl:l.length≤4000)(h31:In31 l):Ev (fun k=>qw.f k (⟨l,[]⟩:qP)) (decide (cl l.length+sz l+1≤4096)):=by
 have h:Ht (fun k=>qw.f k (⟨l,[]⟩:qP)) (fun b=>b=decide (cl l.length+sz l+1≤4096)):=by
  unfold qw.f qH.f
  have:∀ a:List Int,a.length=cl l.length→Ht (fun k=>qH.l21 k (⟨l,[]⟩:qP) a 0) (fun w=>w.length≤4096↔cl l.length+sz l+1≤4096):=by
   intro a ha
   have:=cl_le l.length
   have:=qCl l (by omega) h31 l.length 0 a (by omega) (by omega)
   rw [ha,List.drop_zero]at this
   exact this
  refine .b (Q:=fun w=>w.length≤4096↔cl l.length+sz l+1≤4096) (.b (rCount l.length (by omega)) this) (fun a ha=>.c ?_)
  rw [decide_eq_decide]
  omega
 obtain ⟨v,e,rfl⟩:=h
 exact e
theorem qCm:∀(p:Int)(l:List qA),Topo.rise p l=true→∀ n ∈ l,Topo.okN n
 | _,[],_,_,h=>nomatch h
 | p,n :: l,h,u,hu=>by
  simp only [Topo.rise,Bool.and_eq_true,decide_eq_true_eq]at h
  rcases List.mem_cons.1 hu with rfl | hu
  ·exact h.1.1
  ·exact qCm _ l h.2 u hu
theorem qBu(l:List qA):∀(met ids:List Int),Topo.apartR l met ids=true→∀ x ∈ ids,∃ n ∈ l,n.f0=x
 | _,[],_,_,h=>nomatch h
 | met,id :: r,h,x,hx=>by
  rw [Topo.apartR]at h
  cases e:l.find? (fun n=>decide (n.f0=id)) with
  | none=>rw [e]at h; exact nomatch h
  | some n =>
   rw [e]at h
   simp only [Bool.and_eq_true]at h
   rcases List.mem_cons.1 hx with rfl | hx
   ·exact ⟨n,List.mem_of_find?_eq_some e,by simpa using List.find?_some e⟩
   ·exact qBu l _ r h.2 x hx
theorem qBv(m:qK):∀(p:Int)(l:List qI),Maps.temps m p l=true→∀ t ∈ l,(0≤t.f0∧t.f0<m.f3)∧Topo.apartR m.f4 [] t.f1=true
 | _,[],_,_,h=>nomatch h
 | p,t :: l,ht,u,hu=>by
  simp only [Maps.temps,Bool.and_eq_true,decide_eq_true_eq]at ht
  rcases List.mem_cons.1 hu with rfl | hu
  ·exact ⟨ht.1.1.1,ht.1.2⟩
  ·exact qBv m t.f0 l ht.2 u hu
theorem qBw:∀(p:Int)(l:List Int),Maps.riseI p l=true→∀ n ∈ l,1≤n∧n≤999
 | _,[],_,_,h=>nomatch h
 | p,n :: l,h,u,hu=>by
  simp only [Maps.riseI,Bool.and_eq_true,decide_eq_true_eq]at h
  rcases List.mem_cons.1 hu with rfl | hu
  ·exact h.1.1
  ·exact qBw _ l h.2 u hu
theorem qAG(m:qK)(since:Int):∀(p:Int)(seen l:List qD),Maps.past m since p seen l=true→∀ s ∈ l,(0≤s.f0∧s.f0<since)∧Maps.riseI 0 s.f1=true
 | _,_,[],_,_,h=>nomatch h
 | p,seen,s :: l,hp,u,hu=>by
  simp only [Maps.past,Bool.and_eq_true,decide_eq_true_eq]at hp
  rcases List.mem_cons.1 hu with rfl | hu
  ·exact ⟨hp.1.1.1.1,hp.1.1.2⟩
  ·exact qAG m since s.f0 _ l hp.2 u hu
theorem qBf(m:qK):∀(l:List qC),Maps.trails m l=true→∀ t ∈ l,(0≤t.f0∧t.f0≤m.f0)∧∀ s ∈ t.f1,(0≤s.f0∧s.f0<t.f0)∧Maps.riseI 0 s.f1=true
 | [],_,_,h=>nomatch h
 | t :: l,ht,u,hu=>by
  simp only [Maps.trails,Bool.and_eq_true,decide_eq_true_eq]at ht
  rcases List.mem_cons.1 hu with rfl | hu
  ·exact ⟨ht.1.1,qAG m _ _ _ _ ht.1.2⟩
  ·exact qBf m l ht.2 u hu
theorem qDE(b:Bool):0≤bit b∧bit b≤1:=by cases b <;> decide
theorem qDF(m:qK)(hm:Maps.May m)(hl:Maps.Lit8 m):In31 (enc m)∧(enc m).length≤4000:=by
 have hf:=hm.1
 have hg:Good ⟨enc m,[]⟩ m:=⟨hm,rfl,rfl⟩
 obtain ⟨g5, -⟩:=qDb hg
 obtain ⟨-,g6, -⟩:=qDc hg
 have hT:=qBQ m (-1) m.f5 hm.2.1
 have hS:=qAu m m.f6 hm.2.2.2
 have h4:=hf.2.2.2.2.1
 have h1:=hf.2.1
 have hi:=qBv m (-1) m.f5 hm.2.1
 have hj:=qBf m m.f6 hm.2.2.2
 have hk:=qCm 0 m.f4 hf.2.2.2.2.2
 constructor
 ·intro n hn
  simp only [enc,List.mem_cons,List.mem_append,List.mem_flatMap]at hn
  have h0:=hf.1
  have h2:=hf.2.2.1
  have h3:=hf.2.2.2.1
  rcases hn with rfl | rfl | rfl | rfl | rfl | ⟨a,ha,hn⟩ | rfl | ⟨t,ht,hn⟩ | ⟨t,ht,hn⟩
  ·omega
  ·omega
  ·omega
  ·omega
  ·omega
  ·have:=hk a ha
   unfold Topo.okN at this
   have b1:=qDE a.f4
   have b2:=qDE a.f5
   simp only [encN,List.mem_cons,List.not_mem_nil,or_false]at hn
   rcases hn with rfl | rfl | rfl | rfl | rfl | rfl <;> omega
  ·omega
  ·have h:=hi t ht
   have h':=hT t ht
   simp only [encT,List.mem_cons]at hn
   rcases hn with rfl | rfl | hn
   ·omega
   ·omega
   ·obtain ⟨a,ha,rfl⟩:=qBu m.f4 [] t.f1 h.2 n hn
    have:=hk a ha
    unfold Topo.okN at this
    omega
  ·have h:=hj t ht
   have h':=hS t ht
   have hp:=hl.hp t ht
   simp only [encTr,List.mem_cons,List.mem_flatMap]at hn
   rcases hn with rfl | rfl | ⟨s,hs,hn⟩
   ·omega
   ·omega
   ·have hh:=h.2 s hs
    have hh':=h' s hs
    simp only [encS,List.mem_cons]at hn
    rcases hn with rfl | rfl | hn
    ·omega
    ·omega
    ·have:=qBw 0 s.f1 hh.2 n hn
     omega
 ·have e4:=qAt encN 6 m.f4 (fun x _=>by simp [encN])
  have e5:=qAt encT 5 m.f5 (fun x hx=>by have:=hT x hx; simp only [encT,List.length_cons]; omega)
  have e6:=qAt encTr 102 m.f6 (fun x hx=>by
   have:=qAt encS 5 x.f1 (fun s hs=>by have:=hS x hx s hs; simp only [encS,List.length_cons]; omega)
   have:=hl.hp x hx
   simp only [encTr,List.length_cons]
   omega)
  simp only [enc,List.length_cons,lA]
  omega
def tot(m:qK):Nat:=cl (enc m).length+sz (enc m)+1
def PostE(m:qK)(w:qP × Int):Prop:=(w=((⟨enc m,[]⟩:qP),0)∧tot m≤4096)∨(w=((⟨[],[]⟩:qP),4)∧4096<tot m)
theorem counted(l:List Int)(h:l.length≤1000000000):qx.f l=some ((l.length:Int) :: l):=by
 unfold qx.f
 rw [if_pos]
 ·rfl
 ·simp only [List.length_singleton]
  omega
theorem pbit(b:Bool):qAD.f b=some (bit b):=by
 cases b <;> rfl
theorem qDe(m:qK)(hm:Maps.Small m)(hb:(enc m).length≤1000000000)(P:qP × Int→Prop)(g:Nat)(hg:g<m.f6.length)(hc:∀ l,l++(m.f6.drop (g+1)).flatMap encTr=enc m→Ht (fun k=>qh.l125 k m l ((g+1:Nat):Int)) P):∀(d i:Nat)(l:List Int),i+d=m.f6[g].f1.length→l++((m.f6[g].f1.drop i).flatMap encS++(m.f6.drop (g+1)).flatMap encTr)=enc m→Ht (fun k=>qh.l161 k m (g:Int) l (i:Int)) P:=by
 have hz:=qAK qC.z _ _ hg
 have hp:=hm.hp _ (gM hg)
 have h6:=hm.h6
 intro d
 induction d with
 | zero =>
  intro i l hi he
  refine .s (qh.l161_s · _ _ _ _) ?_
  rw [hz]
  refine .n (by omega) ?_
  rw [List.drop_eq_nil_of_le (by omega)]at he
  rw [w64n g (by omega)]
  exact hc l he
 | succ d ih =>
  intro i l hi he
  have h1:i<m.f6[g].f1.length:=by omega
  refine .s (qh.l161_s · _ _ _ _) ?_
  rw [hz]
  rw [List.drop_eq_getElem_cons h1,List.flatMap_cons]at he
  have hlen:=congrArg List.length he
  simp only [lA]at hlen
  have hes:(encS m.f6[g].f1[i]).length=m.f6[g].f1[i].f1.length+2:=by simp [encS]
  refine .t (by omega) (.t (by omega) (.t (by omega) ?_))
  rw [qAK _ _ _ h1,w64n i (by omega)]
  refine .o (counted _ (by omega)) (.t (by simp only [lA,List.length_cons,List.length_nil]; omega) (ih (i+1) _ (by omega) ?_))
  rw [← he]
  simp [encS]
theorem qDf(m:qK)(hm:Maps.Small m)(hb:(enc m).length≤4000)(h31:In31 (enc m)):∀(d g:Nat)(l:List Int),g+d=m.f6.length→l++(m.f6.drop g).flatMap encTr=enc m→Ht (fun k=>qh.l125 k m l (g:Int)) (PostE m):=by
 have h6:=hm.h6
 intro d
 induction d with
 | zero =>
  intro g l hg he
  rw [List.drop_eq_nil_of_le (by omega)]at he
  simp only [List.flatMap_nil,List.append_nil]at he
  rw [he]
  refine .s (qh.l125_s · _ _ _) (.n (by omega) (.b (encode (enc m) hb h31) (fun a ha=>.i (fun c=>.c ?_) (fun c=>.c ?_))))
  ·rcases ha with ⟨h,g⟩ | ⟨h,g⟩
   ·exact .inl ⟨rfl,g⟩
   ·omega
  ·rcases ha with ⟨h,g⟩ | ⟨h,g⟩
   ·omega
   ·exact .inr ⟨by rw [h],g⟩
 | succ d ih =>
  intro g l hg he
  have h1:g<m.f6.length:=by omega
  rw [List.drop_eq_getElem_cons h1,List.flatMap_cons]at he
  have hlen:=congrArg List.length he
  simp only [lA,encTr,List.length_cons]at hlen
  refine .s (qh.l125_s · _ _ _) (.t (by omega) (.t (by omega) (.t (by omega) ?_)))
  rw [qAK _ _ _ h1]
  refine qDe m hm (by omega) _ g h1 (fun l' h=>ih (g+1) l' (by omega) h) _ 0 _ (Nat.zero_add _) ?_
  rw [← he]
  simp [encTr]
theorem qDl(m:qK)(hm:Maps.Small m)(hb:(enc m).length≤4000)(h31:In31 (enc m)):∀(d i:Nat)(l:List Int),i+d=m.f5.length→l++((m.f5.drop i).flatMap encT++m.f6.flatMap encTr)=enc m→Ht (fun k=>qh.l75 k m l (i:Int)) (PostE m):=by
 have h5:=hm.h5
 intro d
 induction d with
 | zero =>
  intro i l hi he
  refine .s (qh.l75_s · _ _ _) (.n (by omega) ?_)
  rw [List.drop_eq_nil_of_le (by omega)]at he
  exact qDf m hm hb h31 _ 0 l (Nat.zero_add _) he
 | succ d ih =>
  intro i l hi he
  have h1:i<m.f5.length:=by omega
  rw [List.drop_eq_getElem_cons h1,List.flatMap_cons]at he
  have hlen:=congrArg List.length he
  simp only [lA]at hlen
  have hes:(encT m.f5[i]).length=m.f5[i].f1.length+2:=by simp [encT]
  refine .s (qh.l75_s · _ _ _) (.t (by omega) (.t (by omega) (.t (by omega) ?_)))
  rw [qAK _ _ _ h1,w64n i (by omega)]
  refine .o (counted _ (by omega)) (.t (by simp only [lA,List.length_cons,List.length_nil]; omega) (ih (i+1) _ (by omega) ?_))
  rw [← he]
  simp [encT]
theorem qDm(m:qK)(hm:Maps.Small m)(hb:(enc m).length≤4000)(h31:In31 (enc m)):∀(d i:Nat)(l:List Int),i+d=m.f4.length→l++((m.f4.drop i).flatMap encN++(m.f5.length:Int) :: (m.f5.flatMap encT++m.f6.flatMap encTr))=enc m→Ht (fun k=>qh.l27 k m l (i:Int)) (PostE m):=by
 have h4:=hm.h4
 intro d
 induction d with
 | zero =>
  intro i l hi he
  rw [List.drop_eq_nil_of_le (by omega)]at he
  have hlen:=congrArg List.length he
  simp only [lA,List.length_cons]at hlen
  refine .s (qh.l27_s · _ _ _) (.n (by omega) (.t (by omega) ?_))
  refine qDl m hm hb h31 _ 0 _ (Nat.zero_add _) ?_
  rw [← he]
  simp
 | succ d ih =>
  intro i l hi he
  have h1:i<m.f4.length:=by omega
  rw [List.drop_eq_getElem_cons h1,List.flatMap_cons]at he
  have hlen:=congrArg List.length he
  simp only [lA]at hlen
  have hes:(encN m.f4[i]).length=6:=rfl
  refine .s (qh.l27_s · _ _ _) (.t (by omega) (.t (by omega) (.o (pbit _) (.o (pbit _) (.t (by omega) ?_)))))
  rw [qAK _ _ _ h1,w64n i (by omega)]
  refine ih (i+1) _ (by omega) ?_
  rw [← he]
  simp [encN]
theorem pmap(m:qK)(hl:Maps.Lit8 m):Ht (fun k=>qh.f k m) (fun w=>(Maps.May m∧PostE m w)∨(¬ Maps.May m∧w=((⟨[],[]⟩:qP),1))):=by
 unfold qh.f
 refine .e (Maps.check m hl.small) ?_
 by_cases h:Maps.May m
 ·rw [dT h]
  obtain ⟨h31,hb⟩:=qDF m h hl
  exact .t rfl (.m (fun w hw=>.inl ⟨h,hw⟩) (qDm m hl.small hb h31 _ 0 _ (Nat.zero_add _) rfl))
 ·rw [dF h]
  exact .n (by decide) (.c (.inr ⟨h,rfl⟩))
theorem awake0(k:Nat):qj.f (k+100)=some true:=by kernel_rfl
theorem awake:Ev (fun k=>qj.f k) true:=by
 refine ⟨100,fun k hk=>?_⟩
 obtain ⟨k,rfl⟩:∃ m,k=m+100:=⟨k - 100,by omega⟩
 exact awake0 k
theorem lawMaps(m:qK):Ev (fun k=>qo.f k m) true:=by
 unfold qo.f
 obtain ⟨b,eb,hb⟩:=Maps.light m
 refine .b eb ?_
 cases b with
 | false=>exact .n (by decide) (.b awake (.c _))
 | true =>
  have L:=hb rfl
  obtain ⟨w,ew,pw⟩:=pmap m L
  refine .t rfl (.b ew (.b (Maps.may m L.small) ?_))
  have nil:Ev (fun k=>ql.f k (⟨[],[]⟩:qP) (⟨[],[]⟩:qP)) true:=(qBe [] ⟨[],[]⟩ (by decide)).v rfl
  rcases pw with ⟨hM,pw⟩ | ⟨hM,rfl⟩
  ·rw [dT hM]
   obtain ⟨h31,hl⟩:=qDF m hM L
   refine .t rfl (.b (encmap m L.small (by omega)) (.b (refmay (enc m) hl h31) ?_))
   rcases pw with ⟨rfl,ht⟩ | ⟨rfl,ht⟩
   ·have ht':cl (enc m).length+sz (enc m)+1≤4096:=ht
    rw [dT ht']
    obtain ⟨u,eu,pu⟩:=map ⟨enc m,[]⟩ hl
    rcases pu with ⟨hu,gu,su,uu⟩ | ⟨rfl,hu⟩
    ·refine .t rfl (.b eu (.t rfl (.b ((qBe (enc m) ⟨enc m,[]⟩ (by omega)).v (dT ⟨rfl,rfl⟩)) (.t rfl (.t hu ?_)))))
     rw [← uu m ⟨hM,rfl,rfl⟩]
     exact .b (Maps.same_refl m L.small (fun t ht=>by have:=L.ht t ht; omega)) (.t rfl (.b awake (.c _)))
    ·exact absurd ⟨hM,rfl,rfl⟩ (hu m)
   ·have ht':¬ (cl (enc m).length+sz (enc m)+1≤4096):=by have:4096<cl (enc m).length+sz (enc m)+1:=ht; omega
    rw [dF ht']
    exact .n (by decide) (.t rfl (.b nil (.t rfl (.b awake (.c _)))))
  ·rw [dF hM]
   exact .n (by decide) (.t rfl (.b nil (.t rfl (.b awake (.c _)))))
end Read
theorem purePastMaps:PurePastMaps:=fun m hm=>Ev.one (Read.lawMaps m)
end Go.Proofs.Ytpabbpebefdafaa.PM
