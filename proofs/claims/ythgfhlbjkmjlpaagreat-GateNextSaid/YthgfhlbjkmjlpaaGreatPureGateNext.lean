import Derived.Test.YthgfhlbjkmjlpaaGreatPureGateNextA
namespace Go.Proofs.YthgfhlbjkmjlpaaGreat.GN
open Go Go.RowKit Go.Proofs.YthgfhlbjkmjlpaaGreat Go.Proofs.YthgfhlbjkmjlpaaGreat.Sl
set_option linter.unusedVariables false
set_option linter.unusedSimpArgs false
namespace Maps
theorem min'(x a b:Int):qBM.f x a b=some (decide (a≤x∧x≤b)):=by
 unfold qBM.f
 by_cases h:x≥a
 ·rw [if_pos h]
  congr 1
  simp only [decide_eq_decide]
  omega
 ·rw [if_neg h,dF (by omega)]
def temps(m:qE):Int→List qD→Bool
 | _,[]=>true
 | p,t :: l=>(decide ((0≤t.f0∧t.f0<m.f3)∧p<t.f0∧1≤(t.f1.length:Int)∧(t.f1.length:Int)≤m.f1)&&Topo.apartR m.f4 [] t.f1)&&temps m t.f0 l
def riseI:Int→List Int→Bool
 | _,[]=>true
 | p,n :: l=>decide ((1≤n∧n≤999)∧p<n)&&riseI n l
def past(m:qE)(since:Int):Int→List qG→List qG→Bool
 | _,_,[]=>true
 | p,seen,s :: l=>(decide ((0≤s.f0∧s.f0<since)∧p<s.f0∧m.f2≤(s.f1.length:Int)∧(s.f1.length:Int)≤m.f1)&&riseI 0 s.f1 && !decide (∃ x ∈ seen,x.f1=s.f1))&&past m since s.f0 (seen++[s]) l
def trails(m:qE):List qC→Bool
 | []=>true
 | t :: l=>(decide (0≤t.f0∧t.f0≤m.f0)&&past m t.f0 (-1) [] t.f1)&&trails m l
def Flat(m:qE):Prop:=(0≤m.f0∧m.f0≤2147483647)∧(1≤m.f1∧m.f1≤3)∧(1≤m.f2∧m.f2≤m.f1)∧(1≤m.f3∧m.f3≤8)∧Topo.Nodes m.f4
instance (m:qE):Decidable (Flat m):=inferInstanceAs (Decidable (_∧_))
def May(m:qE):Prop:=Flat m∧temps m (-1) m.f5=true∧(m.f6.length:Int)=m.f3∧trails m m.f6=true
instance (m:qE):Decidable (May m):=inferInstanceAs (Decidable (_∧_))
structure Small (m:qE):Prop where
 h4:m.f4.length<4611686018427387904
 h5:m.f5.length<4611686018427387904
 h6:m.f6.length<4611686018427387904
 hp:∀ t ∈ m.f6,t.f1.length<4611686018427387904
 hs:∀ t ∈ m.f6,∀ s ∈ t.f1,s.f1.length<4611686018427387904
def preT(l:List qD)(i:Nat):Int:=if i=0 then -1 else (nth qD.z l (w64 ((i:Int) - 1))).f0
theorem qFN(l:List qD)(i:Nat)(h:i<l.length)(hl:l.length<4611686018427387904):preT l (i+1)=l[i].f0:=by
 unfold preT
 rw [if_neg (by omega),w64p (i+1) (by omega) (by omega),show i+1 - 1=i by omega,nth_get _ _ _ h]
def preS(l:List qG)(i:Nat):Int:=if i=0 then -1 else (nth qG.z l (w64 ((i:Int) - 1))).f0
theorem qHP(l:List qG)(i:Nat)(h:i<l.length)(hl:l.length<4611686018427387904):preS l (i+1)=l[i].f0:=by
 unfold preS
 rw [if_neg (by omega),w64p (i+1) (by omega) (by omega),show i+1 - 1=i by omega,nth_get _ _ _ h]
def preI(l:List Int)(i:Nat):Int:=if i=0 then 0 else nth 0 l (w64 ((i:Int) - 1))
theorem qFO(l:List Int)(i:Nat)(h:i<l.length)(hl:l.length<4611686018427387904):preI l (i+1)=l[i]:=by
 unfold preI
 rw [if_neg (by omega),w64p (i+1) (by omega) (by omega),show i+1 - 1=i by omega,nth_get _ _ _ h]
theorem qEo{α : Type}(a b:List α)(i:Nat)(ha:i<a.length)(hb:i<b.length):(a.drop i=b.drop i)↔(a[i]=b[i]∧a.drop (i+1)=b.drop (i+1)):=by
 rw [List.drop_eq_getElem_cons ha,List.drop_eq_getElem_cons hb,List.cons.injEq]
theorem qIG(a b:List Int)(hab:a.length=b.length)(hl:a.length<4611686018427387904):∀(d i:Nat),i+d=a.length→Ev (fun k=>qv.l9 k a b (i:Int)) (decide (a.drop i=b.drop i)):=by
 intro d
 induction d with
 | zero =>
  intro i hi
  refine .s (qv.l9_s · _ _ _) (.n (by omega) (.cv ?_))
  rw [List.drop_eq_nil_of_le (by omega),List.drop_eq_nil_of_le (by omega)]
  rfl
 | succ d ih =>
  intro i hi
  have h1:i<a.length:=by omega
  have h2:i<b.length:=by omega
  refine .s (qv.l9_s · _ _ _) (.t (by omega) (.t (by omega) (.t (by omega) ?_)))
  rw [nth_get _ _ _ h1,nth_get _ _ _ h2,w64n i (by omega)]
  refine .i (fun h=>(ih (i+1) (by omega)).v ?_) (fun h=>.cv ?_)
  ·simp only [qEo a b i h1 h2,h,true_and]
  ·simp only [qEo a b i h1 h2,h,false_and,decide_false]
theorem equal(a b:List Int)(hl:a.length<4611686018427387904):Ev (fun k=>qv.f k a b) (decide (a=b)):=by
 unfold qv.f
 refine .i (fun h=>qIG a b (by omega) hl a.length 0 (by omega)) (fun h=>.cv ?_)
 exact (dF (fun e=>h (by rw [e]))).symm
theorem qIp(a b:List Int)(hab:a.length=b.length)(hl:a.length<4611686018427387904):∀(d i:Nat),i+d=a.length→Ev (fun k=>qz.l9 k a b (i:Int)) (decide (a.drop i=b.drop i)):=by
 intro d
 induction d with
 | zero =>
  intro i hi
  refine .s (qz.l9_s · _ _ _) (.n (by omega) (.cv ?_))
  rw [List.drop_eq_nil_of_le (by omega),List.drop_eq_nil_of_le (by omega)]
  rfl
 | succ d ih =>
  intro i hi
  have h1:i<a.length:=by omega
  have h2:i<b.length:=by omega
  refine .s (qz.l9_s · _ _ _) (.t (by omega) (.t (by omega) (.t (by omega) ?_)))
  rw [nth_get _ _ _ h1,nth_get _ _ _ h2,w64n i (by omega)]
  refine .i (fun h=>(ih (i+1) (by omega)).v ?_) (fun h=>.cv ?_)
  ·simp only [qEo a b i h1 h2,h,true_and]
  ·simp only [qEo a b i h1 h2,h,false_and,decide_false]
theorem ints(a b:List Int)(hl:a.length<4611686018427387904):Ev (fun k=>qz.f k a b) (decide (a=b)):=by
 unfold qz.f
 refine .i (fun h=>qIp a b (by omega) hl a.length 0 (by omega)) (fun h=>.cv ?_)
 exact (dF (fun e=>h (by rw [e]))).symm
theorem qIq(l:List qG)(s:qG)(hl:l.length<4611686018427387904)(hs:∀ x ∈ l,x.f1.length<4611686018427387904):∀(d i:Nat),i+d=l.length→∃ x,Ev (fun k=>qY.l5 k l s (i:Int)) x∧(0≤x↔∃ y ∈ l.drop i,y.f1=s.f1):=by
 intro d
 induction d with
 | zero =>
  intro i hi
  refine ⟨-1,.s (qY.l5_s · _ _ _) (.n (by omega) (.c _)),?_⟩
  rw [List.drop_eq_nil_of_le (by omega)]
  simp
 | succ d ih =>
  intro i hi
  have h1:i<l.length:=by omega
  obtain ⟨x,hx,hm⟩:=ih (i+1) (by omega)
  have hq:Ev (fun k=>qBw.f k l[i] s) (decide (l[i].f1=s.f1)):=by
   unfold qBw.f
   exact .b (equal _ _ (hs _ (gM h1))) (.c _)
  by_cases h:l[i].f1=s.f1
  ·refine ⟨i,.s (qY.l5_s · _ _ _) (.t (by omega) (.t (by omega) ?_)),?_⟩
   ·rw [nth_get _ _ _ h1]
    exact .b hq (.t (dT h) (.c _))
   ·rw [List.drop_eq_getElem_cons h1]
    exact ⟨fun _=>⟨_,List.mem_cons_self,h⟩,fun _=>by omega⟩
  ·refine ⟨x,.s (qY.l5_s · _ _ _) (.t (by omega) (.t (by omega) ?_)),?_⟩
   ·rw [nth_get _ _ _ h1,w64n i (by omega)]
    exact .b hq (.n (by simpa using h) hx)
   ·rw [List.drop_eq_getElem_cons h1,hm]
    exact ⟨fun ⟨y,m,e⟩=>⟨y,List.mem_cons.2 (.inr m),e⟩,fun ⟨y,m,e⟩=>⟨y,(List.mem_cons.1 m).resolve_left (fun q=>h (q ▸ e)),e⟩⟩
theorem seen(l:List qG)(s:qG)(hl:l.length<4611686018427387904)(hs:∀ x ∈ l,x.f1.length<4611686018427387904):Ev (fun k=>qx.f k l s) (decide (∃ y ∈ l,y.f1=s.f1)):=by
 obtain ⟨x,hx,hm⟩:=qIq l s hl hs l.length 0 (by omega)
 unfold qx.f qY.f
 refine .b hx (.cv ?_)
 rw [decide_eq_decide]
 exact hm
theorem qIH (m:qE) (t:qC) (i:Nat) (hl:t.f1.length<4611686018427387904) (hs:∀ s ∈ t.f1,s.f1.length<4611686018427387904) (hi:i<t.f1.length) (w:Bool)
  (hc:riseI 0 t.f1[i].f1=true→(∃ y ∈ t.f1.take i,y.f1=t.f1[i].f1)→w=false)
  (hn:riseI 0 t.f1[i].f1=true→(¬ ∃ y ∈ t.f1.take i,y.f1=t.f1[i].f1)→Ev (fun k=>qAa.l9 k m t ((i+1:Nat):Int)) w)
  (hr:¬ riseI 0 t.f1[i].f1=true→w=false):∀(d j:Nat),j+d=t.f1[i].f1.length→(riseI 0 t.f1[i].f1=riseI (preI t.f1[i].f1 j) (t.f1[i].f1.drop j))→Ev (fun k=>qAa.l61 k m t (i:Int) (j:Int)) w:=by
 have hz:=nth_get qG.z _ _ hi
 have hsl:=hs _ (gM hi)
 intro d
 induction d with
 | zero =>
  intro j hj he
  refine .s (qAa.l61_s · _ _ _ _) ?_
  rw [hz]
  rw [List.drop_eq_nil_of_le (by omega)]at he
  refine .n (by omega) (.t (by omega) ?_)
  rw [show cutl t.f1 0 (i:Int)=t.f1.take i by simp [cutl],w64n i (by omega)]
  refine .b (seen _ _ (by simp; omega) (fun x m=>hs x (List.mem_of_mem_take m))) ?_
  refine .i (fun h=>.cv (hc he ?_).symm) (fun h=>hn he ?_)
  ·simpa using h
  ·simpa using h
 | succ d ih =>
  intro j hj he
  have h1:j<t.f1[i].f1.length:=by omega
  refine .s (qAa.l61_s · _ _ _ _) ?_
  rw [hz]
  refine .t (by omega) (.t (by omega) ?_)
  rw [List.drop_eq_getElem_cons h1]at he
  simp only [riseI]at he
  have hb:∀ b:Bool,(b=true↔¬ ((1≤t.f1[i].f1[j]∧t.f1[i].f1[j]≤999)∧preI t.f1[i].f1 j<t.f1[i].f1[j]))→Ev (fun k=>qAa.j86 k m t (i:Int) (j:Int) b) w:=by
   intro b hb
   refine .s (qAa.j86_s · _ _ _ _ _) ?_
   by_cases h:(1≤t.f1[i].f1[j]∧t.f1[i].f1[j]≤999)∧preI t.f1[i].f1 j<t.f1[i].f1[j]
   ·refine .n (fun e=>(hb.1 e) h) ?_
    rw [w64n j (by omega)]
    refine ih (j+1) (by omega) ?_
    rw [he,qFO _ j h1 hsl,dT h,Bool.true_and]
   ·refine .t (hb.2 h) (.cv (hr ?_).symm)
    rw [he,dF h]
    simp
  clear he ih hr hn hc
  rw [nth_get _ _ _ h1]
  have hp0:j=0→preI t.f1[i].f1 j=0:=fun e=>if_pos e
  have hp1:j≠0→nth 0 t.f1[i].f1 (w64 ((j:Int) - 1))=preI t.f1[i].f1 j:=fun e=>(if_neg e).symm
  have hw:j≠0→w64 ((j:Int) - 1)=((j - 1:Nat):Int):=fun e=>w64p j (by omega) (by omega)
  generalize preI t.f1[i].f1 j=p at *
  generalize nth 0 t.f1[i].f1 (w64 ((j:Int) - 1))=q at *
  generalize t.f1[i].f1[j]=n at *
  repeat' (first | refine Ev.b0 (min' _ _ _) ?_ | refine Ev.i (fun _=>?_) (fun _=>?_))
  all_goals simp only [decide_eq_true_eq]at *
  all_goals first
   | exact hb _ (by simp only [decide_eq_true_eq,Bool.false_eq_true,true_iff,false_iff]; omega)
   | (exfalso; omega)
theorem qIr(m:qE)(t:qC)(hl:t.f1.length<4611686018427387904)(hs:∀ s ∈ t.f1,s.f1.length<4611686018427387904)(ht:0≤t.f0∧t.f0≤2147483647):∀(d i:Nat),i+d=t.f1.length→Ev (fun k=>qAa.l9 k m t (i:Int)) (past m t.f0 (preS t.f1 i) (t.f1.take i) (t.f1.drop i)):=by
 intro d
 induction d with
 | zero =>
  intro i hi
  refine .s (qAa.l9_s · _ _ _) (.n (by omega) (.cv ?_))
  rw [List.drop_eq_nil_of_le (by omega)]
  rfl
 | succ d ih =>
  intro i hi
  have h1:i<t.f1.length:=by omega
  refine .s (qAa.l9_s · _ _ _) (.t (by omega) (.t (by omega) ?_))
  have ih:=ih (i+1) (by omega)
  rw [qHP _ i h1 hl,List.take_add_one,List.getElem?_eq_getElem h1,Option.toList_some]at ih
  rw [nth_get _ _ _ h1,List.drop_eq_getElem_cons h1]
  simp only [past]
  have hj:∀ b:Bool,(b=true↔¬ ((0≤t.f1[i].f0∧t.f1[i].f0<t.f0)∧preS t.f1 i<t.f1[i].f0∧m.f2≤(t.f1[i].f1.length:Int)∧(t.f1[i].f1.length:Int)≤m.f1))→Ev (fun k=>qAa.j51 k m t (i:Int) b) (decide ((0≤t.f1[i].f0∧t.f1[i].f0<t.f0)∧preS t.f1 i<t.f1[i].f0∧m.f2≤(t.f1[i].f1.length:Int)∧(t.f1[i].f1.length:Int)≤m.f1)&&riseI 0 t.f1[i].f1 && !decide (∃ x ∈ t.f1.take i,x.f1=t.f1[i].f1)&&past m t.f0 t.f1[i].f0 (t.f1.take i++[t.f1[i]]) (t.f1.drop (i+1))):=by
   intro b hb
   refine .s (qAa.j51_s · _ _ _ _) ?_
   by_cases h:(0≤t.f1[i].f0∧t.f1[i].f0<t.f0)∧preS t.f1 i<t.f1[i].f0∧m.f2≤(t.f1[i].f1.length:Int)∧(t.f1[i].f1.length:Int)≤m.f1
   ·refine .n (fun e=>(hb.1 e) h) ?_
    rw [dT h,Bool.true_and]
    refine qIH m t i hl hs h1 _ ?_ ?_ ?_ t.f1[i].f1.length 0 (by omega) (by rw [List.drop_zero]; rfl)
    ·intro h2 h3
     rw [h2,dT h3]
     simp
    ·intro h2 h3
     refine ih.v ?_
     rw [h2,dF h3]
     simp
    ·intro h2
     simp [h2]
   ·refine .t (hb.2 h) (.cv ?_)
    rw [dF h]
    simp
  clear ih
  have hp0:i=0→preS t.f1 i = -1:=fun e=>if_pos e
  have hp1:i≠0→(nth qG.z t.f1 (w64 ((i:Int) - 1))).f0=preS t.f1 i:=fun e=>(if_neg e).symm
  have hw:i≠0→w64 ((i:Int) - 1)=((i - 1:Nat):Int):=fun e=>w64p i (by omega) (by omega)
  have hw2:w64 (t.f0 - 1)=t.f0 - 1:=qCe (by omega) (by omega)
  rw [hw2]
  generalize hv:(decide ((0≤t.f1[i].f0∧t.f1[i].f0<t.f0)∧preS t.f1 i<t.f1[i].f0∧m.f2≤(t.f1[i].f1.length:Int)∧(t.f1[i].f1.length:Int)≤m.f1)&&riseI 0 t.f1[i].f1 && !decide (∃ x ∈ t.f1.take i,x.f1=t.f1[i].f1)&&past m t.f0 t.f1[i].f0 (t.f1.take i++[t.f1[i]]) (t.f1.drop (i+1)))=v at hj ⊢
  clear hv
  generalize preS t.f1 i=p at *
  generalize (nth qG.z t.f1 (w64 ((i:Int) - 1))).f0=q at *
  generalize t.f1[i]=n at *
  repeat' (first | refine Ev.b0 (min' _ _ _) ?_ | refine Ev.i (fun _=>?_) (fun _=>?_))
  all_goals simp only [decide_eq_true_eq]at *
  all_goals first
   | exact hj _ (by simp only [decide_eq_true_eq,Bool.false_eq_true,true_iff,false_iff,Bool.not_eq_true',decide_eq_false_iff_not]; omega)
   | (exfalso; omega)
theorem pastf(m:qE)(t:qC)(hl:t.f1.length<4611686018427387904)(hs:∀ s ∈ t.f1,s.f1.length<4611686018427387904)(ht:0≤t.f0∧t.f0≤2147483647):Ev (fun k=>qAa.f k m t) (past m t.f0 (-1) [] t.f1):=by
 unfold qAa.f
 exact qIr m t hl hs ht t.f1.length 0 (by omega)
theorem qGZ(m:qE)(hm:Small m)(h0:m.f0≤2147483647):∀(d i:Nat),i+d=m.f6.length→Ev (fun k=>qAx.l11 k m (i:Int)) (eno (trails m (m.f6.drop i))):=by
 have h6:=hm.h6
 intro d
 induction d with
 | zero =>
  intro i hi
  refine .s (qAx.l11_s · _ _) (.n (by omega) (.cv ?_))
  rw [List.drop_eq_nil_of_le (by omega)]
  rfl
 | succ d ih =>
  intro i hi
  have h1:i<m.f6.length:=by omega
  refine .s (qAx.l11_s · _ _) (.t (by omega) (.t (by omega) ?_))
  have ih:=ih (i+1) (by omega)
  rw [nth_get _ _ _ h1,List.drop_eq_getElem_cons h1,trails]
  refine .b0 (min' _ _ _) (.i (fun h=>?_) (fun h=>?_))
  ·have h:=oT h
   refine .b (pastf m m.f6[i] (hm.hp _ (gM h1)) (hm.hs _ (gM h1)) (by omega)) (.s (qAx.j40_s · _ _ _) ?_)
   rw [dT h,Bool.true_and,w64n i (by omega)]
   cases past m m.f6[i].f0 (-1) [] m.f6[i].f1 with
   | true=>exact .n (by decide) ih
   | false=>exact .t rfl (.c _)
  ·refine .s (qAx.j40_s · _ _ _) (.t rfl (.cv ?_))
   have h:¬ (0≤m.f6[i].f0∧m.f6[i].f0≤m.f0):=fun e=>h (dT e)
   rw [dF h]
   rfl
theorem trailsf(m:qE)(hm:Small m)(h0:m.f0≤2147483647):Ev (fun k=>qAx.f k m) (eno (decide ((m.f6.length:Int)=m.f3∧trails m m.f6=true))):=by
 unfold qAx.f
 refine .i (fun h=>(qGZ m hm h0 m.f6.length 0 (by omega)).v ?_) (fun h=>.cv ?_)
 ·rw [List.drop_zero]
  congr 1
  simp [h]
 ·rw [dF (fun e=>h e.1)]
  rfl
theorem qHQ(m:qE)(hm:Small m)(hf:Flat m):∀(d i:Nat),i+d=m.f5.length→Ev (fun k=>qAJ.l36 k m (i:Int)) (eno (temps m (preT m.f5 i) (m.f5.drop i)&&decide ((m.f6.length:Int)=m.f3∧trails m m.f6=true))):=by
 have h5:=hm.h5
 have hg:=hf.2.2.2.1
 intro d
 induction d with
 | zero =>
  intro i hi
  refine .s (qAJ.l36_s · _ _) (.n (by omega) (.b (trailsf m hm hf.1.2) (.cv ?_)))
  rw [List.drop_eq_nil_of_le (by omega)]
  rfl
 | succ d ih =>
  intro i hi
  have h1:i<m.f5.length:=by omega
  refine .s (qAJ.l36_s · _ _) (.t (by omega) (.t (by omega) ?_))
  have ih:=ih (i+1) (by omega)
  rw [qFN _ i h1 h5]at ih
  rw [nth_get _ _ _ h1,List.drop_eq_getElem_cons h1,temps]
  have hj:∀ b:Bool,(b = !(decide ((0≤m.f5[i].f0∧m.f5[i].f0<m.f3)∧preT m.f5 i<m.f5[i].f0∧1≤(m.f5[i].f1.length:Int)∧(m.f5[i].f1.length:Int)≤m.f1)&&Topo.apartR m.f4 [] m.f5[i].f1))→Ev (fun k=>qAJ.j85 k m (i:Int) b) (eno (((decide ((0≤m.f5[i].f0∧m.f5[i].f0<m.f3)∧preT m.f5 i<m.f5[i].f0∧1≤(m.f5[i].f1.length:Int)∧(m.f5[i].f1.length:Int)≤m.f1)&&Topo.apartR m.f4 [] m.f5[i].f1)&&temps m m.f5[i].f0 (m.f5.drop (i+1)))&&decide ((m.f6.length:Int)=m.f3∧trails m m.f6=true))):=by
   intro b hb
   refine .s (qAJ.j85_s · _ _ _) ?_
   rw [w64n i (by omega)]
   generalize (decide ((0≤m.f5[i].f0∧m.f5[i].f0<m.f3)∧preT m.f5 i<m.f5[i].f0∧1≤(m.f5[i].f1.length:Int)∧(m.f5[i].f1.length:Int)≤m.f1)&&Topo.apartR m.f4 [] m.f5[i].f1)=c at hb ⊢
   subst hb
   cases c with
   | true=>exact .n (by decide) ih
   | false=>exact .t rfl (.c _)
  clear ih
  have hj1:¬ ((0≤m.f5[i].f0∧m.f5[i].f0<m.f3)∧preT m.f5 i<m.f5[i].f0∧1≤(m.f5[i].f1.length:Int)∧(m.f5[i].f1.length:Int)≤m.f1)→Ev (fun k=>qAJ.j85 k m (i:Int) true) _:=fun h=>hj true (by rw [dF h]; rfl)
  have hj2:((0≤m.f5[i].f0∧m.f5[i].f0<m.f3)∧preT m.f5 i<m.f5[i].f0∧1≤(m.f5[i].f1.length:Int)∧(m.f5[i].f1.length:Int)≤m.f1)→Ev (fun k=>(qAY.f k m.f4 m.f5[i].f1).bind fun t75=>qAJ.j85 k m (i:Int) (!t75)) _:=fun h=>.b (Topo.apart m.f4 m.f5[i].f1 hm.h4 (by have:=hf.2.1; omega)) (hj _ (by rw [dT h,dT hf.2.2.2.2]))
  have hp0:i=0→preT m.f5 i = -1:=fun e=>if_pos e
  have hp1:i≠0→(nth qD.z m.f5 (w64 ((i:Int) - 1))).f0=preT m.f5 i:=fun e=>(if_neg e).symm
  have hw:i≠0→w64 ((i:Int) - 1)=((i - 1:Nat):Int):=fun e=>w64p i (by omega) (by omega)
  have hw2:w64 (m.f3 - 1)=m.f3 - 1:=qCe (by omega) (by omega)
  rw [hw2]
  clear hj
  generalize (eno (((decide ((0≤m.f5[i].f0∧m.f5[i].f0<m.f3)∧preT m.f5 i<m.f5[i].f0∧1≤(m.f5[i].f1.length:Int)∧(m.f5[i].f1.length:Int)≤m.f1)&&Topo.apartR m.f4 [] m.f5[i].f1)&&temps m m.f5[i].f0 (m.f5.drop (i+1)))&&decide ((m.f6.length:Int)=m.f3∧trails m m.f6=true)))=v at hj1 hj2 ⊢
  generalize preT m.f5 i=p at *
  generalize (nth qD.z m.f5 (w64 ((i:Int) - 1))).f0=q at *
  generalize m.f5[i]=n at *
  repeat' (first | refine Ev.b0 (min' _ _ _) ?_ | refine Ev.i (fun _=>?_) (fun _=>?_))
  all_goals simp only [decide_eq_true_eq]at *
  all_goals first
   | exact hj1 (by omega)
   | exact hj2 (by omega)
   | (exfalso; omega)
theorem check(m:qE)(hm:Small m):Ev (fun k=>qAJ.f k m) (eno (decide (May m))):=by
 have hj1:¬ Flat m→Ev (fun k=>qAJ.j26 k m true) (eno (decide (May m))):=fun h=>.s (qAJ.j26_s · _ _) (.t rfl (.cv (by rw [dF (fun e:May m=>h e.1)]; rfl)))
 have hj2:Flat m→Ev (fun k=>qAJ.j26 k m false) (eno (decide (May m))):=fun h=>.s (qAJ.j26_s · _ _) (.n (by decide) ((qHQ m hm h m.f5.length 0 (by omega)).v (by
  rw [List.drop_zero]
  congr 1
  rw [Bool.eq_iff_iff,Bool.and_eq_true,decide_eq_true_eq,decide_eq_true_eq]
  exact ⟨fun e=>⟨h,e⟩,fun e=>e.2⟩)))
 unfold qAJ.f
 generalize eno (decide (May m))=v at *
 unfold Flat at hj1 hj2
 refine .b0 (min' _ _ _) (.i (fun h=>.b0 (min' _ _ _) (.i (fun h=>.b0 (min' _ _ _) (.i (fun h=>.b0 (min' _ _ _) (.i (fun h=>.b (Topo.check m.f4 hm.h4) ?_) (fun h=>?_))) (fun h=>?_))) (fun h=>?_))) (fun h=>?_))
 all_goals simp only [decide_eq_true_eq]at *
 ·by_cases hN:Topo.Nodes m.f4
  ·rw [dT hN]
   refine hj2 ⟨?_,?_,?_,?_,hN⟩ <;> omega
  ·rw [dF hN]
   exact hj1 (fun e=>hN e.2.2.2.2)
 all_goals refine hj1 (fun e=>?_)
 all_goals have:=e.1
 all_goals have:=e.2.1
 all_goals have:=e.2.2.1
 all_goals have:=e.2.2.2.1
 all_goals omega
def ahead(s:qG)(seen:List qG):Bool:=decide (∀ x ∈ seen,x.f0<s.f0∧x.f1≠s.f1)
def pastR(m:qE)(since:Int):List qG→List qG→Bool
 | _,[]=>true
 | seen,s :: l=>(decide ((0≤s.f0∧s.f0<since)∧m.f2≤(s.f1.length:Int)∧(s.f1.length:Int)≤m.f1)&&riseI 0 s.f1&&ahead s seen)&&pastR m since (seen++[s]) l
theorem qCU(m:qE)(since:Int):∀(l seen:List qG)(p:Int),(∀ x ∈ seen,x.f0≤p)→(p = -1∨∃ x ∈ seen,x.f0=p)→past m since p seen l=pastR m since seen l
 | [],_,_,_,_=>rfl
 | s :: l,seen,p,h1,h2=>by
  rw [past,pastR]
  by_cases h:(0≤s.f0∧s.f0<since)∧p<s.f0∧m.f2≤(s.f1.length:Int)∧(s.f1.length:Int)≤m.f1
  ·have h':(0≤s.f0∧s.f0<since)∧m.f2≤(s.f1.length:Int)∧(s.f1.length:Int)≤m.f1:=⟨h.1,h.2.2⟩
   have ha:(!decide (∃ x ∈ seen,x.f1=s.f1))=ahead s seen:=by
    unfold ahead
    rw [Bool.eq_iff_iff,Bool.not_eq_true',decide_eq_false_iff_not,decide_eq_true_eq]
    exact ⟨fun e x hx=>⟨Int.lt_of_le_of_lt (h1 x hx) h.2.1,fun q=>e ⟨x,hx,q⟩⟩,fun e ⟨x,hx,q⟩=>(e x hx).2 q⟩
   rw [dT h,dT h',ha,qCU m since l (seen++[s]) s.f0 ?_ (.inr ⟨s,by simp,rfl⟩)]
   ·intro x hx
    rcases List.mem_append.1 hx with hx | hx
    ·have:=h1 x hx
     omega
    ·simp only [List.mem_cons,List.not_mem_nil,or_false]at hx
     rw [hx]
     exact Int.le_refl _
  ·rw [dF h]
   simp only [Bool.false_and]
   by_cases h3:(0≤s.f0∧s.f0<since)∧m.f2≤(s.f1.length:Int)∧(s.f1.length:Int)≤m.f1
   ·have:ahead s seen=false:=by
     unfold ahead
     rw [decide_eq_false_iff_not]
     intro e
     rcases h2 with rfl | ⟨x,hx,rfl⟩
     ·exact h ⟨h3.1,by omega,h3.2⟩
     ·exact h ⟨h3.1,(e x hx).1,h3.2⟩
    rw [this]
    simp
   ·rw [dF h3]
    simp
def trailsR(m:qE):List qC→Bool
 | []=>true
 | t :: l=>(decide (0≤t.f0∧t.f0≤m.f0)&&pastR m t.f0 [] t.f1)&&trailsR m l
theorem qEF(m:qE):∀ l:List qC,trails m l=trailsR m l
 | []=>rfl
 | t :: l=>by
  rw [trails,trailsR,qEF m l,qCU m t.f0 t.f1 [] (-1) (fun _ h=>nomatch h) (.inl rfl)]
theorem qGa (m:qE) (hm:Small m) (i x:Nat) (hi:i<m.f6.length) (hx:x<m.f6[i].f1.length) (w:Bool)
  (hy:ahead m.f6[i].f1[x] (m.f6[i].f1.take x)=false→w=false)
  (hn:ahead m.f6[i].f1[x] (m.f6[i].f1.take x)=true→Ev (fun k=>qK.l40 k m (i:Int) ((x+1:Nat):Int)) w) :
  ∀(d j:Nat),j+d=x→(∀ y ∈ m.f6[i].f1.take j,y.f0<m.f6[i].f1[x].f0∧y.f1≠m.f6[i].f1[x].f1)→Ev (fun k=>qK.l113 k m (i:Int) (x:Int) (j:Int)) w:=by
 have hz:=nth_get qC.z _ _ hi
 have hz2:=nth_get qG.z _ _ hx
 have hp:=hm.hp _ (gM hi)
 have hs:=hm.hs _ (gM hi)
 intro d
 induction d with
 | zero =>
  intro j hj h
  refine .s (qK.l113_s · _ _ _ _) (.n (by omega) ?_)
  obtain rfl:j=x:=by omega
  rw [w64n j (by omega)]
  exact hn (dT h)
 | succ d ih =>
  intro j hj h
  have h1:j<m.f6[i].f1.length:=by omega
  refine .s (qK.l113_s · _ _ _ _) ?_
  rw [hz,hz2,nth_get _ _ _ h1]
  refine .t (by omega) (.t (by omega) ?_)
  have hin:m.f6[i].f1[j] ∈ m.f6[i].f1.take x:=List.mem_take_iff_getElem.2 ⟨j,by omega,rfl⟩
  refine .i (fun h2=>?_) (fun h2=>.b (ints _ _ (hs _ (gM h1))) ?_)
  ·refine .s (qK.j137_s · _ _ _ _ _) (.t rfl (.cv (hy ?_).symm))
   exact dF (fun e=>by have:=(e _ hin).1; omega)
  ·refine .s (qK.j137_s · _ _ _ _ _) (.i (fun h3=>.cv (hy ?_).symm) (fun h3=>?_))
   ·exact dF (fun e=>(e _ hin).2 (oT h3))
   ·rw [w64n j (by omega)]
    refine ih (j+1) (by omega) ?_
    intro y hy
    rw [List.take_add_one,List.getElem?_eq_getElem h1,Option.toList_some]at hy
    rcases List.mem_append.1 hy with hy | hy
    ·exact h y hy
    ·simp only [List.mem_cons,List.not_mem_nil,or_false]at hy
     rw [hy]
     exact ⟨by omega,fun e=>h3 (dT e)⟩
theorem qHR (m:qE) (hm:Small m) (i x:Nat) (hi:i<m.f6.length) (hx:x<m.f6[i].f1.length) (w:Bool)
  (hc:riseI 0 m.f6[i].f1[x].f1=true→Ev (fun k=>qK.l113 k m (i:Int) (x:Int) 0) w)
  (hr:riseI 0 m.f6[i].f1[x].f1=false→w=false):∀(d j:Nat),j+d=m.f6[i].f1[x].f1.length→(riseI 0 m.f6[i].f1[x].f1=riseI (preI m.f6[i].f1[x].f1 j) (m.f6[i].f1[x].f1.drop j))→Ev (fun k=>qK.l76 k m (i:Int) (x:Int) (j:Int)) w:=by
 have hz:=nth_get qC.z _ _ hi
 have hz2:=nth_get qG.z _ _ hx
 have hsl:=hm.hs _ (gM hi) _ (gM hx)
 generalize hs:m.f6[i].f1[x]=s at *
 intro d
 induction d with
 | zero =>
  intro j hj he
  refine .s (qK.l76_s · _ _ _ _) ?_
  rw [hz,hz2]
  rw [List.drop_eq_nil_of_le (by omega)]at he
  exact .n (by omega) (hc he)
 | succ d ih =>
  intro j hj he
  have h1:j<s.f1.length:=by omega
  refine .s (qK.l76_s · _ _ _ _) ?_
  rw [hz,hz2]
  refine .t (by omega) (.t (by omega) ?_)
  rw [List.drop_eq_getElem_cons h1]at he
  simp only [riseI]at he
  have hb:∀ b:Bool,(b=true↔¬ ((1≤s.f1[j]∧s.f1[j]≤999)∧preI s.f1 j<s.f1[j]))→Ev (fun k=>qK.j104 k m (i:Int) (x:Int) (j:Int) b) w:=by
   intro b hb
   refine .s (qK.j104_s · _ _ _ _ _) ?_
   by_cases h:(1≤s.f1[j]∧s.f1[j]≤999)∧preI s.f1 j<s.f1[j]
   ·refine .n (fun e=>(hb.1 e) h) ?_
    rw [w64n j (by omega)]
    refine ih (j+1) (by omega) ?_
    rw [he,qFO _ j h1 hsl,dT h,Bool.true_and]
   ·refine .t (hb.2 h) (.cv (hr ?_).symm)
    rw [he,dF h]
    simp
  clear he ih hr hc
  rw [nth_get _ _ _ h1]
  have hp0:j=0→preI s.f1 j=0:=fun e=>if_pos e
  have hp1:j≠0→nth 0 s.f1 (w64 ((j:Int) - 1))=preI s.f1 j:=fun e=>(if_neg e).symm
  have hw:j≠0→w64 ((j:Int) - 1)=((j - 1:Nat):Int):=fun e=>w64p j (by omega) (by omega)
  generalize preI s.f1 j=p at *
  generalize nth 0 s.f1 (w64 ((j:Int) - 1))=q at *
  generalize s.f1[j]=n at *
  clear hs hz hz2
  repeat' (first | refine Ev.i (fun _=>?_) (fun _=>?_))
  all_goals first
   | exact hb _ (by simp only [decide_eq_true_eq,Bool.false_eq_true,true_iff,false_iff]; omega)
   | (exfalso; omega)
theorem qHS (m:qE) (hm:Small m) (i:Nat) (hi:i<m.f6.length) (w:Bool→Bool)
  (hn:Ev (fun k=>qK.l7 k m ((i+1:Nat):Int)) (w true)) (hw:w false=false) :
  ∀(d j:Nat),j+d=m.f6[i].f1.length→Ev (fun k=>qK.l40 k m (i:Int) (j:Int)) (w (pastR m m.f6[i].f0 (m.f6[i].f1.take j) (m.f6[i].f1.drop j))):=by
 have hz:=nth_get qC.z _ _ hi
 have hp:=hm.hp _ (gM hi)
 have h6:=hm.h6
 intro d
 induction d with
 | zero =>
  intro j hj
  refine .s (qK.l40_s · _ _ _) ?_
  rw [hz]
  refine .n (by omega) ?_
  rw [List.drop_eq_nil_of_le (by omega),w64n i (by omega)]
  exact hn
 | succ d ih =>
  intro j hj
  have h1:j<m.f6[i].f1.length:=by omega
  refine .s (qK.l40_s · _ _ _) ?_
  rw [hz]
  refine .t (by omega) (.t (by omega) ?_)
  have ih:=ih (j+1) (by omega)
  rw [List.take_add_one,List.getElem?_eq_getElem h1,Option.toList_some]at ih
  rw [nth_get _ _ _ h1,List.drop_eq_getElem_cons h1]
  simp only [pastR]
  have hb:∀ b:Bool,(b=true↔¬ ((0≤m.f6[i].f1[j].f0∧m.f6[i].f1[j].f0<m.f6[i].f0)∧m.f2≤(m.f6[i].f1[j].f1.length:Int)∧(m.f6[i].f1[j].f1.length:Int)≤m.f1))→Ev (fun k=>qK.j66 k m (i:Int) (j:Int) b) (w ((decide ((0≤m.f6[i].f1[j].f0∧m.f6[i].f1[j].f0<m.f6[i].f0)∧m.f2≤(m.f6[i].f1[j].f1.length:Int)∧(m.f6[i].f1[j].f1.length:Int)≤m.f1)&&riseI 0 m.f6[i].f1[j].f1&&ahead m.f6[i].f1[j] (m.f6[i].f1.take j))&&pastR m m.f6[i].f0 (m.f6[i].f1.take j++[m.f6[i].f1[j]]) (m.f6[i].f1.drop (j+1)))):=by
   intro b hb
   refine .s (qK.j66_s · _ _ _ _) ?_
   by_cases h:(0≤m.f6[i].f1[j].f0∧m.f6[i].f1[j].f0<m.f6[i].f0)∧m.f2≤(m.f6[i].f1[j].f1.length:Int)∧(m.f6[i].f1[j].f1.length:Int)≤m.f1
   ·refine .n (fun e=>(hb.1 e) h) ?_
    rw [dT h,Bool.true_and]
    refine qHR m hm i j hi h1 _ ?_ ?_ m.f6[i].f1[j].f1.length 0 (by omega) (by rw [List.drop_zero]; rfl)
    ·intro h2
     refine qGa m hm i j hi h1 _ ?_ ?_ j 0 (by omega) (fun _ hy=>by rw [List.take_zero]at hy; cases hy)
     ·intro h3
      rw [h3,Bool.and_false,Bool.false_and]
      exact hw
     ·intro h3
      refine ih.v ?_
      rw [h2,h3]
      rfl
    ·intro h2
     rw [h2]
     exact hw
   ·refine .t (hb.2 h) (.cv ?_)
    rw [dF h]
    exact hw.symm
  clear ih hn
  generalize (w ((decide ((0≤m.f6[i].f1[j].f0∧m.f6[i].f1[j].f0<m.f6[i].f0)∧m.f2≤(m.f6[i].f1[j].f1.length:Int)∧(m.f6[i].f1[j].f1.length:Int)≤m.f1)&&riseI 0 m.f6[i].f1[j].f1&&ahead m.f6[i].f1[j] (m.f6[i].f1.take j))&&pastR m m.f6[i].f0 (m.f6[i].f1.take j++[m.f6[i].f1[j]]) (m.f6[i].f1.drop (j+1))))=v at hb ⊢
  generalize m.f6[i].f1[j]=n at *
  generalize m.f6[i].f0=q at *
  clear hz
  repeat' (first | refine Ev.i (fun _=>?_) (fun _=>?_))
  all_goals first
   | exact hb _ (by simp only [decide_eq_true_eq,Bool.false_eq_true,true_iff,false_iff]; omega)
   | (exfalso; omega)
theorem qII(m:qE)(hm:Small m):∀(d i:Nat),i+d=m.f6.length→Ev (fun k=>qK.l7 k m (i:Int)) (trailsR m (m.f6.drop i)&&decide ((m.f6.length:Int)=m.f3)):=by
 have h6:=hm.h6
 intro d
 induction d with
 | zero =>
  intro i hi
  refine .s (qK.l7_s · _ _) (.n (by omega) (.cv ?_))
  rw [List.drop_eq_nil_of_le (by omega),trailsR,Bool.true_and]
  rw [Bool.eq_iff_iff,decide_eq_true_eq,beq_iff_eq]
 | succ d ih =>
  intro i hi
  have h1:i<m.f6.length:=by omega
  refine .s (qK.l7_s · _ _) (.t (by omega) (.t (by omega) ?_))
  have ih:=ih (i+1) (by omega)
  rw [nth_get _ _ _ h1,List.drop_eq_getElem_cons h1,trailsR]
  have hj:∀ b:Bool,(b=true↔¬ (0≤m.f6[i].f0∧m.f6[i].f0≤m.f0))→Ev (fun k=>qK.j31 k m (i:Int) b) (decide (0≤m.f6[i].f0∧m.f6[i].f0≤m.f0)&&pastR m m.f6[i].f0 [] m.f6[i].f1&&trailsR m (m.f6.drop (i+1))&&decide ((m.f6.length:Int)=m.f3)):=by
   intro b hb
   refine .s (qK.j31_s · _ _ _) ?_
   by_cases h:0≤m.f6[i].f0∧m.f6[i].f0≤m.f0
   ·refine .n (fun e=>(hb.1 e) h) ?_
    rw [dT h,Bool.true_and]
    have:=qHS m hm i h1 (fun b=>b&&trailsR m (m.f6.drop (i+1))&&decide ((m.f6.length:Int)=m.f3)) ih rfl m.f6[i].f1.length 0 (by omega)
    rw [List.take_zero,List.drop_zero]at this
    exact this
   ·refine .t (hb.2 h) (.cv ?_)
    rw [dF h]
    simp
  refine .i (fun h=>hj _ ?_) (fun h=>hj _ ?_)
  ·simp only [true_iff]; omega
  ·simp only [decide_eq_true_eq]; omega
theorem pasts(m:qE)(hm:Small m):Ev (fun k=>qK.f k m) (decide ((m.f6.length:Int)=m.f3∧trails m m.f6=true)):=by
 unfold qK.f
 refine (qII m hm m.f6.length 0 (by omega)).v ?_
 rw [List.drop_zero,← qEF,Bool.eq_iff_iff,Bool.and_eq_true,decide_eq_true_eq,decide_eq_true_eq]
 exact And.comm
theorem qIs(m:qE)(hm:Small m)(hf:Flat m):∀(d i:Nat),i+d=m.f5.length→Ev (fun k=>qf.l28 k m (i:Int)) (temps m (preT m.f5 i) (m.f5.drop i)&&decide ((m.f6.length:Int)=m.f3∧trails m m.f6=true)):=by
 have h5:=hm.h5
 have hg:=hf.2.2.2.1
 intro d
 induction d with
 | zero =>
  intro i hi
  refine .s (qf.l28_s · _ _) (.n (by omega) (.b (pasts m hm) (.cv ?_)))
  rw [List.drop_eq_nil_of_le (by omega)]
  rfl
 | succ d ih =>
  intro i hi
  have h1:i<m.f5.length:=by omega
  refine .s (qf.l28_s · _ _) (.t (by omega) (.t (by omega) ?_))
  have ih:=ih (i+1) (by omega)
  rw [qFN _ i h1 h5]at ih
  rw [nth_get _ _ _ h1,List.drop_eq_getElem_cons h1,temps]
  have hj:∀ b:Bool,(b = !(decide ((0≤m.f5[i].f0∧m.f5[i].f0<m.f3)∧preT m.f5 i<m.f5[i].f0∧1≤(m.f5[i].f1.length:Int)∧(m.f5[i].f1.length:Int)≤m.f1)&&Topo.apartR m.f4 [] m.f5[i].f1))→Ev (fun k=>qf.j71 k m (i:Int) b) (((decide ((0≤m.f5[i].f0∧m.f5[i].f0<m.f3)∧preT m.f5 i<m.f5[i].f0∧1≤(m.f5[i].f1.length:Int)∧(m.f5[i].f1.length:Int)≤m.f1)&&Topo.apartR m.f4 [] m.f5[i].f1)&&temps m m.f5[i].f0 (m.f5.drop (i+1)))&&decide ((m.f6.length:Int)=m.f3∧trails m m.f6=true)):=by
   intro b hb
   refine .s (qf.j71_s · _ _ _) ?_
   rw [w64n i (by omega)]
   generalize (decide ((0≤m.f5[i].f0∧m.f5[i].f0<m.f3)∧preT m.f5 i<m.f5[i].f0∧1≤(m.f5[i].f1.length:Int)∧(m.f5[i].f1.length:Int)≤m.f1)&&Topo.apartR m.f4 [] m.f5[i].f1)=c at hb ⊢
   subst hb
   cases c with
   | true=>exact .n (by decide) ih
   | false=>exact .t rfl (.c _)
  clear ih
  have hj1:¬ ((0≤m.f5[i].f0∧m.f5[i].f0<m.f3)∧preT m.f5 i<m.f5[i].f0∧1≤(m.f5[i].f1.length:Int)∧(m.f5[i].f1.length:Int)≤m.f1)→Ev (fun k=>qf.j71 k m (i:Int) true) _:=fun h=>hj true (by rw [dF h]; rfl)
  have hj2:((0≤m.f5[i].f0∧m.f5[i].f0<m.f3)∧preT m.f5 i<m.f5[i].f0∧1≤(m.f5[i].f1.length:Int)∧(m.f5[i].f1.length:Int)≤m.f1)→Ev (fun k=>(qo.f k m.f4 m.f5[i].f1).bind fun t75=>qf.j71 k m (i:Int) (!t75)) _:=fun h=>.b (Topo.refapart m.f4 m.f5[i].f1 hm.h4 (by have:=hf.2.1; omega)) (hj _ (by rw [dT h]; rfl))
  have hp0:i=0→preT m.f5 i = -1:=fun e=>if_pos e
  have hp1:i≠0→(nth qD.z m.f5 (w64 ((i:Int) - 1))).f0=preT m.f5 i:=fun e=>(if_neg e).symm
  have hw:i≠0→w64 ((i:Int) - 1)=((i - 1:Nat):Int):=fun e=>w64p i (by omega) (by omega)
  clear hj
  generalize (((decide ((0≤m.f5[i].f0∧m.f5[i].f0<m.f3)∧preT m.f5 i<m.f5[i].f0∧1≤(m.f5[i].f1.length:Int)∧(m.f5[i].f1.length:Int)≤m.f1)&&Topo.apartR m.f4 [] m.f5[i].f1)&&temps m m.f5[i].f0 (m.f5.drop (i+1)))&&decide ((m.f6.length:Int)=m.f3∧trails m m.f6=true))=v at hj1 hj2 ⊢
  generalize preT m.f5 i=p at *
  generalize (nth qD.z m.f5 (w64 ((i:Int) - 1))).f0=q at *
  generalize m.f5[i]=n at *
  repeat' (first | refine Ev.i (fun _=>?_) (fun _=>?_))
  all_goals first
   | exact hj1 (by omega)
   | exact hj2 (by omega)
   | (exfalso; omega)
theorem may(m:qE)(hm:Small m):Ev (fun k=>qf.f k m) (decide (May m)):=by
 have hj1:¬ Flat m→Ev (fun k=>qf.j18 k m true) (decide (May m)):=fun h=>.s (qf.j18_s · _ _) (.t rfl (.cv (dF (fun e:May m=>h e.1)).symm))
 have hj2:Flat m→Ev (fun k=>qf.j18 k m false) (decide (May m)):=fun h=>.s (qf.j18_s · _ _) (.n (by decide) ((qIs m hm h m.f5.length 0 (by omega)).v (by
  rw [List.drop_zero,Bool.eq_iff_iff,Bool.and_eq_true,decide_eq_true_eq,decide_eq_true_eq]
  exact ⟨fun e=>⟨h,e⟩,fun e=>e.2⟩)))
 have hj3:(0≤m.f0∧m.f0≤2147483647)∧(1≤m.f1∧m.f1≤3)∧(1≤m.f2∧m.f2≤m.f1)∧(1≤m.f3∧m.f3≤8)→Ev (fun k=>(qr.f k m.f4).bind fun t15=>qf.j18 k m (!t15)) (decide (May m)):=by
  intro h
  refine .b (Topo.may m.f4 hm.h4) ?_
  by_cases hN:Topo.Nodes m.f4
  ·rw [dT hN]
   exact hj2 ⟨h.1,h.2.1,h.2.2.1,h.2.2.2,hN⟩
  ·rw [dF hN]
   exact hj1 (fun e=>hN e.2.2.2.2)
 unfold qf.f
 generalize decide (May m)=v at *
 have hj4:¬ ((0≤m.f0∧m.f0≤2147483647)∧(1≤m.f1∧m.f1≤3)∧(1≤m.f2∧m.f2≤m.f1)∧(1≤m.f3∧m.f3≤8))→Ev (fun k=>qf.j18 k m true) v:=fun h=>hj1 (fun e=>h ⟨e.1,e.2.1,e.2.2.1,e.2.2.2.1⟩)
 clear hj1 hj2
 repeat' (first | refine Ev.i (fun _=>?_) (fun _=>?_))
 all_goals first
  | exact hj4 (by omega)
  | exact hj3 (by omega)
def posG{α : Type}(key : α→Int)(x:Int):List α→Nat
 | []=>0
 | c :: r=>if key c<x then posG key x r+1 else 0
theorem qDj{α : Type}(key : α→Int)(x:Int):∀ l:List α,posG key x l≤l.length
 | []=>Nat.le_refl _
 | c :: r=>by
  unfold posG
  have:=qDj key x r
  rw [List.length_cons]
  split <;> omega
theorem qHT{α : Type}(key : α→Int)(x:Int):∀(l:List α)(i:Nat)(h:i<l.length),i<posG key x l→key l[i] < x
 | [],_,h,_=>nomatch h
 | c :: r,i,h,hi=>by
  unfold posG at hi
  split at hi
  ·cases i with
   | zero=>assumption
   | succ i=>exact qHT key x r i (by simpa using h) (by omega)
  ·omega
theorem qFq{α : Type}(key : α→Int)(x:Int):∀(l:List α),l.Pairwise (fun a b=>key a<key b)→∀(i:Nat)(h:i<l.length),posG key x l≤i→x≤key l[i]
 | [],_,_,h,_=>nomatch h
 | c :: r,hp,i,h,hi=>by
  obtain ⟨h1,h2⟩:=List.pairwise_cons.1 hp
  unfold posG at hi
  split at hi
  ·cases i with
   | zero=>omega
   | succ i=>exact qFq key x r h2 i (by simpa using h) (by omega)
  ·cases i with
   | zero=>rename_i hc; exact Int.not_lt.1 hc
   | succ i =>
    rename_i hc
    have hr:i<r.length:=by simpa using h
    have:=h1 _ (gM hr)
    show x≤key r[i]
    omega
theorem cmpG(a b:Int):qBB.f a b=some (if a<b then -1 else if a>b then 1 else 0):=by
 unfold qBB.f qBU.f
 simp only [beq_self_eq_true,Bool.not_true,Option.bind_some,Bool.false_eq_true,if_false]
 by_cases h:a<b
 ·rw [if_pos h,if_pos h]
 ·rw [if_neg h,if_neg h]
  by_cases h2:a>b
  ·rw [if_pos h2,if_pos h2]
  ·rw [if_neg h2,if_neg h2]
theorem midG(a b:Nat)(h:a+b<4611686018427387904):w64 ((IntKind.u64.wrap (w64 ((a:Int)+b))).fdiv 2)=((a+b) / 2:Nat):=by
 have e:w64 ((a:Int)+b)=((a+b:Nat):Int):=by rw [qCe (by omega) (by omega)]; omega
 have e2:IntKind.u64.wrap ((a+b:Nat):Int)=((a+b:Nat):Int):=by rw [IntKind.wrap_u64]; omega
 rw [e,e2,Int.fdiv_eq_ediv_of_nonneg _ (by omega),qCe (by omega) (by omega)]
 omega
def qJM{α : Type}(key : α→Int)(x:Int)(l:List α):Int × Bool:=((posG key x l:Int),match l[posG key x l]? with
 | some c=>key c == x
 | none=>false)
theorem searchG {α : Type} (z : α) (key : α→Int) (x:Int) (cmpO : α→Int→Option Int) (hcmp:∀ a,cmpO a x=some (if key a<x then -1 else if key a>x then 1 else 0)) (l:List α) (L:Nat→Int→Int→Option (Int × Bool))
  (hL:∀ k a b,L (k+1) a b=(if a<b then (if 0≤(w64 ((IntKind.u64.wrap (w64 (a+b))).fdiv 2))∧(w64 ((IntKind.u64.wrap (w64 (a+b))).fdiv 2))<(l.length:Int) then ((cmpO (nth z l (w64 ((IntKind.u64.wrap (w64 (a+b))).fdiv 2))) x).bind fun t22=>(if t22<0 then (L k (w64 ((w64 ((IntKind.u64.wrap (w64 (a+b))).fdiv 2))+1)) b) else (L k a (w64 ((IntKind.u64.wrap (w64 (a+b))).fdiv 2))))) else (none)) else (if a<(l.length:Int) then (if 0≤a∧a<(l.length:Int) then ((cmpO (nth z l a) x).bind fun t33=>(some (a,(t33 == 0)))) else (none)) else (some (a,false)))))
  (hl:l.length<1000000) (hp:l.Pairwise (fun a b=>key a<key b)):∀(d a b:Nat),b - a≤d→a≤posG key x l→posG key x l≤b→b≤l.length→Ev (fun k=>L k (a:Int) (b:Int)) (qJM key x l):=by
 intro d
 induction d with
 | zero =>
  intro a b hd h1 h2 h3
  obtain rfl:a=b:=by omega
  obtain rfl:a=posG key x l:=by omega
  unfold qJM
  refine .s (fun k=>hL k _ _) (.n (by omega) ?_)
  by_cases h4:posG key x l<l.length
  ·refine .t (by omega) (.t (by omega) ?_)
   rw [nth_get _ _ _ h4,List.getElem?_eq_getElem h4]
   refine .b0 (hcmp _) (.cv ?_)
   have:=qFq key x l hp _ h4 (Nat.le_refl _)
   by_cases h5:key l[posG key x l]=x
   ·simp [h5]
   ·rw [if_neg (by omega),if_pos (by omega)]
    simp [h5]
  ·rw [List.getElem?_eq_none (by omega)]
   exact .n (by omega) (.c _)
 | succ d ih =>
  intro a b hd h1 h2 h3
  by_cases hab:a<b
  ·refine .s (fun k=>hL k _ _) (.t (by omega) ?_)
   rw [midG a b (by omega)]
   have h4:(a+b) / 2<l.length:=by omega
   refine .t (by omega) ?_
   rw [nth_get _ _ _ h4]
   refine .b0 (hcmp _) ?_
   by_cases h5:key l[(a+b) / 2] < x
   ·rw [if_pos h5,w64n _ (by omega)]
    refine .t (by decide) (ih _ _ (by omega) ?_ h2 h3)
    rcases Nat.lt_or_ge ((a+b) / 2) (posG key x l) with c | c
    ·omega
    ·have:=qFq key x l hp _ h4 c
     omega
   ·rw [if_neg h5]
    refine .n (by split <;> decide) (ih _ _ (by omega) h1 ?_ (by omega))
    rcases Nat.lt_or_ge ((a+b) / 2) (posG key x l) with c | c
    ·exact absurd (qHT key x l _ h4 c) h5
    ·exact c
  ·exact ih a b (by omega) h1 h2 h3
theorem qDB{α : Type}(key : α→Int)(x:Int):∀(l:List α),l.Pairwise (fun a b=>key a<key b)→((∃ h:posG key x l<l.length,key l[posG key x l]=x∧(qJM key x l).2=true∧l.find? (fun c=>decide (key c=x))=some l[posG key x l])∨((qJM key x l).2=false∧l.find? (fun c=>decide (key c=x))=none))
 | [],_=>.inr ⟨rfl,rfl⟩
 | c :: r,hp=>by
  obtain ⟨h1,h2⟩:=List.pairwise_cons.1 hp
  by_cases hc:key c<x
  ·have e:posG key x (c :: r)=posG key x r+1:=by rw [posG,if_pos hc]
   have ef:(qJM key x (c :: r)).2=(qJM key x r).2:=by unfold qJM; rw [e]; rfl
   have en:(c :: r).find? (fun c=>decide (key c=x))=r.find? (fun c=>decide (key c=x)):=List.find?_cons_of_neg (by simp; omega)
   rw [ef,en]
   rcases qDB key x r h2 with ⟨h,q1,q2,q3⟩ | q
   ·refine .inl ⟨by rw [e,List.length_cons]; omega,?_⟩
    simp only [e,List.getElem_cons_succ]
    exact ⟨q1,q2,q3⟩
   ·exact .inr q
  ·have e:posG key x (c :: r)=0:=by rw [posG,if_neg hc]
   by_cases hx:key c=x
   ·refine .inl ⟨by rw [e]; simp,?_⟩
    simp only [e,List.getElem_cons_zero]
    refine ⟨hx,?_,List.find?_cons_of_pos (by simpa using hx)⟩
    unfold qJM
    rw [e]
    simpa using hx
   ·refine .inr ⟨?_,List.find?_eq_none.2 (fun y hy=>?_)⟩
    ·unfold qJM
     rw [e]
     simpa using hx
    ·rcases List.mem_cons.1 hy with rfl | hy
     ·simpa using hx
     ·have:=h1 y hy
      simp
      omega
def qJL(m:qE)(g:Int):List Int:=match m.f5.find? (fun t=>decide (t.f0=g)) with
 | some t=>t.f1
 | none=>[]
def rawL(m:qE)(g:Int):List Int:=if qJL m g=[] then Place.ofCommon m.f4 g m.f1 else qJL m g
def upN(l:List qA)(id:Int):Bool:=(Topo.find l id).1.f4
def actL(m:qE)(g:Int):List Int:=(rawL m g).filter (upN m.f4)
def rising(l:List Int):List Int:=sortL (fun a b=>decide (a<b)) l
def followT(t:qC)(was now:List Int)(least epoch:Int):qC :=
 if was=now then t else ⟨epoch,if least≤(was.length:Int) then t.f1.filter (fun s => !decide (s.f1=rising was))++[⟨t.f0,rising was⟩] else t.f1⟩
def putN(n:qA):List qA→List qA
 | []=>[n]
 | x :: r=>if x.f0<n.f0 then x :: putN n r else if x.f0=n.f0 then n :: r else n :: x :: r
def dropN(id:Int)(l:List qA):List qA:=l.filter (fun x => !decide (x.f0=id))
def pinT(g:Int)(ns:List Int):List qD→List qD
 | []=>if ns=[] then [] else [⟨g,ns⟩]
 | t :: r=>if t.f0<g then t :: pinT g ns r else (if ns=[] then [] else [(⟨g,ns⟩:qD)])++(if t.f0=g then r else t :: r)
def withN(m:qE)(l:List qA):qE:=⟨m.f0,m.f1,m.f2,m.f3,l,m.f5,m.f6⟩
def withT(m:qE)(l:List qD):qE:=⟨m.f0,m.f1,m.f2,m.f3,m.f4,l,m.f6⟩
def withP(m:qE)(l:List qC):qE:=⟨m.f0,m.f1,m.f2,m.f3,m.f4,m.f5,l⟩
def held(m:qE)(id:Int):Bool:=m.f5.any (fun t=>decide (id ∈ t.f1))||m.f6.any (fun t=>t.f1.any (fun s=>decide (id ∈ s.f1)))
def nodeL(m:qE)(n:qA)(d:qF):qE × Int :=
 if d.f0=2 then (if 0≤d.f4∧d.f4≤65536 then (if n.f3=d.f4 then (m,7) else (withN m (putN ⟨n.f0,n.f1,n.f2,d.f4,n.f4,n.f5⟩ m.f4),0)) else (m,1))
 else if d.f0=3∨d.f0=4 then (if n.f4=decide (d.f0=3) then (m,7) else (withN m (putN ⟨n.f0,n.f1,n.f2,n.f3,decide (d.f0=3),n.f5⟩ m.f4),0))
 else if d.f0=5∨d.f0=6 then (if n.f5=decide (d.f0=6) then (m,7) else (withN m (putN ⟨n.f0,n.f1,n.f2,n.f3,n.f4,decide (d.f0=6)⟩ m.f4),0))
 else if n.f4=true∨(n.f5=true∧n.f3>0)∨held m d.f1=true then (m,11) else (withN m (dropN d.f1 m.f4),0)
def addN(d:qF):qA:=⟨d.f1,d.f2,d.f3,d.f4,false,true⟩
def addL(m:qE)(d:qF):qE × Int :=
 if (Topo.find m.f4 d.f1).2=true then (m,7) else if m.f4.length=12 then (m,6) else if Topo.Nodes (putN (addN d) m.f4) then (withN m (putN (addN d) m.f4),0) else (m,1)
def pinL(m:qE)(d:qF):qE × Int :=
 if 0≤d.f5∧d.f5<m.f3∧(d.f6.length:Int)≤m.f1 then (if qJL m d.f5=d.f6 then (m,7) else if Topo.apartR m.f4 [] d.f6=true then (withT m (pinT d.f5 d.f6 m.f5),0) else (m,12)) else (m,1)
def cleanL(m:qE)(d:qF):qE × Int :=
 if 0≤d.f5∧d.f5<m.f3 then (if (nth qC.z m.f6 d.f5).f0≠d.f4 then (m,5) else if (nth qC.z m.f6 d.f5).f1=[] then (m,7) else (withP m (m.f6.set d.f5.toNat ⟨(nth qC.z m.f6 d.f5).f0,[]⟩),0)) else (m,1)
def qJI(m:qE)(d:qF):qE × Int :=
 if d.f0=1 then addL m d else if d.f0=8 then pinL m d else if d.f0=9 then (m,0) else if d.f0=10 then cleanL m d
 else match m.f4.find? (fun n=>decide (n.f0=d.f1)) with
  | some n=>nodeL m n d
  | none=>(m,5)
def bareD(d:qF):Prop :=
 if d.f0=1 then d.f5=0∧d.f6=[]
 else if d.f0=2 then d.f2=0∧d.f3=0∧d.f5=0∧d.f6=[]
 else if d.f0=10 then d.f1=0∧d.f2=0∧d.f3=0∧d.f6=[]
 else if d.f0=8 then d.f1=0∧d.f2=0∧d.f3=0∧d.f4=0
 else (d.f2=0∧d.f3=0∧d.f4=0∧d.f5=0∧d.f6=[])∧(d.f0=9→d.f1=0)
instance (d:qF):Decidable (bareD d):=by unfold bareD; infer_instance
def qJK(m x:qE):List qC:=x.f6.mapIdx (fun g t=>followT t (actL m g) (actL x g) m.f2 (m.f0+1))
def qJN(m:qE)(d:qF):qE × Int :=
 if (1≤d.f0∧d.f0≤10)∧bareD d then (if m.f0=2147483647 then (m,6) else if (qJI m d).2=0 then (⟨m.f0+1,m.f1,m.f2,m.f3,(qJI m d).1.f4,(qJI m d).1.f5,qJK m (qJI m d).1⟩,0) else (m,(qJI m d).2)) else (m,1)
theorem qHU:∀(p:Int)(l:List qA),(∀ n ∈ l,Topo.okN n)→l.Pairwise (fun x y=>x.f0<y.f0)→(∀ n ∈ l,p<n.f0)→Topo.rise p l=true
 | _,[],_,_,_=>rfl
 | p,n :: l,h1,h2,h3=>by
  obtain ⟨q1,q2⟩:=List.pairwise_cons.1 h2
  rw [Topo.rise,dT ⟨h1 n List.mem_cons_self,h3 n List.mem_cons_self⟩,Bool.true_and]
  exact qHU n.f0 l (fun m hm=>h1 m (List.mem_cons_of_mem _ hm)) q2 q1
theorem qGM{l:List qA}(h0:l.length≤12)(h1:∀ n ∈ l,Topo.okN n)(h2:l.Pairwise (fun x y=>x.f0<y.f0)):Topo.Nodes l :=
 ⟨h0,qHU 0 l h1 h2 (fun n hn=>by have:=h1 n hn; unfold Topo.okN at this; omega)⟩
theorem qGb{l:List qA}(h:Topo.Nodes l)(id:Int):Topo.Nodes (dropN id l) :=
 qGM (Nat.le_trans (List.length_filter_le _ _) h.1) (fun n hn=>h.ok n (List.mem_filter.1 hn).1) (h.up.filter _)
theorem qFr(n:qA):∀(l:List qA)(x:qA),x ∈ putN n l→x=n∨x ∈ l
 | [],x,h=>.inl (List.mem_singleton.1 h)
 | y :: r,x,h=>by
  unfold putN at h
  split at h
  ·rcases List.mem_cons.1 h with rfl | h
   ·exact .inr List.mem_cons_self
   ·rcases qFr n r x h with e | e
    ·exact .inl e
    ·exact .inr (List.mem_cons_of_mem _ e)
  ·split at h
   ·rcases List.mem_cons.1 h with rfl | h
    ·exact .inl rfl
    ·exact .inr (List.mem_cons_of_mem _ h)
   ·rcases List.mem_cons.1 h with rfl | h
    ·exact .inl rfl
    ·exact .inr h
theorem qIV(n:qA):∀(l:List qA),l.Pairwise (fun x y=>x.f0<y.f0)→(putN n l).Pairwise (fun x y=>x.f0<y.f0)
 | [],_=>List.pairwise_singleton _ _
 | y :: r,h=>by
  obtain ⟨h1,h2⟩:=List.pairwise_cons.1 h
  unfold putN
  by_cases c:y.f0<n.f0
  ·rw [if_pos c]
   refine List.pairwise_cons.2 ⟨fun x hx=>?_,qIV n r h2⟩
   rcases qFr n r x hx with rfl | hx
   ·exact c
   ·exact h1 x hx
  ·rw [if_neg c]
   by_cases c2:y.f0=n.f0
   ·rw [if_pos c2]
    exact List.pairwise_cons.2 ⟨fun x hx=>by have:=h1 x hx; omega,h2⟩
   ·rw [if_neg c2]
    refine List.pairwise_cons.2 ⟨fun x hx=>?_,h⟩
    rcases List.mem_cons.1 hx with rfl | hx
    ·omega
    ·have:=h1 x hx; omega
theorem qHV(n:qA):∀(l:List qA),(∃ x ∈ l,x.f0=n.f0)→l.Pairwise (fun x y=>x.f0<y.f0)→(putN n l).length=l.length
 | [],h,_=>by obtain ⟨_,h,_⟩:=h; cases h
 | y :: r,h,hp=>by
  obtain ⟨h1,h2⟩:=List.pairwise_cons.1 hp
  unfold putN
  by_cases c:y.f0<n.f0
  ·rw [if_pos c,List.length_cons,List.length_cons,qHV n r ?_ h2]
   obtain ⟨x,hx,e⟩:=h
   rcases List.mem_cons.1 hx with rfl | hx
   ·omega
   ·exact ⟨x,hx,e⟩
  ·rw [if_neg c]
   obtain ⟨x,hx,e⟩:=h
   rcases List.mem_cons.1 hx with rfl | hx
   ·rw [if_pos e,List.length_cons,List.length_cons]
   ·have:=h1 x hx; omega
theorem qHW{l:List qA}(h:Topo.Nodes l){n:qA}(hn:Topo.okN n)(he:∃ x ∈ l,x.f0=n.f0):Topo.Nodes (putN n l) :=
 qGM (by rw [qHV n l he h.up]; exact h.1) (fun x hx=>by
  rcases qFr n l x hx with rfl | hx
  ·exact hn
  ·exact h.ok x hx) (qIV n l h.up)
theorem qEp(n:qA)(id:Int):∀(l:List qA),l.Pairwise (fun x y=>x.f0<y.f0)→(putN n l).find? (fun x=>decide (x.f0=id))=if n.f0=id then some n else l.find? (fun x=>decide (x.f0=id))
 | [],_=>by
  unfold putN
  rw [List.find?_cons]
  by_cases c:n.f0=id
  ·simp [c]
  ·simp [c]
 | y :: r,hp=>by
  obtain ⟨h1,h2⟩:=List.pairwise_cons.1 hp
  unfold putN
  by_cases c:y.f0<n.f0
  ·rw [if_pos c,List.find?_cons,List.find?_cons,qEp n id r h2]
   by_cases d:n.f0=id
   ·have:¬ y.f0=id:=by omega
    simp [d,this]
   ·simp [d]
  ·rw [if_neg c]
   by_cases c2:y.f0=n.f0
   ·rw [if_pos c2,List.find?_cons,List.find?_cons]
    by_cases d:n.f0=id
    ·simp [d]
    ·have:¬ y.f0=id:=by omega
     simp [d,this]
   ·rw [if_neg c2,List.find?_cons]
    by_cases d:n.f0=id
    ·simp [d]
    ·simp [d]
theorem qHX(i id:Int)(l:List qA)(h:id≠i):(dropN i l).find? (fun x=>decide (x.f0=id))=l.find? (fun x=>decide (x.f0=id)):=by
 unfold dropN
 rw [List.find?_filter]
 congr 1
 funext x
 by_cases c:x.f0=id
 ·simp [c,h]
 ·simp [c]
theorem qDD{l l':List qA}: ∀(ids met:List Int),(∀ id ∈ ids,∀ n,l.find? (fun x=>decide (x.f0=id))=some n→∃ n',l'.find? (fun x=>decide (x.f0=id))=some n'∧n'.f1=n.f1)→Topo.apartR l met ids=true→Topo.apartR l' met ids=true
 | [],_,_,_=>rfl
 | id :: r,met,h,ha=>by
  rw [Topo.apartR]at ha ⊢
  cases hf:l.find? (fun x=>decide (x.f0=id)) with
  | none=>rw [hf]at ha; cases ha
  | some n =>
   rw [hf]at ha
   obtain ⟨n',e1,e2⟩:=h id List.mem_cons_self n hf
   rw [e1]
   dsimp only at ha ⊢
   rw [Bool.and_eq_true]at ha ⊢
   rw [e2]
   exact ⟨ha.1,qDD r _ (fun i hi=>h i (List.mem_cons_of_mem _ hi)) ha.2⟩
theorem qCj(m:qE):∀(l:List qD)(p:Int),temps m p l=true↔(∀ t ∈ l,((0≤t.f0∧t.f0<m.f3)∧(1≤(t.f1.length:Int)∧(t.f1.length:Int)≤m.f1))∧Topo.apartR m.f4 [] t.f1=true)∧l.Pairwise (fun x y=>x.f0<y.f0)∧∀ t ∈ l,p<t.f0
 | [],p=>⟨fun _=>⟨(fun _ h=>nomatch h),List.Pairwise.nil,(fun _ h=>nomatch h)⟩,fun _=>rfl⟩
 | t :: l,p=>by
  rw [temps,Bool.and_eq_true,Bool.and_eq_true,decide_eq_true_eq,qCj m l t.f0,List.pairwise_cons]
  constructor
  ·rintro ⟨⟨h1,h2⟩,h3,h4,h5⟩
   refine ⟨fun x hx=>?_,⟨h5,h4⟩,fun x hx=>?_⟩
   ·rcases List.mem_cons.1 hx with rfl | hx
    ·exact ⟨⟨h1.1,h1.2.2⟩,h2⟩
    ·exact h3 x hx
   ·rcases List.mem_cons.1 hx with rfl | hx
    ·exact h1.2.1
    ·have:=h5 x hx; have:=h1.2.1; omega
  ·rintro ⟨h1,⟨h2,h3⟩,h4⟩
   have h0:=h1 t List.mem_cons_self
   exact ⟨⟨⟨h0.1.1,h4 t List.mem_cons_self,h0.1.2⟩,h0.2⟩,fun x hx=>h1 x (List.mem_cons_of_mem _ hx),h3,h2⟩
theorem qEq(g:Int)(ns:List Int):∀(l:List qD)(x:qD),x ∈ pinT g ns l→(x=⟨g,ns⟩∧ns≠[])∨x ∈ l
 | [],x,h=>by
  unfold pinT at h
  split at h
  ·cases h
  ·exact .inl ⟨List.mem_singleton.1 h,by assumption⟩
 | t :: r,x,h=>by
  unfold pinT at h
  split at h
  ·rcases List.mem_cons.1 h with rfl | h
   ·exact .inr List.mem_cons_self
   ·rcases qEq g ns r x h with e | e
    ·exact .inl e
    ·exact .inr (List.mem_cons_of_mem _ e)
  ·rcases List.mem_append.1 h with h | h
   ·split at h
    ·cases h
    ·exact .inl ⟨List.mem_singleton.1 h,by assumption⟩
   ·split at h
    ·exact .inr (List.mem_cons_of_mem _ h)
    ·exact .inr h
theorem qHY(g:Int)(ns:List Int):∀(l:List qD),l.Pairwise (fun x y=>x.f0<y.f0)→(pinT g ns l).Pairwise (fun x y=>x.f0<y.f0)
 | [],_=>by
  unfold pinT
  split
  ·exact List.Pairwise.nil
  ·exact List.pairwise_singleton _ _
 | t :: r,hp=>by
  obtain ⟨h1,h2⟩:=List.pairwise_cons.1 hp
  unfold pinT
  by_cases c:t.f0<g
  ·rw [if_pos c]
   refine List.pairwise_cons.2 ⟨fun x hx=>?_,qHY g ns r h2⟩
   rcases qEq g ns r x hx with ⟨rfl,_⟩ | hx
   ·exact c
   ·exact h1 x hx
  ·rw [if_neg c]
   have hr:(if t.f0=g then r else t :: r).Pairwise (fun x y=>x.f0<y.f0):=by split <;> assumption
   have hg:∀ x ∈ (if t.f0=g then r else t :: r),g<x.f0:=by
    intro x hx
    split at hx
    ·have:=h1 x hx; omega
    ·rcases List.mem_cons.1 hx with rfl | hx
     ·omega
     ·have:=h1 x hx; omega
   split
   ·exact hr
   ·exact List.pairwise_cons.2 ⟨hg,hr⟩
theorem qCR(m:qE)(since:Int):∀(l seen:List qG)(p:Int),past m since p seen l=true↔(∀ s ∈ l,((0≤s.f0∧s.f0<since)∧m.f2≤(s.f1.length:Int)∧(s.f1.length:Int)≤m.f1)∧riseI 0 s.f1=true)∧(l.Pairwise (fun x y=>x.f0<y.f0∧x.f1≠y.f1)∧∀ s ∈ l,p<s.f0)∧∀ s ∈ l,∀ x ∈ seen,x.f1≠s.f1
 | [],seen,p=>⟨fun _=>⟨(fun _ h=>nomatch h),⟨List.Pairwise.nil,(fun _ h=>nomatch h)⟩,(fun _ h=>nomatch h)⟩,fun _=>rfl⟩
 | s :: l,seen,p=>by
  rw [past,Bool.and_eq_true,Bool.and_eq_true,Bool.and_eq_true,decide_eq_true_eq,Bool.not_eq_true',decide_eq_false_iff_not,qCR m since l (seen++[s]) s.f0,List.pairwise_cons]
  constructor
  ·rintro ⟨⟨⟨h1,h2⟩,h3⟩,h4,⟨h5,h6⟩,h7⟩
   refine ⟨fun x hx=>?_,⟨⟨fun x hx=>⟨h6 x hx,h7 x hx s (by simp)⟩,h5⟩,fun x hx=>?_⟩,fun x hx y hy=>?_⟩
   ·rcases List.mem_cons.1 hx with rfl | hx
    ·exact ⟨⟨h1.1,h1.2.2⟩,h2⟩
    ·exact h4 x hx
   ·rcases List.mem_cons.1 hx with rfl | hx
    ·exact h1.2.1
    ·have:=h6 x hx; have:=h1.2.1; omega
   ·rcases List.mem_cons.1 hx with rfl | hx
    ·exact fun e=>h3 ⟨y,hy,e⟩
    ·exact h7 x hx y (List.mem_append.2 (.inl hy))
  ·rintro ⟨h1,⟨⟨h2,h3⟩,h4⟩,h5⟩
   have h0:=h1 s List.mem_cons_self
   refine ⟨⟨⟨⟨h0.1.1,h4 s List.mem_cons_self,h0.1.2⟩,h0.2⟩,fun ⟨x,hx,e⟩=>h5 s List.mem_cons_self x hx e⟩,fun x hx=>h1 x (List.mem_cons_of_mem _ hx),⟨h3,fun x hx=>(h2 x hx).1⟩,fun x hx y hy=>?_⟩
   rcases List.mem_append.1 hy with hy | hy
   ·exact h5 x (List.mem_cons_of_mem _ hx) y hy
   ·rw [List.mem_singleton.1 hy]
    exact (h2 x hx).2
theorem qCp(m:qE):∀ l:List qC,trails m l=true↔∀ t ∈ l,(0≤t.f0∧t.f0≤m.f0)∧past m t.f0 (-1) [] t.f1=true
 | []=>⟨fun _ _ h=>(nomatch h),fun _=>rfl⟩
 | t :: l=>by
  rw [trails,Bool.and_eq_true,Bool.and_eq_true,decide_eq_true_eq,qCp m l]
  simp only [List.mem_cons,forall_eq_or_imp]
theorem qDb{m m':qE}(h1:m'.f1=m.f1)(h3:m'.f3=m.f3)(l:List qD)(p:Int)(h4:∀ t ∈ l,Topo.apartR m.f4 [] t.f1=true→Topo.apartR m'.f4 [] t.f1=true)(h:temps m p l=true):temps m' p l=true:=by
 rw [qCj]at h ⊢
 rw [h1,h3]
 exact ⟨fun t ht=>⟨(h.1 t ht).1,h4 t ht (h.1 t ht).2⟩,h.2⟩
theorem qCT{m m':qE}(h1:m'.f1=m.f1)(h2:m'.f2=m.f2)(since:Int)(l seen:List qG)(p:Int):past m' since p seen l=past m since p seen l:=by
 rw [Bool.eq_iff_iff,qCR,qCR,h1,h2]
theorem qDk{m m':qE}(h0:m'.f0=m.f0)(h1:m'.f1=m.f1)(h2:m'.f2=m.f2)(l:List qC):trails m' l=trails m l:=by
 rw [Bool.eq_iff_iff,qCp,qCp,h0]
 simp only [qCT h1 h2]
theorem qEG{m:qE}(h:May m){l:List qA}(hl:Topo.Nodes l)(ht:∀ t ∈ m.f5,Topo.apartR m.f4 [] t.f1=true→Topo.apartR l [] t.f1=true):May (withN m l) :=
 ⟨⟨h.1.1,h.1.2.1,h.1.2.2.1,h.1.2.2.2.1,hl⟩,qDb (m:=m) (m':=withN m l) rfl rfl _ _ ht h.2.1,h.2.2.1,(qDk (m:=m) (m':=withN m l) rfl rfl rfl _).trans h.2.2.2⟩
theorem qDc{l:List qA}{id:Int}{n:qA}(h:l.find? (fun x=>decide (x.f0=id))=some n):n ∈ l∧n.f0=id:=⟨List.mem_of_find?_eq_some h,oT (List.find?_some (p:=fun x:qA=>decide (x.f0=id)) h)⟩
theorem qFs{m:qE}(h:May m){n n':qA}(hn:n ∈ m.f4)(h0:n'.f0=n.f0)(h1:n'.f1=n.f1)(hok:Topo.okN n'):May (withN m (putN n' m.f4)):=by
 have hN:=h.1.2.2.2.2
 refine qEG h (qHW hN hok ⟨n,hn,h0.symm⟩) (fun t _ ha=>qDD _ _ (fun id _ x hx=>?_) ha)
 rw [qEp _ _ _ hN.up]
 obtain ⟨q1,q2⟩:=qDc hx
 by_cases c:n'.f0=id
 ·rw [if_pos c]
  refine ⟨n',rfl,?_⟩
  rw [h1,Place.node_uniq hN hn q1 (by omega)]
 ·rw [if_neg c]
  exact ⟨x,hx,rfl⟩
theorem qHZ{l:List qA}: ∀(ids met:List Int),Topo.apartR l met ids=true→∀ id ∈ ids,∃ n,l.find? (fun x=>decide (x.f0=id))=some n
 | [],_,_,_,h=>nomatch h
 | i :: r,met,h,id,hi=>by
  rw [Topo.apartR]at h
  cases hf:l.find? (fun x=>decide (x.f0=i)) with
  | none=>rw [hf]at h; cases h
  | some n =>
   rw [hf]at h
   dsimp only at h
   rw [Bool.and_eq_true]at h
   rcases List.mem_cons.1 hi with rfl | hi
   ·exact ⟨n,hf⟩
   ·exact qHZ r _ h.2 id hi
theorem qIJ{m:qE}(h:May m){n:qA}(hn:n ∈ m.f4){d:qF}(hd:d.f1=n.f0)(he:(nodeL m n d).2=0):May (nodeL m n d).1:=by
 have hok:=h.1.2.2.2.2.ok n hn
 unfold nodeL at he ⊢
 split at he
 ·rename_i c2
  rw [if_pos c2]
  split at he
  ·rename_i cw
   rw [if_pos cw]
   split at he
   ·cases he
   ·rename_i cn
    rw [if_neg cn]
    refine qFs h hn rfl rfl ?_
    unfold Topo.okN at hok ⊢
    exact ⟨hok.1,hok.2.1,hok.2.2.1,cw⟩
  ·cases he
 ·rename_i c2
  rw [if_neg c2]
  split at he
  ·rename_i c3
   rw [if_pos c3]
   split at he
   ·cases he
   ·rename_i cn
    rw [if_neg cn]
    exact qFs h hn rfl rfl hok
  ·rename_i c3
   rw [if_neg c3]
   split at he
   ·rename_i c4
    rw [if_pos c4]
    split at he
    ·cases he
    ·rename_i cn
     rw [if_neg cn]
     exact qFs h hn rfl rfl hok
   ·rename_i c4
    rw [if_neg c4]
    split at he
    ·cases he
    ·rename_i c5
     rw [if_neg c5]
     refine qEG h (qGb h.1.2.2.2.2 _) (fun t ht ha=>qDD _ _ (fun id hid x hx=>⟨x,?_,rfl⟩) ha)
     rw [qHX]
     ·exact hx
     ·rintro rfl
      refine c5 (.inr (.inr ?_))
      unfold held
      rw [Bool.or_eq_true,List.any_eq_true]
      exact .inl ⟨t,ht,dT hid⟩
theorem qIt{m:qE}(h:May m){d:qF}(he:(addL m d).2=0):May (addL m d).1:=by
 unfold addL at he ⊢
 split at he
 ·cases he
 ·rename_i c1
  rw [if_neg c1]
  split at he
  ·cases he
  ·rename_i c2
   rw [if_neg c2]
   split at he
   ·rename_i c3
    rw [if_pos c3]
    refine qEG h c3 (fun t _ ha=>qDD _ _ (fun id _ x hx=>⟨x,?_,rfl⟩) ha)
    rw [qEp _ _ _ h.1.2.2.2.2.up,if_neg]
    ·exact hx
    ·intro e
     refine c1 ?_
     unfold Topo.find
     rw [show d.f1=id from e,hx]
   ·cases he
theorem qHa{m:qE}(h:May m){l:List qD}(hl:temps m (-1) l=true):May (withT m l) :=
 ⟨h.1,qDb (m:=m) (m':=withT m l) rfl rfl _ _ (fun _ _ q=>q) hl,h.2.2.1,(qDk (m:=m) (m':=withT m l) rfl rfl rfl _).trans h.2.2.2⟩
theorem qIu{m:qE}(h:May m){d:qF}(he:(pinL m d).2=0):May (pinL m d).1:=by
 unfold pinL at he ⊢
 split at he
 ·rename_i c1
  rw [if_pos c1]
  split at he
  ·cases he
  ·rename_i c2
   rw [if_neg c2]
   split at he
   ·rename_i c3
    rw [if_pos c3]
    have ht:=(qCj m _ _).1 h.2.1
    refine qHa h ((qCj m _ _).2 ⟨fun t hm=>?_,qHY _ _ _ ht.2.1,fun t hm=>?_⟩)
    ·rcases qEq _ _ _ _ hm with ⟨rfl,q⟩ | hm
     ·have:=List.length_pos_iff.2 q
      exact ⟨⟨⟨c1.1,c1.2.1⟩,by show 1≤(d.f6.length:Int); omega,c1.2.2⟩,c3⟩
     ·exact ht.1 t hm
    ·rcases qEq _ _ _ _ hm with ⟨rfl,q⟩ | hm
     ·show -1<d.f5
      have:=c1.1
      omega
     ·exact ht.2.2 t hm
   ·cases he
 ·cases he
theorem qHb{m:qE}(h:May m){l:List qC}(h1:l.length=m.f6.length)(h2:trails m l=true):May (withP m l) :=
 ⟨h.1,qDb (m:=m) (m':=withP m l) rfl rfl _ _ (fun _ _ q=>q) h.2.1,by show (l.length:Int)=m.f3; rw [h1]; exact h.2.2.1,(qDk (m:=m) (m':=withP m l) rfl rfl rfl _).trans h2⟩
theorem qHc{m:qE}(h:May m){d:qF}(he:(cleanL m d).2=0):May (cleanL m d).1:=by
 unfold cleanL at he ⊢
 split at he
 ·rename_i c1
  rw [if_pos c1]
  split at he
  ·cases he
  ·rename_i c2
   rw [if_neg c2]
   split at he
   ·cases he
   ·rename_i c3
    rw [if_neg c3]
    have hlen:=h.2.2.1
    have hi:d.f5.toNat<m.f6.length:=by omega
    have ht:=(qCp m _).1 h.2.2.2
    refine qHb h (List.length_set ..) ((qCp m _).2 (fun t hm=>?_))
    rcases List.mem_or_eq_of_mem_set hm with hm | rfl
    ·exact ht t hm
    ·have:=(ht _ (gM hi)).1
     have e:nth qC.z m.f6 d.f5=m.f6[d.f5.toNat]:=by
      unfold nth
      rw [List.getD_eq_getElem?_getD,List.getElem?_eq_getElem hi]
      rfl
     rw [e]
     exact ⟨this,rfl⟩
 ·cases he
theorem qDl{m:qE}(h:May m){d:qF}(he:(qJI m d).2=0):May (qJI m d).1:=by
 unfold qJI at he ⊢
 split at he
 ·rename_i c
  rw [if_pos c]
  exact qIt h he
 ·rename_i c
  rw [if_neg c]
  split at he
  ·rename_i c
   rw [if_pos c]
   exact qIu h he
  ·rename_i c
   rw [if_neg c]
   split at he
   ·rename_i c
    rw [if_pos c]
    exact h
   ·rename_i c
    rw [if_neg c]
    split at he
    ·rename_i c
     rw [if_pos c]
     exact qHc h he
    ·rename_i c
     rw [if_neg c]
     cases hf:m.f4.find? (fun n=>decide (n.f0=d.f1)) with
     | none=>rw [hf]at he; cases he
     | some n =>
      rw [hf]at he
      exact qIJ h (qDc hf).1 (qDc hf).2.symm he
theorem qIv{m:qE}(h:May m)(g:Int):qJL m g=[]∨((qJL m g).length:Int)≤m.f1∧Topo.apartR m.f4 [] (qJL m g)=true:=by
 unfold qJL
 cases hf:m.f5.find? (fun t=>decide (t.f0=g)) with
 | none=>exact .inl rfl
 | some t =>
  have ht:=((qCj m _ _).1 h.2.1).1 t (List.mem_of_find?_eq_some hf)
  exact .inr ⟨ht.1.2.2,ht.2⟩
theorem qDR{l:List qA}: ∀(ids met:List Int),Topo.apartR l met ids=true→ids.Nodup∧∀ id ∈ ids,∃ n,l.find? (fun x=>decide (x.f0=id))=some n∧¬ n.f1 ∈ met
 | [],_,_=>⟨List.nodup_nil,(fun _ h=>nomatch h)⟩
 | i :: r,met,h=>by
  rw [Topo.apartR]at h
  cases hf:l.find? (fun x=>decide (x.f0=i)) with
  | none=>rw [hf]at h; cases h
  | some n =>
   rw [hf]at h
   dsimp only at h
   rw [Bool.and_eq_true,Bool.not_eq_true',decide_eq_false_iff_not]at h
   obtain ⟨h1,h2⟩:=qDR r _ h.2
   refine ⟨List.nodup_cons.2 ⟨fun hm=>?_,h1⟩,fun id hid=>?_⟩
   ·obtain ⟨n',e1,e2⟩:=h2 i hm
    rw [hf]at e1
    cases e1
    exact e2 (by simp)
   ·rcases List.mem_cons.1 hid with rfl | hid
    ·exact ⟨n,hf,h.1⟩
    ·obtain ⟨n',e1,e2⟩:=h2 id hid
     exact ⟨n',e1,fun c=>e2 (List.mem_append.2 (.inl c))⟩
theorem qEa{m:qE}(h:May m)(g:Int):(rawL m g).Nodup∧((rawL m g).length:Int)≤m.f1∧∀ id ∈ rawL m g,∃ n ∈ m.f4,n.f0=id:=by
 have h1:=h.1.2.1
 unfold rawL
 split
 ·unfold Place.ofCommon
  split
  ·rename_i hc
   refine ⟨?_,?_,?_⟩
   ·unfold List.Nodup
    rw [List.pairwise_map]
    refine List.Pairwise.imp_of_mem ?_ ((Place.zones_nodup hc.1 g).sublist (List.take_sublist m.f1.toNat _))
    intro a b ha hb hab e
    obtain ⟨n,hn,q1,_,q2,_⟩:=Place.zone_pk hc.1 g (List.mem_of_mem_take ha)
    obtain ⟨n',hn',q1',_,q2',_⟩:=Place.zone_pk hc.1 g (List.mem_of_mem_take hb)
    have:n=n':=Place.node_uniq hc.1 hn hn' (by omega)
    subst this
    exact hab (by omega)
   ·rw [List.length_map,List.length_take]
    omega
   ·intro id hid
    obtain ⟨z,hz,rfl⟩:=List.mem_map.1 hid
    obtain ⟨n,hn,_,_,q2,_⟩:=Place.zone_pk hc.1 g (List.mem_of_mem_take hz)
    exact ⟨n,hn,q2.symm⟩
  ·exact ⟨List.nodup_nil,by simp; omega,(fun _ h=>nomatch h)⟩
 ·rename_i c
  obtain ⟨q1,q2⟩:=(qIv h g).resolve_left c
  refine ⟨(qDR _ _ q2).1,q1,fun id hid=>?_⟩
  obtain ⟨n,e,_⟩:=(qDR _ _ q2).2 id hid
  exact ⟨n,qDc e⟩
theorem qFP{m:qE}(h:May m)(g:Int):(actL m g).Nodup∧((actL m g).length:Int)≤m.f1∧∀ id ∈ actL m g,∃ n ∈ m.f4,n.f0=id:=by
 obtain ⟨h1,h2,h3⟩:=qEa h g
 refine ⟨h1.sublist (List.filter_sublist ..),?_,fun id hid=>h3 id (List.mem_filter.1 hid).1⟩
 have:=List.length_filter_le (upN m.f4) (rawL m g)
 unfold actL
 omega
theorem qFt(l:List Int)(hn:l.Nodup)(hk:∀ x ∈ l,1≤x∧x≤999):riseI 0 (rising l)=true:=by
 have hs:(rising l).Pairwise (fun a b=>decide (b<a)=false):=qCm (ok:=fun _=>True) (lt:=fun a b:Int=>decide (a<b)) ⟨fun x _=>by simp,fun x y z _ _ _ a b=>by simp at a b ⊢; omega,fun x y z _ _ _ a b=>by simp at a b ⊢; omega⟩ l (fun _ _=>trivial)
 have hd:(rising l).Nodup:=(qCl _ l).nodup_iff.2 hn
 have hm:∀ x ∈ rising l,1≤x∧x≤999:=fun x hx=>hk x ((qCu _ l).1 hx)
 generalize rising l=r at hs hd hm
 have go:∀(r:List Int)(p:Int),r.Pairwise (fun a b=>decide (b<a)=false)→r.Nodup→(∀ x ∈ r,1≤x∧x≤999)→(∀ x ∈ r,p<x)→riseI p r=true:=by
  intro r
  induction r with
  | nil=>exact fun _ _ _ _ _=>rfl
  | cons x r ih =>
   intro p h1 h2 h3 h4
   obtain ⟨a1,a2⟩:=List.pairwise_cons.1 h1
   obtain ⟨b1,b2⟩:=List.nodup_cons.1 h2
   rw [riseI,dT ⟨h3 x List.mem_cons_self,h4 x List.mem_cons_self⟩,Bool.true_and]
   refine ih x a2 b2 (fun y hy=>h3 y (List.mem_cons_of_mem _ hy)) (fun y hy=>?_)
   have:=of_decide_eq_false (a1 y hy)
   have hne:x≠y:=fun e=>b1 (e ▸ hy)
   omega
 exact go r 0 hs hd hm (fun x hx=>by have:=hm x hx; omega)
theorem qFu{m m':qE}(h1:m'.f1=m.f1)(h2:m'.f2=m.f2)(h:May m){t:qC}(ht:(0≤t.f0∧t.f0≤m.f0)∧past m t.f0 (-1) [] t.f1=true)(g:Int)(now:List Int)(h0:m'.f0=m.f0+1):(0≤(followT t (actL m g) now m.f2 (m.f0+1)).f0∧(followT t (actL m g) now m.f2 (m.f0+1)).f0≤m'.f0)∧past m' (followT t (actL m g) now m.f2 (m.f0+1)).f0 (-1) [] (followT t (actL m g) now m.f2 (m.f0+1)).f1=true:=by
 have hm0:=h.1.1
 obtain ⟨a1,a2,a3⟩:=qFP h g
 unfold followT
 by_cases c:actL m g=now
 ·rw [if_pos c,qCT h1 h2]
  exact ⟨by omega,ht.2⟩
 ·rw [if_neg c,qCT h1 h2]
  refine ⟨by show 0≤m.f0+1∧m.f0+1≤m'.f0; omega,?_⟩
  obtain ⟨p1,⟨p2,p3⟩,p4⟩:=(qCR m _ _ _ _).1 ht.2
  have hw:∀ s ∈ t.f1,(0≤s.f0∧s.f0<m.f0+1):=fun s hs=>by have:=(p1 s hs).1.1; omega
  show past m (m.f0+1) (-1) [] (if m.f2≤((actL m g).length:Int) then t.f1.filter (fun s => !decide (s.f1=rising (actL m g)))++[⟨t.f0,rising (actL m g)⟩] else t.f1)=true
  by_cases c2:m.f2≤((actL m g).length:Int)
  ·rw [if_pos c2]
   have hrl:(rising (actL m g)).length=(actL m g).length:=qCo _ _
   refine (qCR m _ _ _ _).2 ⟨fun s hs=>?_,⟨?_,fun s hs=>?_⟩,(fun _ _ _ hx=>nomatch hx)⟩
   ·rcases List.mem_append.1 hs with hs | hs
    ·have hs:=(List.mem_filter.1 hs).1
     exact ⟨⟨hw s hs,(p1 s hs).1.2⟩,(p1 s hs).2⟩
    ·rw [List.mem_singleton.1 hs]
     refine ⟨⟨⟨ht.1.1,by show t.f0<m.f0+1; omega⟩,?_⟩,qFt _ a1 (fun x hx=>?_)⟩
     ·show m.f2≤((rising (actL m g)).length:Int)∧((rising (actL m g)).length:Int)≤m.f1
      rw [hrl]
      exact ⟨c2,a2⟩
     ·obtain ⟨n,hn,e⟩:=a3 x hx
      have:=h.1.2.2.2.2.ok n hn
      unfold Topo.okN at this
      omega
   ·refine List.pairwise_append.2 ⟨p2.filter _,List.pairwise_singleton _ _,fun x hx y hy=>?_⟩
    rw [List.mem_singleton.1 hy]
    obtain ⟨q1,q2⟩:=List.mem_filter.1 hx
    refine ⟨(p1 x q1).1.1.2,?_⟩
    simpa using q2
   ·rcases List.mem_append.1 hs with hs | hs
    ·exact p3 s (List.mem_filter.1 hs).1
    ·rw [List.mem_singleton.1 hs]
     show -1<t.f0
     omega
  ·rw [if_neg c2]
   exact (qCR m _ _ _ _).2 ⟨fun s hs=>⟨⟨hw s hs,(p1 s hs).1.2⟩,(p1 s hs).2⟩,⟨p2,p3⟩,p4⟩
theorem qDS{m:qE}{d:qF}: (qJI m d).1.f0=m.f0∧(qJI m d).1.f1=m.f1∧(qJI m d).1.f2=m.f2∧(qJI m d).1.f3=m.f3:=by
 unfold qJI addL pinL cleanL nodeL withN withT withP
 repeat' split
 all_goals exact ⟨rfl,rfl,rfl,rfl⟩
theorem qEH{m:qE}(h:May m)(d:qF):May (qJN m d).1:=by
 unfold qJN
 split
 ·split
  ·exact h
  ·rename_i c0
   split
   ·rename_i c1
    have hx:=qDl h c1
    obtain ⟨e0,e1,e2,e3⟩:=qDS (m:=m) (d:=d)
    have hm0:=h.1.1
    generalize (qJI m d).1=x at hx e0 e1 e2 e3
    refine ⟨⟨by show 0≤m.f0+1∧m.f0+1≤2147483647; omega,h.1.2.1,h.1.2.2.1,h.1.2.2.2.1,hx.1.2.2.2.2⟩,?_,?_,?_⟩
    ·exact qDb (m:=x) (m':=⟨m.f0+1,m.f1,m.f2,m.f3,x.f4,x.f5,qJK m x⟩) e1.symm e3.symm _ _ (fun _ _ q=>q) hx.2.1
    ·show ((qJK m x).length:Int)=m.f3
     unfold qJK
     rw [List.length_mapIdx]
     have:=hx.2.2.1
     omega
    ·refine (qCp _ _).2 (fun t ht=>?_)
     unfold qJK at ht
     obtain ⟨i,hi,rfl⟩:=List.mem_mapIdx.1 ht
     have hxt:=(qCp x _).1 hx.2.2.2 _ (gM hi)
     rw [e0,qCT e1 e2]at hxt
     exact qFu (m:=m) (m':=⟨m.f0+1,m.f1,m.f2,m.f3,x.f4,x.f5,qJK m x⟩) rfl rfl h hxt i _ rfl
   ·exact h
 ·exact h
theorem tfind{l:List qA}(h:Topo.Nodes l)(id:Int):Ev (fun k=>qBV.f k l id) (Topo.find l id):=by
 have hl:=h.1
 have hs:Ev (fun k=>qO.f k l id) (qJM (fun n:qA=>n.f0) id l):=by
  unfold qO.f
  exact searchG qA.z (fun n=>n.f0) id qBk.f (fun a=>by unfold qBk.f; rw [cmpG]; rfl) l _ (fun k a b=>qO.l7_s k l id a b) (by omega) h.up l.length 0 l.length (by omega) (by omega) (qDj _ _ _) (Nat.le_refl _)
 unfold qBV.f
 refine .b hs ?_
 unfold Topo.find
 rcases qDB (fun n:qA=>n.f0) id l h.up with ⟨h1,q1,q2,q3⟩ | ⟨q2,q3⟩
 ·rw [q3]
  refine .t q2 (.b (Topo.chk h) (.s (qBV.j15_s · _ _ _) (.n (by decide) (.t ?_ (.cv ?_)))))
  ·show 0≤((posG (fun n:qA=>n.f0) id l:Nat):Int)∧((posG (fun n:qA=>n.f0) id l:Nat):Int)<_
   omega
  ·have q:nth qA.z l (qJM (fun n:qA=>n.f0) id l).1=_:=nth_get qA.z l _ h1
   rw [q]
 ·rw [q3]
  exact .n (by rw [q2]; decide) (.s (qBV.j15_s · _ _ _) (.t rfl (.c _)))
theorem indexG {α : Type} (z : α) (l:List α) (p : α→Bool) (pO:Nat→α→Option Bool) (hp:∀ x ∈ l,Ev (fun k=>pO k x) (p x)) (hl:l.length<1000000) (L:Nat→Int→Option Int)
  (hL:∀ k x,L (k+1) x=(if x<(l.length:Int) then (if 0≤x∧x<(l.length:Int) then ((pO k (nth z l x)).bind fun t21=>(if t21=true then (some x) else (L k (w64 (x+1))))) else (none)) else (some (-1)))) :
  ∀(d i:Nat),i+d=l.length→(l.take i).filter (fun x => !p x)=l.take i→(l.filter (fun x => !p x)=l∧Ev (fun k=>L k (i:Int)) (-1))∨∃ n:Nat,n<l.length∧(l.take n).filter (fun x => !p x)=l.take n∧(∀ h:n<l.length,p l[n]=true)∧Ev (fun k=>L k (i:Int)) (n:Int):=by
 intro d
 induction d with
 | zero =>
  intro i hi ht
  rw [List.take_of_length_le (by omega)]at ht
  exact .inl ⟨ht,.s (fun k=>hL k _) (.n (by omega) (.c _))⟩
 | succ d ih =>
  intro i hi ht
  have h1:i<l.length:=by omega
  have hx:=hp _ (gM h1)
  have go:∀ v,(∀ w,p l[i]=w→(w=true→v=(i:Int))∧(w=false→Ev (fun k=>L k ((i+1:Nat):Int)) v))→Ev (fun k=>L k (i:Int)) v:=by
   intro v hv
   refine .s (fun k=>hL k _) (.t (by omega) (.t (by omega) ?_))
   rw [nth_get _ _ _ h1,w64n i (by omega)]
   refine .b hx (.i (fun c=>.cv ((hv _ rfl).1 c).symm) (fun c=>(hv _ rfl).2 (eq_false_of_ne_true c)))
  by_cases h0:p l[i]=true
  ·exact .inr ⟨i,h1,ht,fun _=>h0,go _ (fun w hw=>⟨fun _=>rfl,fun e=>absurd (hw.trans e) (by rw [h0]; decide)⟩)⟩
  ·have ht':(l.take (i+1)).filter (fun x => !p x)=l.take (i+1):=by
    rw [← List.take_append_getElem h1,List.filter_append,ht]
    simp [h0]
   rcases ih (i+1) (by omega) ht' with ⟨a,b⟩ | ⟨n,a,b,c,e⟩
   ·exact .inl ⟨a,go _ (fun w hw=>⟨fun q=>absurd (hw.trans q) h0,fun _=>b⟩)⟩
   ·exact .inr ⟨n,a,b,c,go _ (fun w hw=>⟨fun q=>absurd (hw.trans q) h0,fun _=>e⟩)⟩
theorem deleteG {α : Type} (z : α) (l:List α) (p : α→Bool) (pO:Nat→α→Option Bool) (hp:∀ x ∈ l,Ev (fun k=>pO k x) (p x)) (hl:l.length<1000000) (L:Nat→List α→Int→Int→Option (List α))
  (hL:∀ k q n x,L (k+1) q n x=(if x<(l.length:Int) then (if 0≤x∧x<(l.length:Int) then ((pO k (nth z q x)).bind fun t33=>(if t33=true then (L k q n (w64 (x+1))) else (if 0≤n∧n<(l.length:Int) then (L k (q.set (n).toNat (nth z q x)) (w64 (n+1)) (w64 (x+1))) else (none)))) else (none)) else (if 0≤n∧n≤(l.length:Int) then (some (cutl (q.take (n).toNat++List.replicate (l.length - (n).toNat) z) 0 n)) else (none)))) :
  ∀(d i n:Nat)(q:List α),i+d=l.length→n<i→q.length=l.length→q.take n=(l.take i).filter (fun x => !p x)→q.drop i=l.drop i→Ev (fun k=>L k q (n:Int) (i:Int)) (l.filter (fun x => !p x)):=by
 intro d
 induction d with
 | zero =>
  intro i n q hi hn hq ht hd
  refine .s (fun k=>hL k _ _ _) (.n (by omega) (.t (by omega) (.cv ?_)))
  rw [List.take_of_length_le (by omega:l.length≤i)]at ht
  rw [← ht]
  have hlen:(q.take n).length=n:=by rw [List.length_take]; omega
  simp only [cutl,tN,Int.toNat_zero,List.drop_zero]
  rw [List.take_append_of_le_length (by omega),List.take_of_length_le (by omega)]
 | succ d ih =>
  intro i n q hi hn hq ht hd
  have h1:i<l.length:=by omega
  have h2:i<q.length:=by omega
  have hx:=hp _ (gM h1)
  have hd2:q[i]=l[i]∧q.drop (i+1)=l.drop (i+1):=by
   rw [List.drop_eq_getElem_cons h1,List.drop_eq_getElem_cons h2]at hd
   exact ⟨(List.cons.inj hd).1,(List.cons.inj hd).2⟩
  refine .s (fun k=>hL k _ _ _) (.t (by omega) (.t (by omega) ?_))
  rw [nth_get _ _ _ h2,hd2.1,w64n i (by omega),w64n n (by omega)]
  refine .b hx (.i (fun c=>ih (i+1) n q (by omega) (by omega) hq ?_ hd2.2) (fun c=>.t (by omega) (ih (i+1) (n+1) _ (by omega) (by omega) (by rw [List.length_set]; exact hq) ?_ ?_)))
  ·rw [← List.take_append_getElem h1,List.filter_append,ht]
   simp [c]
  ·rw [← List.take_append_getElem h1,List.filter_append,← ht,tN,List.take_add_one,List.take_set_of_le (by omega),List.getElem?_set_self (by omega)]
   simp [c]
  ·rw [tN,List.drop_set_of_lt (by omega)]
   exact hd2.2
theorem up{m:qE}(h:Topo.Nodes m.f4)(l:List Int)(hl:l.length<1000000):Ev (fun k=>qCK.f k m l) (l.filter (upN m.f4)):=by
 have hp:∀ x ∈ l,Ev (fun k=>qBs.f k x m) (!upN m.f4 x):=by
  intro x _
  unfold qBs.f
  exact .b (tfind h x) (.c _)
 have e:l.filter (upN m.f4)=l.filter (fun x => !(!upN m.f4 x)):=by
  congr 1
  funext x
  rw [Bool.not_not]
 unfold qCK.f qi.f qk.f
 rw [e]
 refine .b ?_ (.c _)
 rcases indexG 0 l (fun x => !upN m.f4 x) (fun k x=>qBs.f k x m) hp hl (fun k x=>qk.l5 k l m x) (fun k x=>qk.l5_s k l m x) l.length 0 (by omega) rfl with ⟨a,b⟩ | ⟨n,a,b,c,e⟩
 ·exact .b b (.t rfl (.cv a.symm))
 ·refine .b e (.n (by omega) ?_)
  rw [w64n n (by omega)]
  refine deleteG 0 l (fun x => !upN m.f4 x) (fun k x=>qBs.f k x m) hp hl (fun k q n x=>qi.l15 k l m q n x) (fun k q n x=>qi.l15_s k l m q n x) (l.length - (n+1)) (n+1) n l (by omega) (by omega) rfl ?_ rfl
  rw [← List.take_append_getElem a,List.filter_append,b]
  have ca:upN m.f4 l[n]=false:=by
   have:=c a
   revert this
   cases upN m.f4 l[n] <;> decide
  simp [ca]
theorem qDJ{m:qE}(h:May m):m.f5.length≤8:=by
 have ht:=(qCj m _ _).1 h.2.1
 have h3:=h.1.2.2.2.1
 have go:∀(l:List qD)(p:Int),l.Pairwise (fun x y=>x.f0<y.f0)→(∀ t ∈ l,p<t.f0∧t.f0<m.f3)→p<m.f3→(l.length:Int)≤m.f3 - 1 - p:=by
  intro l
  induction l with
  | nil=>intro p _ _ hp; simp; omega
  | cons x r ih =>
   intro p hp hb _
   obtain ⟨h1,h2⟩:=List.pairwise_cons.1 hp
   have hx:=hb x List.mem_cons_self
   have:=ih x.f0 h2 (fun t htm=>⟨h1 t htm,(hb t (List.mem_cons_of_mem _ htm)).2⟩) hx.2
   rw [List.length_cons]
   omega
 have:=go m.f5 (-1) ht.2.1 (fun t hm=>⟨ht.2.2 t hm,(ht.1 t hm).1.1.2⟩) (by omega)
 omega
theorem temp{m:qE}(h:May m)(g:Int):Ev (fun k=>qCB.f k m g) (qJM (fun t:qD=>t.f0) g m.f5):=by
 have ht:=(qCj m _ _).1 h.2.1
 have hl:=qDJ h
 unfold qCB.f qR.f
 exact .b (searchG qD.z (fun n=>n.f0) g qBj.f (fun a=>by unfold qBj.f; rw [cmpG]; rfl) m.f5 _ (fun k a b=>qR.l7_s k m.f5 g a b) (by omega) ht.2.1 m.f5.length 0 m.f5.length (by omega) (by omega) (qDj _ _ _) (Nat.le_refl _)) (.c _)
theorem clone(l:List Int)(hl:l.length≤1000000):qAP.f l=some l:=by
 unfold qAP.f
 rw [if_pos]
 ·rfl
 ·simp only [List.length_nil]
  omega
theorem raw{m:qE}(h:May m)(g:Int):Ev (fun k=>qCH.f k m g) (rawL m g):=by
 have ht:=(qCj m _ _).1 h.2.1
 have h1:=h.1.2.1
 unfold qCH.f
 refine .b (temp h g) ?_
 unfold rawL qJL
 rcases qDB (fun n:qD=>n.f0) g m.f5 ht.2.1 with ⟨hp,q1,q2,q3⟩ | ⟨q2,q3⟩
 ·rw [q3]
  have hm:=ht.1 _ (gM hp)
  refine .t q2 (.t ?_ ?_)
  ·show 0≤((posG (fun n:qD=>n.f0) g m.f5:Nat):Int)∧((posG (fun n:qD=>n.f0) g m.f5:Nat):Int)<_
   omega
  ·show Ev (fun k=>(qAP.f ((nth qD.z m.f5 ((posG (fun n:qD=>n.f0) g m.f5:Nat):Int)).f1)).bind fun t21=>some t21) _
   rw [nth_get _ _ _ hp]
   refine .b0 (clone _ (by omega)) (.cv ?_)
   rw [if_neg]
   intro e
   rw [show m.f5[posG (fun n:qD=>n.f0) g m.f5].f1=[] from e]at hm
   have:=hm.1.2.1
   simp at this
 ·rw [q3,if_pos rfl]
  exact .n (by rw [q2]; decide) (.b (Place.of_ m.f4 g m.f1) (.c _))
def rawM(m:qE)(g:Int):List Int:=if May m∧0≤g∧g<m.f3 then rawL m g else []
def actM(m:qE)(g:Int):List Int:=if May m∧0≤g∧g<m.f3 then actL m g else []
theorem mRaw(m:qE)(hm:Small m)(g:Int):Ev (fun k=>qBY.f k m g) (rawM m g):=by
 unfold qBY.f rawM
 refine .b (check m hm) ?_
 by_cases h:May m
 ·have h3:=h.1.2.2.2.1
  rw [dT h]
  refine .t rfl (.b0 (min' g 0 (w64 (m.f3 - 1))) (.s (qBY.j14_s · _ _ _) ?_))
  rw [qCe (n:=m.f3 - 1) (by omega) (by omega)]
  by_cases c:0≤g∧g<m.f3
  ·rw [dT (by omega),if_pos ⟨h,c⟩]
   exact .n (by decide) (.b (raw h g) (.c _))
  ·rw [dF (by omega),if_neg (fun e=>c e.2)]
   exact .t rfl (.c _)
 ·rw [dF h,if_neg (fun e=>h e.1)]
  exact .n (by decide) (.s (qBY.j14_s · _ _ _) (.t rfl (.c _)))
theorem mActing(m:qE)(hm:Small m)(g:Int):Ev (fun k=>qBZ.f k m g) (actM m g):=by
 unfold qBZ.f
 refine .b (mRaw m hm g) ?_
 unfold rawM actM
 by_cases h:May m∧0≤g∧g<m.f3
 ·rw [if_pos h,if_pos h]
  have h2:=(qEa h.1 g).2.1
  have h1:=h.1.1.2.1
  exact .b (up h.1.1.2.2.2.2 _ (by omega)) (.c _)
 ·rw [if_neg h,if_neg h]
  have:Ev (fun k=>qCK.f k m []) ([]:List Int):=by
   unfold qCK.f qi.f qk.f
   exact .b (.b (.s (qk.l5_s · _ _ _) (.n (by decide) (.c _))) (.t rfl (.c _))) (.c _)
  exact .b this (.c _)
theorem rtemp(m:qE)(hm:Small m)(g:Int):Ev (fun k=>qAM.f k m g) (qJL m g):=by
 have h5:=hm.h5
 have go:∀(d i:Nat),i+d=m.f5.length→Ev (fun k=>qAM.l7 k m g (i:Int)) (match (m.f5.drop i).find? (fun t=>decide (t.f0=g)) with
  | some t=>t.f1
  | none=>[]):=by
  intro d
  induction d with
  | zero =>
   intro i hi
   refine .s (qAM.l7_s · _ _ _) (.n (by omega) (.cv ?_))
   rw [List.drop_eq_nil_of_le (by omega)]
   rfl
  | succ d ih =>
   intro i hi
   have h1:i<m.f5.length:=by omega
   refine .s (qAM.l7_s · _ _ _) (.t (by omega) (.t (by omega) ?_))
   rw [nth_get _ _ _ h1,List.drop_eq_getElem_cons h1,w64n i (by omega)]
   refine .i (fun c=>.cv ?_) (fun c=>(ih (i+1) (by omega)).v ?_)
   ·rw [List.find?_cons_of_pos (by simpa using c)]
   ·rw [List.find?_cons_of_neg (by simpa using c)]
 exact go m.f5.length 0 (by omega)
theorem rRaw(m:qE)(hm:Small m)(g:Int):Ev (fun k=>qAR.f k m g) (rawM m g):=by
 have no:¬ (May m∧0≤g∧g<m.f3)→Ev (fun k=>qAR.j12 k m g true) (rawM m g):=by
  intro c
  unfold rawM
  rw [if_neg c]
  exact .s (qAR.j12_s · _ _ _) (.t rfl (.c _))
 unfold qAR.f
 refine .b (may m hm) ?_
 by_cases h:May m
 ·rw [dT h]
  refine .t rfl (.i (fun c=>no (fun e=>by omega)) (fun c=>?_))
  by_cases c2:g≥m.f3
  ·rw [dT c2]
   exact no (fun e=>by omega)
  ·rw [dF c2]
   unfold rawM rawL
   rw [if_pos ⟨h,by omega,by omega⟩]
   refine .s (qAR.j12_s · _ _ _) (.n (by decide) (.b (rtemp m hm g) (.i (fun c3=>.cv ?_) (fun c3=>.b (Place.rof m.f4 g m.f1 hm.h4) (.cv ?_)))))
   ·rw [if_neg]
    intro e
    rw [e]at c3
    simp at c3
   ·rw [if_pos]
    exact List.length_eq_zero_iff.1 (by omega)
 ·rw [dF h]
  exact .n (by decide) (no (fun e=>h e.1))
theorem rActing(m:qE)(hm:Small m)(g:Int):Ev (fun k=>qw.f k m g) (actM m g):=by
 have hle:(rawM m g).length≤1000000:=by
  unfold rawM
  split
  ·rename_i h
   have h2:=(qEa h.1 g).2.1
   have h1:=h.1.1.2.1
   omega
  ·decide
 have go:∀(d i:Nat),i+d=(rawM m g).length→Ev (fun k=>qw.l24 k m (rawM m g) (((rawM m g).take i).filter (upN m.f4)) (i:Int)) ((rawM m g).filter (upN m.f4)):=by
  intro d
  induction d with
  | zero =>
   intro i hi
   refine .s (qw.l24_s · _ _ _ _) (.n (by omega) (.cv ?_))
   rw [List.take_of_length_le (by omega)]
  | succ d ih =>
   intro i hi
   have h1:i<(rawM m g).length:=by omega
   have ih:=ih (i+1) (by omega)
   have hlen:(((rawM m g).take i).filter (upN m.f4)).length≤i:=Nat.le_trans (List.length_filter_le _ _) (by rw [List.length_take]; omega)
   rw [← List.take_append_getElem h1,List.filter_append]at ih
   refine .s (qw.l24_s · _ _ _ _) (.t (by omega) (.t (by omega) ?_))
   rw [nth_get _ _ _ h1,w64n i (by omega)]
   refine .b (Topo.reffind _ _ hm.h4) (.i (fun c=>.t (by omega) ?_) (fun c=>?_))
   ·rw [show [(rawM m g)[i]].filter (upN m.f4)=[(rawM m g)[i]] from by unfold upN; simp [c]]at ih
    exact ih
   ·rw [show [(rawM m g)[i]].filter (upN m.f4)=[] from by unfold upN; simp [c],List.append_nil]at ih
    exact ih
 unfold qw.f
 refine .b (rRaw m hm g) ((go _ 0 (Nat.zero_add _)).v ?_)
 unfold rawM actM actL
 split
 ·rfl
 ·rfl
structure Lit8 (m:qE):Prop where
 h4:m.f4.length≤30
 h5:m.f5.length≤20
 h6:m.f6.length≤20
 ht:∀ t ∈ m.f5,t.f1.length≤20
 hp:∀ t ∈ m.f6,t.f1.length≤20
 hs:∀ t ∈ m.f6,∀ s ∈ t.f1,s.f1.length≤20
theorem Lit8.small{m:qE}(h:Lit8 m):Small m:=by
 have h4:=h.h4
 have h5:=h.h5
 have h6:=h.h6
 exact ⟨by omega,by omega,by omega,fun t ht=>by have:=h.hp t ht; omega,fun t ht s hs=>by have:=h.hs t ht s hs; omega⟩
theorem light(m:qE):Ht (fun k=>qX.f k m) (fun b=>b=true→Lit8 m):=by
 have h65:∀(i:Nat)(hi:i<m.f6.length),m.f6[i].f1.length≤20→(∀ t ∈ m.f6.take i,t.f1.length≤20∧∀ s ∈ t.f1,s.f1.length≤20)→(∀ t ∈ m.f5.take 20,t.f1.length≤20) →
   ((∀ t ∈ m.f6.take (i+1),t.f1.length≤20∧∀ s ∈ t.f1,s.f1.length≤20)→Ht (fun k=>qX.l36 k m ((i+1:Nat):Int)) (fun b=>b=true→Lit8 m))→i<20 →
   ∀(d j:Nat),j+d=m.f6[i].f1.length→(∀ s ∈ m.f6[i].f1.take j,s.f1.length≤20)→Ht (fun k=>qX.l65 k m (i:Int) (j:Int)) (fun b=>b=true→Lit8 m):=by
  intro i hi h20 hp ht hk hi20 d
  induction d with
  | zero =>
   intro j hj hs
   refine .s (qX.l65_s · _ _ _) ?_
   rw [nth_get _ _ _ hi,w64n i (by omega)]
   refine .n (by omega) (hk (fun t hm=>?_))
   rw [← List.take_append_getElem hi]at hm
   rcases List.mem_append.1 hm with hm | hm
   ·exact hp t hm
   ·rw [List.mem_singleton.1 hm]
    exact ⟨h20,fun s hsm=>hs s (by rw [List.take_of_length_le (by omega)]; exact hsm)⟩
  | succ d ih =>
   intro j hj hs
   have h1:j<m.f6[i].f1.length:=by omega
   refine .s (qX.l65_s · _ _ _) ?_
   rw [nth_get _ _ _ hi]
   refine .t (by omega) (.t (by omega) ?_)
   rw [nth_get _ _ _ h1,w64n j (by omega)]
   refine .i (fun _=>.c (fun e=>nomatch e)) (fun c=>ih (j+1) (by omega) (fun s hsm=>?_))
   rw [← List.take_append_getElem h1]at hsm
   rcases List.mem_append.1 hsm with hsm | hsm
   ·exact hs s hsm
   ·rw [List.mem_singleton.1 hsm]
    omega
 have h36:∀(d i:Nat),i+d=min 20 m.f6.length→(∀ t ∈ m.f6.take i,t.f1.length≤20∧∀ s ∈ t.f1,s.f1.length≤20)→(∀ t ∈ m.f5.take 20,t.f1.length≤20)→Ht (fun k=>qX.l36 k m (i:Int)) (fun b=>b=true→Lit8 m):=by
  intro d
  induction d with
  | zero =>
   intro i hi hp ht
   have fin:Ht (fun k=>qX.j44 k m (i:Int) false) (fun b=>b=true→Lit8 m):=by
    refine .s (qX.j44_s · _ _ _) (.n (by decide) (.i (fun c4=>.i (fun c5=>.c (fun e=>?_)) (fun _=>.c (fun e=>nomatch e))) (fun _=>.c (fun e=>nomatch e))))
    have c6:=oT e
    rw [List.take_of_length_le (by omega)]at hp
    rw [List.take_of_length_le (by omega)]at ht
    exact ⟨by omega,by omega,by omega,ht,fun t hm=>(hp t hm).1,fun t hm=>(hp t hm).2⟩
   refine .s (qX.l36_s · _ _) (.i (fun c=>?_) (fun _=>fin))
   rw [dF (by omega)]
   exact fin
  | succ d ih =>
   intro i hi hp ht
   have h1:i<m.f6.length:=by omega
   refine .s (qX.l36_s · _ _) (.t (by omega) ?_)
   rw [dT (by omega)]
   refine .s (qX.j44_s · _ _ _) (.t rfl (.t (by omega) ?_))
   rw [nth_get _ _ _ h1]
   exact .i (fun _=>.c (fun e=>nomatch e)) (fun c=>h65 i h1 (by omega) hp ht (fun q=>ih (i+1) (by omega) q ht) (by omega) m.f6[i].f1.length 0 (by omega) (fun _ h=>nomatch h))
 have h7:∀(d i:Nat),i+d=min 20 m.f5.length→(∀ t ∈ m.f5.take i,t.f1.length≤20)→Ht (fun k=>qX.l7 k m (i:Int)) (fun b=>b=true→Lit8 m):=by
  intro d
  induction d with
  | zero =>
   intro i hi ht
   have fin:Ht (fun k=>qX.j15 k m (i:Int) false) (fun b=>b=true→Lit8 m):=by
    refine .s (qX.j15_s · _ _ _) (.n (by decide) (h36 (min 20 m.f6.length) 0 (by omega) (fun _ h=>nomatch h) ?_))
    by_cases c:m.f5.length≤20
    ·rw [List.take_of_length_le (by omega)]at ht ⊢
     exact ht
    ·rwa [show i=20 by omega]at ht
   refine .s (qX.l7_s · _ _) (.i (fun c=>?_) (fun _=>fin))
   rw [dF (by omega)]
   exact fin
  | succ d ih =>
   intro i hi ht
   have h1:i<m.f5.length:=by omega
   refine .s (qX.l7_s · _ _) (.t (by omega) ?_)
   rw [dT (by omega)]
   refine .s (qX.j15_s · _ _ _) (.t rfl (.t (by omega) ?_))
   rw [nth_get _ _ _ h1,w64n i (by omega)]
   refine .i (fun _=>.c (fun e=>nomatch e)) (fun c=>ih (i+1) (by omega) (fun t hm=>?_))
   rw [← List.take_append_getElem h1]at hm
   rcases List.mem_append.1 hm with hm | hm
   ·exact ht t hm
   ·rw [List.mem_singleton.1 hm]
    omega
 exact h7 (min 20 m.f5.length) 0 (by omega) (fun _ h=>nomatch h)
theorem anyG {α : Type} (z : α) (l:List α) (p : α→Bool) (pO:Nat→α→Option Bool) (hp:∀ x ∈ l,Ev (fun k=>pO k x) (p x)) (hl:l.length<1000000) (L:Nat→Int→Option Int)
  (hL:∀ k x,L (k+1) x=(if x<(l.length:Int) then (if 0≤x∧x<(l.length:Int) then ((pO k (nth z l x)).bind fun t21=>(if t21=true then (some x) else (L k (w64 (x+1))))) else (none)) else (some (-1)))) :
  ∀(d i:Nat),i+d=l.length→∃ x,Ev (fun k=>L k (i:Int)) x∧decide (x≥0)=(l.drop i).any p:=by
 intro d
 induction d with
 | zero =>
  intro i hi
  refine ⟨-1,.s (fun k=>hL k _) (.n (by omega) (.c _)),?_⟩
  rw [List.drop_eq_nil_of_le (by omega)]
  rfl
 | succ d ih =>
  intro i hi
  have h1:i<l.length:=by omega
  have hx:=hp _ (gM h1)
  obtain ⟨x,he,hm⟩:=ih (i+1) (by omega)
  rw [List.drop_eq_getElem_cons h1,List.any_cons]
  cases h:p l[i] with
  | true =>
   rw [h]at hx
   refine ⟨i,.s (fun k=>hL k _) (.t (by omega) (.t (by omega) ?_)),?_⟩
   ·rw [nth_get _ _ _ h1]
    exact .b hx (.t rfl (.c _))
   ·rw [Bool.true_or]
    exact dT (by omega)
  | false =>
   rw [h]at hx
   refine ⟨x,.s (fun k=>hL k _) (.t (by omega) (.t (by omega) ?_)),?_⟩
   ·rw [nth_get _ _ _ h1,w64n i (by omega)]
    exact .b hx (.n nF he)
   ·rw [Bool.false_or]
    exact hm
theorem cloneN(l:List qA)(hl:l.length≤1000000):qAm.f l=some l:=by
 unfold qAm.f
 rw [if_pos (by simp only [List.length_nil]; omega)]
 rfl
theorem cloneT(l:List qD)(hl:l.length≤1000000):qAn.f l=some l:=by
 unfold qAn.f
 rw [if_pos (by simp only [List.length_nil]; omega)]
 rfl
theorem cloneP(l:List qC)(hl:l.length≤1000000):qAS.f l=some l:=by
 unfold qAS.f
 rw [if_pos (by simp only [List.length_nil]; omega)]
 rfl
theorem cloneS(l:List qG)(hl:l.length≤1000000):qAo.f l=some l:=by
 unfold qAo.f
 rw [if_pos (by simp only [List.length_nil]; omega)]
 rfl
theorem spansId(l:List qG)(hl:l.length≤1000000)(hs:∀ s ∈ l,s.f1.length≤1000000):Ev (fun k=>qBL.f k l) l:=by
 have go:∀(d i:Nat),i+d=l.length→Ev (fun k=>qBL.l16 k l l (i:Int)) l:=by
  intro d
  induction d with
  | zero=>exact fun i hi=>.s (qBL.l16_s · _ _ _) (.n (by omega) (.c _))
  | succ d ih =>
   intro i hi
   have h1:i<l.length:=by omega
   refine .s (qBL.l16_s · _ _ _) (.t (by omega) (.t (by omega) ?_))
   rw [nth_get _ _ _ h1,w64n i (by omega)]
   refine .b0 (clone _ (hs _ (gM h1))) ?_
   have e:l.set (i:Int).toNat (⟨l[i].f0,l[i].f1⟩:qG)=l:=by
    rw [tN]
    exact List.set_getElem_self h1
   rw [e]
   exact ih (i+1) (by omega)
 unfold qBL.f
 exact .b0 (cloneS l hl) (go l.length 0 (Nat.zero_add _))
def Pasts(b:Nat)(m:qE):Prop:=∀ t ∈ m.f6,t.f1.length≤b
theorem qDO{m:qE}(h:May m):m.f6.length≤8:=by
 have h3:=h.1.2.2.2.1
 have:=h.2.2.1
 omega
theorem qDd{m:qE}(h:May m):∀ t ∈ m.f5,t.f1.length≤3:=fun t ht=>by
 have:=((qCj m _ _).1 h.2.1).1 t ht
 have:=h.1.2.1
 omega
theorem qDE{m:qE}(h:May m):∀ t ∈ m.f6,∀ s ∈ t.f1,s.f1.length≤3:=fun t ht s hs=>by
 have:=((qCR m t.f0 t.f1 [] (-1)).1 ((qCp m m.f6).1 h.2.2.2 t ht).2).1 s hs
 have:=h.1.2.1
 omega
structure Sized (m:qE):Prop where
 h4:m.f4.length<1000000
 h5:m.f5.length<1000000
 h6:m.f6.length<1000000
 ht:∀ t ∈ m.f5,t.f1.length<1000000
 hp:∀ t ∈ m.f6,t.f1.length<1000000
 hs:∀ t ∈ m.f6,∀ s ∈ t.f1,s.f1.length<1000000
theorem May.sized{m:qE}(h:May m){b:Nat}(hb:b≤100000)(hP:Pasts b m):Sized m:=by
 have h4:m.f4.length≤12:=h.1.2.2.2.2.1
 have h5:=qDJ h
 have h6:=qDO h
 exact ⟨by omega,by omega,by omega,fun t ht=>by have:=qDd h t ht; omega,fun t ht=>by have:=hP t ht; omega,fun t ht s hs=>by have:=qDE h t ht s hs; omega⟩
theorem own{m:qE}(hz:Sized m):Ev (fun k=>qBF.f k m) m:=by
 have h4:=hz.h4
 have h5:=hz.h5
 have h6:=hz.h6
 have l91:∀(d i:Nat),i+d=m.f6.length→Ev (fun k=>qBF.l91 k m m.f4 m.f5 m.f6 m.f6 (i:Int)) m:=by
  intro d
  induction d with
  | zero=>exact fun i hi=>.s (qBF.l91_s · _ _ _ _ _ _) (.n (by omega) (.c _))
  | succ d ih =>
   intro i hi
   have h1:i<m.f6.length:=by omega
   have hmem:=gM h1
   refine .s (qBF.l91_s · _ _ _ _ _ _) (.t (by omega) (.t (by omega) ?_))
   rw [nth_get _ _ _ h1,w64n i (by omega)]
   refine .b (spansId _ (Nat.le_of_lt (hz.hp _ hmem)) (fun s hs=>Nat.le_of_lt (hz.hs _ hmem s hs))) ?_
   have e:m.f6.set (i:Int).toNat (⟨m.f6[i].f0,m.f6[i].f1⟩:qC)=m.f6:=by
    rw [tN]
    exact List.set_getElem_self h1
   rw [e]
   exact ih (i+1) (by omega)
 have l30:∀(d i:Nat),i+d=m.f5.length→Ev (fun k=>qBF.l30 k m m.f4 m.f5 m.f5 (i:Int)) m:=by
  intro d
  induction d with
  | zero=>exact fun i hi=>.s (qBF.l30_s · _ _ _ _ _) (.n (by omega) (.b0 (cloneP _ (by omega)) (l91 m.f6.length 0 (Nat.zero_add _))))
  | succ d ih =>
   intro i hi
   have h1:i<m.f5.length:=by omega
   refine .s (qBF.l30_s · _ _ _ _ _) (.t (by omega) (.t (by omega) ?_))
   rw [nth_get _ _ _ h1,w64n i (by omega)]
   refine .b0 (clone _ (Nat.le_of_lt (hz.ht _ (gM h1)))) ?_
   have e:m.f5.set (i:Int).toNat (⟨m.f5[i].f0,m.f5[i].f1⟩:qD)=m.f5:=by
    rw [tN]
    exact List.set_getElem_self h1
   rw [e]
   exact ih (i+1) (by omega)
 unfold qBF.f
 exact .b0 (cloneN _ (by omega)) (.b0 (cloneT _ (by omega)) (l30 m.f5.length 0 (Nat.zero_add _)))
theorem qIw{α : Type}(z : α)(a b:List α)(i:Nat)(ha:i≤a.length)(hb:i<b.length):nth z (a.take i++b.drop i) (i:Int)=b[i]:=by
 have hl:(a.take i).length=i:=by rw [List.length_take]; omega
 have h1:i<(a.take i++b.drop i).length:=by rw [lA,List.length_drop,hl]; omega
 rw [nth_get _ _ _ h1,List.getElem_append_right (by omega),List.getElem_drop]
 congr 1
 omega
theorem qIK{α : Type}(a b:List α)(i:Nat)(ha:i<a.length)(hb:i<b.length)(h:a[i]=b[i]):a.take i++b.drop i=a.take (i+1)++b.drop (i+1):=by
 rw [List.drop_eq_getElem_cons hb,← List.take_append_getElem ha,List.append_assoc,h]
 rfl
theorem qIx{α : Type}(a b:List α)(i:Nat)(ha:i<a.length)(hb:i<b.length):(a.take i++b.drop i).set (i:Int).toNat a[i]=a.take (i+1)++b.drop (i+1):=by
 have hl:(a.take i).length=i:=by rw [List.length_take]; omega
 rw [tN,List.set_append,if_neg (by omega),hl,Nat.sub_self,List.drop_eq_getElem_cons hb,List.set_cons_zero,← List.take_append_getElem ha,List.append_assoc]
 rfl
theorem qIy(l:List Int)(hl:l.length≤1000000):qAF.f l=some (rising l):=by
 unfold qAF.f qAN.f qBT.f sortI
 rw [if_pos hl,Option.bind_some,if_pos hl]
 rfl
theorem delSpan(l:List qG)(s:qG)(hl:l.length<1000000)(hs:∀ x ∈ l,x.f1.length<1000000):Ev (fun k=>qU.f k l s) (l.filter (fun y => !decide (y.f1=s.f1))):=by
 have hp:∀ x ∈ l,Ev (fun k=>qBS.f k x s) (decide (x.f1=s.f1)):=by
  intro x hx
  unfold qBS.f
  exact .b (equal _ _ (by have:=hs x hx; omega)) (.c _)
 unfold qU.f qb.f
 rcases indexG qG.z l (fun x=>decide (x.f1=s.f1)) (fun k x=>qBS.f k x s) hp hl (fun k x=>qb.l5 k l s x) (fun k x=>qb.l5_s k l s x) l.length 0 (by omega) rfl with ⟨a,b⟩ | ⟨n,a,b,c,e⟩
 ·exact .b b (.t rfl (.cv a.symm))
 ·refine .b e (.n (by omega) ?_)
  rw [w64n n (by omega)]
  refine deleteG qG.z l (fun x=>decide (x.f1=s.f1)) (fun k x=>qBS.f k x s) hp hl (fun k q n x=>qU.l15 k l s q n x) (fun k q n x=>qU.l15_s k l s q n x) (l.length - (n+1)) (n+1) n l (by omega) (by omega) rfl ?_ rfl
  rw [← List.take_append_getElem a,List.filter_append,b]
  have ca:(decide (l[n].f1=s.f1))=true:=c a
  simp [ca]
theorem followed{m x:qE}(h:May m)(hx:May x)(he:m.f0<2147483647){b:Nat}(hb:b≤100000)(hP:Pasts b x):Ev (fun k=>qAv.f k m x) (qJK m x):=by
 have hf0:=h.1.1
 have h6:=qDO hx
 have hlen:(qJK m x).length=x.f6.length:=by unfold qJK; exact List.length_mapIdx
 have go:∀(d i:Nat),i+d=x.f6.length→Ev (fun k=>qAv.l20 k m x x.f6 ((qJK m x).take i++x.f6.drop i) (i:Int)) (qJK m x):=by
  intro d
  induction d with
  | zero =>
   intro i hi
   refine .s (qAv.l20_s · _ _ _ _ _) (.n (by omega) (.cv ?_))
   rw [List.take_of_length_le (by omega),List.drop_eq_nil_of_le (by omega),List.append_nil]
  | succ d ih =>
   intro i hi
   have h1:i<x.f6.length:=by omega
   have h2:i<(qJK m x).length:=by omega
   have hmem:=gM h1
   have hF:(qJK m x)[i]=followT x.f6[i] (actL m i) (actL x i) m.f2 (m.f0+1):=by
    simp only [qJK,List.getElem_mapIdx]
   have hr:=(qEa h i).2.1
   have hrx:=(qEa hx i).2.1
   have s1:=h.1.2.1
   have s2:=hx.1.2.1
   have ha:=(qFP h i).2.1
   have hax:=(qFP hx i).2.1
   refine .s (qAv.l20_s · _ _ _ _ _) (.t (by omega) (.t (by omega) ?_))
   rw [qIw _ _ _ _ (by omega) h1,w64n i (by omega)]
   refine .b (raw h i) (.b (up h.1.2.2.2.2 _ (by omega)) (.b (raw hx i) (.b (up hx.1.2.2.2.2 _ (by omega)) ?_)))
   refine .b (equal (actL m i) (actL x i) (by omega)) ?_
   have j144:∀ l141,(⟨m.f0+1,l141⟩:qC)=(qJK m x)[i]→Ev (fun k=>qAv.j144 k m x x.f6 ((qJK m x).take i++x.f6.drop i) (i:Int) l141) (qJK m x):=by
    intro l141 e
    refine .s (qAv.j144_s · _ _ _ _ _ _) ?_
    rw [w64n i (by omega),qCe (by omega) (by omega),e,qIx _ _ _ h2 h1]
    exact ih (i+1) (by omega)
   by_cases hw:actL m i=actL x i
   ·have e:(qJK m x)[i]=x.f6[i]:=by
     rw [hF]
     exact if_pos hw
    rw [qIK _ _ _ h2 h1 e]
    exact .t (dT hw) (ih (i+1) (by omega))
   ·refine .n (fun e=>hw (oT e)) ?_
    rw [followT,if_neg hw]at hF
    by_cases hc:m.f2≤((actL m i).length:Int)
    ·rw [if_pos hc]at hF
     have hpl:=hP _ hmem
     have hfl:=List.length_filter_le (fun y:qG => !decide (y.f1=rising (actL m i))) x.f6[i].f1
     refine .t hc (.b0 (qIy _ (by show (actL m i).length≤_; omega)) (.b (spansId _ (by omega) (fun s hs=>Nat.le_trans (qDE hx _ hmem s hs) (by decide))) (.b (delSpan _ _ (by omega) (fun s hs=>Nat.lt_of_le_of_lt (qDE hx _ hmem s hs) (by decide))) (.t ?_ (j144 _ hF.symm)))))
     show ((((x.f6[i].f1.filter (fun y:qG => !decide (y.f1=rising (actL m i)))).length:Nat):Int)+((1:Nat):Int)) * 32≤140737488355328
     omega
    ·rw [if_neg hc]at hF
     exact .n hc (j144 _ hF.symm)
 unfold qAv.f
 refine .b0 (cloneP _ (by omega)) ?_
 have h0:=go x.f6.length 0 (Nat.zero_add _)
 rw [List.take_zero,List.drop_zero,List.nil_append]at h0
 exact h0
theorem bare(d:qF):qCL.f d=some (decide (bareD d)):=by
 have hlen:((d.f6.length:Int) == 0)=decide (d.f6=[]):=by
  cases d.f6 with
  | nil=>rfl
  | cons x r=>rw [dF (by simp)]; exact beq_eq_false_iff_ne.2 (by simp only [List.length_cons]; omega)
 have hl0:((d.f6.length:Int)=0)↔d.f6=[]:=by
  cases d.f6 with
  | nil=>exact ⟨fun _=>rfl,fun _=>rfl⟩
  | cons x r=>exact ⟨fun e=>absurd e (by simp only [List.length_cons]; omega),fun e=>(nomatch e)⟩
 have hz:∀ z:Int,(z == 0)=decide (z=0):=fun z=>by rw [Bool.eq_iff_iff,beq_iff_eq,decide_eq_true_eq]
 unfold qCL.f bareD
 rw [hlen]
 by_cases h1:d.f0=1
 ·rw [if_pos h1]
  simp only [if_pos h1]
  by_cases a:d.f5=0 <;> simp [a]
 ·rw [if_neg h1]
  simp only [if_neg h1]
  by_cases h2:d.f0=2
  ·rw [if_pos h2]
   simp only [if_pos h2]
   by_cases a:d.f2=0 <;> by_cases b:d.f3=0 <;> by_cases c:d.f5=0 <;> simp [a,b,c]
  ·rw [if_neg h2]
   simp only [if_neg h2]
   by_cases h10:d.f0=10
   ·rw [if_pos h10]
    simp only [if_pos h10]
    by_cases a:d.f1=0 <;> by_cases b:d.f2=0 <;> by_cases c:d.f3=0 <;> simp [a,b,c]
   ·rw [if_neg h10]
    simp only [if_neg h10]
    by_cases h8:d.f0=8
    ·rw [if_pos h8]
     simp only [if_pos h8]
     by_cases a:d.f1=0 <;> by_cases b:d.f2=0 <;> by_cases c:d.f3=0 <;> simp [a,b,c,hz]
    ·rw [if_neg h8]
     simp only [if_neg h8]
     by_cases a:d.f2=0 <;> by_cases b:d.f3=0 <;> by_cases c:d.f4=0 <;> by_cases e:d.f5=0 <;> by_cases f:d.f6=[] <;> by_cases g:d.f0=9 <;> simp [a,b,c,e,f,g,hl0,hz]
def Same2(R T:qE × Int):Prop:=R.2=T.2∧(T.2=0→R.1=T.1)
theorem err2(a b:qE)(c:Int)(hc:c≠0):Same2 (a,c) (b,c):=⟨rfl,fun e=>absurd e hc⟩
theorem Same2.refl(R:qE × Int):Same2 R R:=⟨rfl,fun _=>rfl⟩
theorem qHd(n:qA):∀(l:List qA),l.Pairwise (fun x y=>x.f0<y.f0)→((∃ h:posG (fun c:qA=>c.f0) n.f0 l<l.length,l[posG (fun c:qA=>c.f0) n.f0 l].f0=n.f0)→putN n l=l.set (posG (fun c:qA=>c.f0) n.f0 l) n)∧(l.find? (fun c=>decide (c.f0=n.f0))=none→putN n l=l.take (posG (fun c:qA=>c.f0) n.f0 l)++n :: l.drop (posG (fun c:qA=>c.f0) n.f0 l))
 | [],_=>⟨fun ⟨h,_⟩=>absurd h (by simp),fun _=>rfl⟩
 | c :: r,hp=>by
  obtain ⟨h1,h2⟩:=List.pairwise_cons.1 hp
  obtain ⟨i1,i2⟩:=qHd n r h2
  by_cases hc:c.f0<n.f0
  ·have e:posG (fun c:qA=>c.f0) n.f0 (c :: r)=posG (fun c:qA=>c.f0) n.f0 r+1:=by rw [posG,if_pos hc]
   rw [e,putN,if_pos hc]
   refine ⟨fun ⟨h,q⟩=>?_,fun q=>?_⟩
   ·rw [List.set_cons_succ,i1 ⟨by rw [List.length_cons]at h; omega,by rw [List.getElem_cons_succ]at q; exact q⟩]
   ·rw [List.find?_cons_of_neg (by simp; omega)]at q
    rw [i2 q]
    rfl
  ·have e:posG (fun c:qA=>c.f0) n.f0 (c :: r)=0:=by rw [posG,if_neg hc]
   rw [e,putN,if_neg hc]
   refine ⟨fun ⟨h,q⟩=>?_,fun q=>?_⟩
   ·rw [List.getElem_cons_zero]at q
    rw [if_pos q]
    rfl
   ·by_cases hx:c.f0=n.f0
    ·rw [List.find?_cons_of_pos (by simpa using hx)]at q
     cases q
    ·rw [if_neg hx]
     rfl
theorem qHe(x:Int):∀(l:List qA),l.Pairwise (fun x y=>x.f0<y.f0)→(∃ h:posG (fun c:qA=>c.f0) x l<l.length,l[posG (fun c:qA=>c.f0) x l].f0=x)→dropN x l=l.take (posG (fun c:qA=>c.f0) x l)++l.drop (posG (fun c:qA=>c.f0) x l+1)
 | [],_,⟨h,_⟩=>absurd h (by simp)
 | c :: r,hp,⟨h,q⟩=>by
  obtain ⟨h1,h2⟩:=List.pairwise_cons.1 hp
  unfold dropN
  by_cases hc:c.f0<x
  ·have e:posG (fun c:qA=>c.f0) x (c :: r)=posG (fun c:qA=>c.f0) x r+1:=by rw [posG,if_pos hc]
   simp only [e,List.getElem_cons_succ]at q
   rw [e,List.filter_cons_of_pos (by simp; omega)]
   have:=qHe x r h2 ⟨by rw [e,List.length_cons]at h; omega,q⟩
   unfold dropN at this
   rw [this]
   rfl
  ·have e:posG (fun c:qA=>c.f0) x (c :: r)=0:=by rw [posG,if_neg hc]
   simp only [e,List.getElem_cons_zero]at q
   rw [e,List.filter_cons_of_neg (by simpa using q),List.filter_eq_self.2 (fun y hy=>by have:=h1 y hy; simp; omega)]
   rfl
theorem qHf(g:Int)(ns:List Int):∀(l:List qD),l.Pairwise (fun x y=>x.f0<y.f0)→((∃ h:posG (fun c:qD=>c.f0) g l<l.length,l[posG (fun c:qD=>c.f0) g l].f0=g)→pinT g ns l=l.take (posG (fun c:qD=>c.f0) g l)++(if ns=[] then [] else [(⟨g,ns⟩:qD)])++l.drop (posG (fun c:qD=>c.f0) g l+1))∧(l.find? (fun c=>decide (c.f0=g))=none→pinT g ns l=l.take (posG (fun c:qD=>c.f0) g l)++(if ns=[] then [] else [(⟨g,ns⟩:qD)])++l.drop (posG (fun c:qD=>c.f0) g l))
 | [],_=>⟨fun ⟨h,_⟩=>absurd h (by simp),fun _=>by
  unfold pinT posG
  rw [List.take_nil,List.drop_nil,List.append_nil,List.nil_append]⟩
 | c :: r,hp=>by
  obtain ⟨h1,h2⟩:=List.pairwise_cons.1 hp
  obtain ⟨i1,i2⟩:=qHf g ns r h2
  by_cases hc:c.f0<g
  ·have e:posG (fun c:qD=>c.f0) g (c :: r)=posG (fun c:qD=>c.f0) g r+1:=by rw [posG,if_pos hc]
   rw [e,pinT,if_pos hc]
   refine ⟨fun ⟨h,q⟩=>?_,fun q=>?_⟩
   ·rw [i1 ⟨by rw [List.length_cons]at h; omega,by rw [List.getElem_cons_succ]at q; exact q⟩]
    rfl
   ·rw [List.find?_cons_of_neg (by simp; omega)]at q
    rw [i2 q]
    rfl
  ·have e:posG (fun c:qD=>c.f0) g (c :: r)=0:=by rw [posG,if_neg hc]
   rw [e,pinT,if_neg hc]
   refine ⟨fun ⟨h,q⟩=>?_,fun q=>?_⟩
   ·rw [List.getElem_cons_zero]at q
    rw [if_pos q]
    rfl
   ·by_cases hx:c.f0=g
    ·rw [List.find?_cons_of_pos (by simpa using hx)]at q
     cases q
    ·rw [if_neg hx]
     rfl
theorem at_{m:qE}(h:May m)(x:Int):Ev (fun k=>qCP.f k m x) (qJM (fun n:qA=>n.f0) x m.f4):=by
 have hn:=h.1.2.2.2.2
 have hl:=hn.1
 unfold qCP.f qT.f
 exact .b (searchG qA.z (fun n=>n.f0) x qCA.f (fun a=>by unfold qCA.f; rw [cmpG]; rfl) m.f4 _ (fun k a b=>qT.l7_s k m.f4 x a b) (by omega) hn.up m.f4.length 0 m.f4.length (by omega) (by omega) (qDj _ _ _) (Nat.le_refl _)) (.c _)
theorem foundAt{m:qE}(h:May m)(x:Int):(∃ hp:posG (fun n:qA=>n.f0) x m.f4<m.f4.length,m.f4[posG (fun n:qA=>n.f0) x m.f4].f0=x∧(qJM (fun n:qA=>n.f0) x m.f4).2=true∧m.f4.find? (fun c=>decide (c.f0=x))=some m.f4[posG (fun n:qA=>n.f0) x m.f4])∨((qJM (fun n:qA=>n.f0) x m.f4).2=false∧m.f4.find? (fun c=>decide (c.f0=x))=none):=qDB (fun n:qA=>n.f0) x m.f4 h.1.2.2.2.2.up
theorem add{m:qE}(h:May m)(d:qF):Ht (fun k=>qCN.f k m d) (fun R=>Same2 R (addL m d)):=by
 have hn:=h.1.2.2.2.2
 have hl:m.f4.length≤12:=hn.1
 unfold qCN.f
 refine .e (at_ h d.f1) ?_
 unfold addL Topo.find
 rcases foundAt h d.f1 with ⟨hp,q1,q2,q3⟩ | ⟨q2,q3⟩
 ·rw [q3]
  exact .t q2 (.c (err2 _ _ _ (by decide)))
 ·rw [q3]
  refine .n (by rw [q2]; decide) ?_
  rw [if_neg (by decide)]
  by_cases h12:m.f4.length=12
  ·rw [if_pos h12]
   exact .t (by omega) (.c (err2 _ _ _ (by decide)))
  ·rw [if_neg h12]
   have hle:=qDj (fun n:qA=>n.f0) d.f1 m.f4
   have ep:putN (addN d) m.f4=m.f4.take (posG (fun n:qA=>n.f0) d.f1 m.f4)++addN d :: m.f4.drop (posG (fun n:qA=>n.f0) d.f1 m.f4):=(qHd (addN d) m.f4 hn.up).2 q3
   have ei:qAf.f m.f4 (qJM (fun n:qA=>n.f0) d.f1 m.f4).1 [(⟨d.f1,d.f2,d.f3,d.f4,false,true⟩:qA)]=some (putN (addN d) m.f4):=by
    unfold qAf.f
    show (if 0≤((posG (fun n:qA=>n.f0) d.f1 m.f4:Nat):Int)∧((posG (fun n:qA=>n.f0) d.f1 m.f4:Nat):Int)≤(m.f4.length:Int)∧m.f4.length≤1000000 then some (m.f4.take ((posG (fun n:qA=>n.f0) d.f1 m.f4:Nat):Int).toNat++(⟨d.f1,d.f2,d.f3,d.f4,false,true⟩:qA) :: m.f4.drop ((posG (fun n:qA=>n.f0) d.f1 m.f4:Nat):Int).toNat) else none)=_
    rw [if_pos (by omega),tN,ep]
    rfl
   refine .n (by omega) (.o ei (.e (Topo.check' _) (.c ?_)))
   by_cases hm:Topo.Nodes (putN (addN d) m.f4)
   ·rw [if_pos hm,dT hm]
    exact ⟨rfl,fun _=>rfl⟩
   ·rw [if_neg hm,dF hm]
    exact err2 _ _ _ (by decide)
theorem foundTemp{m:qE}(h:May m)(x:Int):(∃ hp:posG (fun n:qD=>n.f0) x m.f5<m.f5.length,m.f5[posG (fun n:qD=>n.f0) x m.f5].f0=x∧(qJM (fun n:qD=>n.f0) x m.f5).2=true∧m.f5.find? (fun c=>decide (c.f0=x))=some m.f5[posG (fun n:qD=>n.f0) x m.f5])∨((qJM (fun n:qD=>n.f0) x m.f5).2=false∧m.f5.find? (fun c=>decide (c.f0=x))=none):=qDB (fun n:qD=>n.f0) x m.f5 ((qCj m _ _).1 h.2.1).2.1
theorem pin{m:qE}(h:May m)(d:qF):Ht (fun k=>qAt.f k m d) (fun R=>Same2 R (pinL m d)):=by
 have hf:=h.1
 have h1:=h.1.2.1
 have h3:=h.1.2.2.2.1
 have hl:=qDJ h
 have hsort:=((qCj m _ _).1 h.2.1).2.1
 have no:Ht (fun k=>qAt.j15 k m d true) (fun R=>Same2 R ((m,1):qE × Int)):=.s (qAt.j15_s · _ _ _) (.t rfl (.c (err2 _ _ _ (by decide))))
 unfold qAt.f pinL
 refine .o (min' d.f5 0 _) ?_
 rw [qCe (by omega) (by omega)]
 by_cases hg:0≤d.f5∧d.f5≤m.f3 - 1
 ·refine .t (dT hg) ?_
  by_cases hs:(d.f6.length:Int)>m.f1
  ·rw [if_neg (by omega),dT hs]
   exact no
  rw [if_pos ⟨hg.1,by omega,by omega⟩,dF hs]
  have hd6:d.f6.length≤3:=by omega
  have hle:=qDj (fun n:qD=>n.f0) d.f5 m.f5
  have rest:∀ there:Bool,(there=true→∃ hp:posG (fun n:qD=>n.f0) d.f5 m.f5<m.f5.length,m.f5[posG (fun n:qD=>n.f0) d.f5 m.f5].f0=d.f5)→(there=false→m.f5.find? (fun c=>decide (c.f0=d.f5))=none)→∀ same:Bool,(same=true↔qJL m d.f5=d.f6) →
    Ht (fun k=>qAt.j45 k m d (qJM (fun t:qD=>t.f0) d.f5 m.f5) there same) (fun R=>Same2 R (if qJL m d.f5=d.f6 then (m,7) else if Topo.apartR m.f4 [] d.f6=true then (withT m (pinT d.f5 d.f6 m.f5),0) else (m,12))):=by
   intro there ht hf' same hsame
   refine .s (qAt.j45_s · _ _ _ _ _) ?_
   cases same with
   | true =>
    rw [if_pos (hsame.1 rfl)]
    exact .t rfl (.c (err2 _ _ _ (by decide)))
   | false =>
    rw [if_neg (fun e=>Bool.noConfusion (hsame.2 e))]
    refine .n nF (.e (Topo.apart m.f4 d.f6 (by have:=h.1.2.2.2.2.1; omega) (by omega)) ?_)
    rw [dT h.1.2.2.2.2,Bool.true_and]
    by_cases ha:Topo.apartR m.f4 [] d.f6=true
    ·rw [if_pos ha]
     have j113:∀ l,l=pinT d.f5 d.f6 m.f5→Ht (fun k=>qAt.j113 k m l) (fun R=>Same2 R (withT m (pinT d.f5 d.f6 m.f5),0)):=by
      intro l hl
      rw [hl]
      exact .s (qAt.j113_s · _ _) (.c (Same2.refl _))
     have j77:∀ l,l.length≤8→posG (fun n:qD=>n.f0) d.f5 m.f5≤l.length→(l.take (posG (fun n:qD=>n.f0) d.f5 m.f5)++(if d.f6=[] then [] else [(⟨d.f5,d.f6⟩:qD)])++l.drop (posG (fun n:qD=>n.f0) d.f5 m.f5))=pinT d.f5 d.f6 m.f5→Ht (fun k=>qAt.j77 k m d (qJM (fun t:qD=>t.f0) d.f5 m.f5) l) (fun R=>Same2 R (withT m (pinT d.f5 d.f6 m.f5),0)):=by
      intro l hl8 hpl he
      refine .s (qAt.j77_s · _ _ _ _) ?_
      by_cases h6:d.f6=[]
      ·rw [if_pos h6,List.append_nil,List.take_append_drop]at he
       refine .n (by rw [h6]; decide) (j113 _ he)
      ·rw [if_neg h6]at he
       have hpos:0<d.f6.length:=List.length_pos_iff.2 h6
       have ei:qAh.f l (qJM (fun n:qD=>n.f0) d.f5 m.f5).1 [(⟨d.f5,d.f6⟩:qD)]=some (pinT d.f5 d.f6 m.f5):=by
        unfold qAh.f
        show (if 0≤((posG (fun n:qD=>n.f0) d.f5 m.f5:Nat):Int)∧((posG (fun n:qD=>n.f0) d.f5 m.f5:Nat):Int)≤(l.length:Int)∧l.length≤1000000 then some (l.take ((posG (fun n:qD=>n.f0) d.f5 m.f5:Nat):Int).toNat++(⟨d.f5,d.f6⟩:qD) :: l.drop ((posG (fun n:qD=>n.f0) d.f5 m.f5:Nat):Int).toNat) else none)=_
        rw [if_pos (by omega),tN,← he,List.append_assoc]
        rfl
       exact .t (by omega) (.o (clone _ (by omega)) (.o ei (j113 _ rfl)))
     refine .t ha ?_
     cases there with
     | true =>
      obtain ⟨hp,hq⟩:=ht rfl
      have ed:qAg.f m.f5 (qJM (fun n:qD=>n.f0) d.f5 m.f5).1 (w64 ((qJM (fun n:qD=>n.f0) d.f5 m.f5).1+1))=some (m.f5.take (posG (fun n:qD=>n.f0) d.f5 m.f5)++m.f5.drop (posG (fun n:qD=>n.f0) d.f5 m.f5+1)):=by
       unfold qAg.f
       show (if 0≤((posG (fun n:qD=>n.f0) d.f5 m.f5:Nat):Int)∧((posG (fun n:qD=>n.f0) d.f5 m.f5:Nat):Int)≤w64 (((posG (fun n:qD=>n.f0) d.f5 m.f5:Nat):Int)+1)∧w64 (((posG (fun n:qD=>n.f0) d.f5 m.f5:Nat):Int)+1)≤(m.f5.length:Int)∧m.f5.length≤1000000 then some (m.f5.take ((posG (fun n:qD=>n.f0) d.f5 m.f5:Nat):Int).toNat++m.f5.drop (w64 (((posG (fun n:qD=>n.f0) d.f5 m.f5:Nat):Int)+1)).toNat) else none)=_
       rw [w64n _ (by omega),if_pos (by omega),tN,tN]
      have hlen:(m.f5.take (posG (fun n:qD=>n.f0) d.f5 m.f5)).length=posG (fun n:qD=>n.f0) d.f5 m.f5:=by rw [List.length_take]; omega
      refine .t rfl (.o ed (j77 _ ?_ ?_ ?_))
      ·rw [lA,hlen,List.length_drop]; omega
      ·rw [lA,hlen]; omega
      ·rw [(qHf d.f5 d.f6 m.f5 hsort).1 ⟨hp,hq⟩,List.take_append_of_le_length (by omega),List.take_of_length_le (by omega),List.drop_append_of_le_length (by omega),List.drop_of_length_le (by omega),List.nil_append]
     | false=>exact .n nF (j77 _ hl hle ((qHf d.f5 d.f6 m.f5 hsort).2 (hf' rfl)).symm)
    ·rw [if_neg ha]
     exact .n ha (.c (err2 _ _ _ (by decide)))
  refine .s (qAt.j15_s · _ _ _) (.n nF (.e (temp h d.f5) ?_))
  rcases foundTemp h d.f5 with ⟨hp,q1,q2,q3⟩ | ⟨q2,q3⟩
  ·have hto:qJL m d.f5=m.f5[posG (fun n:qD=>n.f0) d.f5 m.f5].f1:=by unfold qJL; rw [q3]
   refine .t q2 (.t ?_ ?_)
   ·show 0≤((posG (fun n:qD=>n.f0) d.f5 m.f5:Nat):Int)∧((posG (fun n:qD=>n.f0) d.f5 m.f5:Nat):Int)<_
    omega
   ·have q:nth qD.z m.f5 (qJM (fun n:qD=>n.f0) d.f5 m.f5).1=_:=nth_get qD.z m.f5 _ hp
    rw [q]
    have htl:=qDd h _ (gM hp)
    refine .e (equal _ _ (by omega)) (rest true (fun _=>⟨hp,q1⟩) (fun e=>Bool.noConfusion e) _ ?_)
    rw [decide_eq_true_eq,hto]
  ·have hto:qJL m d.f5=[]:=by unfold qJL; rw [q3]
   refine .n (by rw [q2]; decide) ?_
   by_cases h0:(d.f6.length:Int)=0
   ·exact .t h0 (rest false (fun e=>Bool.noConfusion e) (fun _=>q3) true ⟨fun _=>by rw [hto]; exact (List.eq_nil_of_length_eq_zero (by omega)).symm,fun _=>rfl⟩)
   ·exact .n h0 (rest false (fun e=>Bool.noConfusion e) (fun _=>q3) false ⟨fun e=>Bool.noConfusion e,fun e=>absurd (by rw [← e,hto]; rfl) h0⟩)
 ·rw [if_neg (fun e=>hg ⟨e.1,by omega⟩)]
  exact .n (fun e=>hg (oT e)) no
theorem cleaned{m:qE}(h:May m)(d:qF):qCE.f m d=some (cleanL m d):=by
 have hf:=h.1
 have h3:=h.1.2.2.2.1
 have hlen:m.f6.length=m.f3:=h.2.2.1
 unfold qCE.f cleanL
 rw [min' d.f5 0 _,Option.bind_some,qCe (by omega) (by omega)]
 by_cases hg:0≤d.f5∧d.f5<m.f3
 ·rw [if_pos hg,if_pos (dT (by omega)),if_pos (by omega)]
  by_cases hs:(nth qC.z m.f6 d.f5).f0=d.f4
  ·rw [if_pos hs,if_neg (show ¬ (nth qC.z m.f6 d.f5).f0≠d.f4 from fun e=>e hs)]
   by_cases hp:(nth qC.z m.f6 d.f5).f1=[]
   ·rw [if_pos hp,if_pos (show (((nth qC.z m.f6 d.f5).f1).length:Int)=0 by rw [hp]; rfl)]
   ·rw [if_neg hp,if_neg (show ¬ (((nth qC.z m.f6 d.f5).f1).length:Int)=0 from fun e=>hp (List.eq_nil_of_length_eq_zero (by omega)))]
    rfl
  ·rw [if_neg hs,if_pos (show (nth qC.z m.f6 d.f5).f0≠d.f4 from hs)]
 ·rw [if_neg hg,if_neg (fun e=>hg ⟨(oT e).1,by have:=(oT e).2; omega⟩)]
theorem heldT(m:qE)(h:May m)(d:qF):Ev (fun k=>qy.f k m.f5 d) (m.f5.any (fun t=>decide (d.f1 ∈ t.f1))):=by
 obtain ⟨x,hx,hm⟩:=anyG qD.z m.f5 (fun t=>decide (d.f1 ∈ t.f1)) (fun k t=>qBx.f k t d) (fun t ht=>by
  unfold qBx.f
  exact .b (Topo.contains t.f1 d.f1 (by have:=qDd h t ht; omega)) (.c _)) (by have:=qDJ h; omega) (fun k x=>qd.l5 k m.f5 d x) (fun k x=>qd.l5_s k m.f5 d x) m.f5.length 0 (by omega)
 unfold qy.f qd.f
 exact .b hx (.cv hm)
theorem acted{m:qE}(h:May m){b:Nat}(hb:b≤100000)(hP:Pasts b m)(id:Int):Ev (fun k=>qBn.f k m id) (m.f6.any (fun t=>t.f1.any (fun s=>decide (id ∈ s.f1)))):=by
 have hin:∀ t ∈ m.f6,Ev (fun k=>qBf.f k t id) (t.f1.any (fun s=>decide (id ∈ s.f1))):=by
  intro t ht
  obtain ⟨x,hx,hm⟩:=anyG qG.z t.f1 (fun s=>decide (id ∈ s.f1)) (fun k s=>qBa.f k s id) (fun s hs=>by
   unfold qBa.f
   exact .b (Topo.contains s.f1 id (by have:=qDE h t ht s hs; omega)) (.c _)) (by have:=hP t ht; omega) (fun k x=>qZ.l5 k t.f1 id x) (fun k x=>qZ.l5_s k t.f1 id x) t.f1.length 0 (by omega)
  unfold qBf.f qAA.f qZ.f
  exact .b (.b hx (.cv hm)) (.c _)
 obtain ⟨x,hx,hm⟩:=anyG qC.z m.f6 (fun t=>t.f1.any (fun s=>decide (id ∈ s.f1))) (fun k t=>qBf.f k t id) hin (by have:=qDO h; omega) (fun k x=>qa.l5 k m.f6 id x) (fun k x=>qa.l5_s k m.f6 id x) m.f6.length 0 (by omega)
 unfold qBn.f qAB.f qa.f
 exact .b (.b hx (.cv hm)) (.c _)
theorem node{m:qE}(h:May m){b:Nat}(hb:b≤100000)(hP:Pasts b m)(d:qF)(hd:2≤d.f0∧d.f0≤7)(hp:posG (fun n:qA=>n.f0) d.f1 m.f4<m.f4.length)(hq:m.f4[posG (fun n:qA=>n.f0) d.f1 m.f4].f0=d.f1):Ht (fun k=>qAp.f k m ((posG (fun n:qA=>n.f0) d.f1 m.f4:Nat):Int) d) (fun R=>Same2 R (nodeL m m.f4[posG (fun n:qA=>n.f0) d.f1 m.f4] d)):=by
 have hn:=h.1.2.2.2.2
 have hl:m.f4.length≤12:=hn.1
 obtain ⟨p,hpe⟩:∃ p,posG (fun n:qA=>n.f0) d.f1 m.f4=p:=⟨_,rfl⟩
 have hput:∀ n:qA,n.f0=d.f1→putN n m.f4=m.f4.set p n:=fun n e=>by
  have:=(qHd n m.f4 hn.up).1
  rw [e,hpe]at this
  simp only [hpe]at hp hq
  exact this ⟨hp,hq⟩
 have hdrop:=qHe d.f1 m.f4 hn.up ⟨hp,hq⟩
 simp only [hpe]at hp hq hdrop ⊢
 have same:∀(b:Bool)(l:List qA),l=putN (if b then m.f4[p] else m.f4[p]) m.f4→True:=fun _ _ _=>trivial
 unfold qAp.f nodeL
 rw [nth_get _ _ _ hp,tN]
 refine .t (by omega) ?_
 by_cases h2:d.f0=2
 ·rw [if_pos h2]
  refine .t h2 (.o (min' d.f4 0 65536) ?_)
  by_cases hw:0≤d.f4∧d.f4≤65536
  ·rw [if_pos hw]
   refine .t (dT hw) ?_
   by_cases he:m.f4[p].f3=d.f4
   ·simp only [if_pos he]
    exact .c (err2 m m 7 (by decide))
   ·simp only [if_neg he]
    refine .c ?_
    rw [hput ⟨m.f4[p].f0,m.f4[p].f1,m.f4[p].f2,d.f4,m.f4[p].f4,m.f4[p].f5⟩ hq]
    exact Same2.refl _
  ·rw [if_neg hw]
   exact .n (fun e=>hw (oT e)) (.c (err2 m m 1 (by decide)))
 ·rw [if_neg h2]
  refine .n h2 ?_
  have e3:(d.f0 == 3)=decide (d.f0=3):=by rw [Bool.eq_iff_iff,beq_iff_eq,decide_eq_true_eq]
  have e4:(d.f0 == 4)=decide (d.f0=4):=by rw [Bool.eq_iff_iff,beq_iff_eq,decide_eq_true_eq]
  have e6:(d.f0 == 6)=decide (d.f0=6):=by rw [Bool.eq_iff_iff,beq_iff_eq,decide_eq_true_eq]
  have j103:∀ y:Bool,y=decide (m.f4[p].f4=true∨(m.f4[p].f5=true∧m.f4[p].f3>0)∨held m d.f1=true)→Ht (fun k=>qAp.j103 k m (p:Int) y) (fun R=>Same2 R (if m.f4[p].f4=true∨(m.f4[p].f5=true∧m.f4[p].f3>0)∨held m d.f1=true then (m,11) else (withN m (dropN d.f1 m.f4),0))):=by
   intro y hy
   refine .s (qAp.j103_s · _ _ _) ?_
   by_cases hc:m.f4[p].f4=true∨(m.f4[p].f5=true∧m.f4[p].f3>0)∨held m d.f1=true
   ·rw [if_pos hc]
    exact .t (hy.trans (dT hc)) (.c (err2 m m 11 (by decide)))
   ·rw [if_neg hc]
    have ed:qAi.f m.f4 (p:Int) (w64 ((p:Int)+1))=some (dropN d.f1 m.f4):=by
     unfold qAi.f
     rw [w64n _ (by omega),if_pos (by omega),tN,tN,hdrop]
    exact .n (by rw [hy,dF hc]; decide) (.o ed (.c (Same2.refl _)))
  have j64:∀ y:Bool,y=decide (d.f0=5∨d.f0=6)→¬ (d.f0=3∨d.f0=4)→Ht (fun k=>qAp.j64 k m (p:Int) d y) (fun R=>Same2 R (if d.f0=5∨d.f0=6 then (if m.f4[p].f5=decide (d.f0=6) then (m,7) else (withN m (putN ⟨m.f4[p].f0,m.f4[p].f1,m.f4[p].f2,m.f4[p].f3,m.f4[p].f4,decide (d.f0=6)⟩ m.f4),0)) else if m.f4[p].f4=true∨(m.f4[p].f5=true∧m.f4[p].f3>0)∨held m d.f1=true then (m,11) else (withN m (dropN d.f1 m.f4),0))):=by
   intro y hy h34
   refine .s (qAp.j64_s · _ _ _ _) ?_
   rw [nth_get _ _ _ hp,tN,e6]
   by_cases h56:d.f0=5∨d.f0=6
   ·rw [if_pos h56]
    refine .t (hy.trans (dT h56)) ?_
    by_cases he:m.f4[p].f5=decide (d.f0=6)
    ·simp only [if_pos he]
     exact .c (err2 m m 7 (by decide))
    ·simp only [if_neg he]
     refine .c ?_
     rw [hput ⟨m.f4[p].f0,m.f4[p].f1,m.f4[p].f2,m.f4[p].f3,m.f4[p].f4,decide (d.f0=6)⟩ hq]
     exact Same2.refl _
   ·rw [if_neg h56]
    refine .n (by rw [hy,dF h56]; decide) (.e (heldT m h d) ?_)
    by_cases c4:m.f4[p].f4=true
    ·exact .t c4 (j103 true (dT (.inl c4)).symm)
    ·refine .n c4 ?_
     have hrest:∀ y:Bool,(¬ (m.f4[p].f5=true∧m.f4[p].f3>0))→y=held m d.f1→y=decide (m.f4[p].f4=true∨(m.f4[p].f5=true∧m.f4[p].f3>0)∨held m d.f1=true):=by
      intro y h1 h2
      rw [h2,Bool.eq_iff_iff,decide_eq_true_eq]
      exact ⟨fun q=>.inr (.inr q),fun q=>(q.resolve_left c4).resolve_left h1⟩
     have hlast:(¬ (m.f4[p].f5=true∧m.f4[p].f3>0))→Ht (fun k=>if m.f5.any (fun t=>decide (d.f1 ∈ t.f1))=true then qAp.j103 k m (p:Int) true else (qBn.f k m d.f1).bind fun t96=>qAp.j103 k m (p:Int) t96) (fun R=>Same2 R (if m.f4[p].f4=true∨(m.f4[p].f5=true∧m.f4[p].f3>0)∨held m d.f1=true then (m,11) else (withN m (dropN d.f1 m.f4),0))):=by
      intro h1
      by_cases ht:m.f5.any (fun t=>decide (d.f1 ∈ t.f1))=true
      ·refine .t ht (j103 true (hrest true h1 ?_))
       unfold held
       rw [ht]
       rfl
      ·refine .n ht (.e (acted h hb hP d.f1) (j103 _ (hrest _ h1 ?_)))
       unfold held
       rw [eq_false_of_ne_true ht]
       rfl
     by_cases c5:m.f4[p].f5=true
     ·refine .t c5 ?_
      by_cases c3:m.f4[p].f3>0
      ·exact .t c3 (j103 true (dT (.inr (.inl ⟨c5,c3⟩))).symm)
      ·exact .n c3 (hlast (fun e=>c3 e.2))
     ·exact .n c5 (hlast (fun e=>c5 e.1))
  have j45:∀ y:Bool,y=decide (d.f0=3∨d.f0=4)→Ht (fun k=>qAp.j45 k m (p:Int) d y) (fun R=>Same2 R (if d.f0=3∨d.f0=4 then (if m.f4[p].f4=decide (d.f0=3) then (m,7) else (withN m (putN ⟨m.f4[p].f0,m.f4[p].f1,m.f4[p].f2,m.f4[p].f3,decide (d.f0=3),m.f4[p].f5⟩ m.f4),0)) else if d.f0=5∨d.f0=6 then (if m.f4[p].f5=decide (d.f0=6) then (m,7) else (withN m (putN ⟨m.f4[p].f0,m.f4[p].f1,m.f4[p].f2,m.f4[p].f3,m.f4[p].f4,decide (d.f0=6)⟩ m.f4),0)) else if m.f4[p].f4=true∨(m.f4[p].f5=true∧m.f4[p].f3>0)∨held m d.f1=true then (m,11) else (withN m (dropN d.f1 m.f4),0))):=by
   intro y hy
   refine .s (qAp.j45_s · _ _ _ _) ?_
   rw [nth_get _ _ _ hp,tN,e3]
   by_cases h34:d.f0=3∨d.f0=4
   ·rw [if_pos h34]
    refine .t (hy.trans (dT h34)) ?_
    by_cases he:m.f4[p].f4=decide (d.f0=3)
    ·simp only [if_pos he]
     exact .c (err2 m m 7 (by decide))
    ·simp only [if_neg he]
     refine .c ?_
     rw [hput ⟨m.f4[p].f0,m.f4[p].f1,m.f4[p].f2,m.f4[p].f3,decide (d.f0=3),m.f4[p].f5⟩ hq]
     exact Same2.refl _
   ·rw [if_neg h34]
    refine .n (by rw [hy,dF h34]; decide) ?_
    by_cases h5:d.f0=5
    ·exact .t h5 (j64 true (dT (.inl h5)).symm h34)
    ·refine .n h5 (j64 _ ?_ h34)
     rw [e6,decide_eq_decide]
     exact ⟨.inr,fun q=>q.resolve_left h5⟩
  by_cases h3:d.f0=3
  ·exact .t h3 (j45 true (dT (.inl h3)).symm)
  ·refine .n h3 (j45 _ ?_)
   rw [e4,decide_eq_decide]
   exact ⟨.inr,fun q=>q.resolve_left h3⟩
theorem turned{m:qE}(h:May m){b:Nat}(hb:b≤100000)(hP:Pasts b m)(d:qF)(hd:1≤d.f0∧d.f0≤10):Ht (fun k=>qBq.f k m d) (fun R=>Same2 R (qJI m d)):=by
 unfold qBq.f qJI
 by_cases h1:d.f0=1
 ·rw [if_pos h1]
  exact .t h1 (.b (add h d) (fun a q=>.c q))
 ·rw [if_neg h1]
  refine .n h1 ?_
  by_cases h8:d.f0=8
  ·rw [if_pos h8]
   exact .t h8 (.b (pin h d) (fun a q=>.c q))
  ·rw [if_neg h8]
   refine .n h8 ?_
   by_cases h9:d.f0=9
   ·simp only [if_pos h9]
    exact .c (Same2.refl _)
   ·simp only [if_neg h9]
    by_cases h10:d.f0=10
    ·rw [if_pos h10]
     exact .t h10 (.o (cleaned h d) (.c (Same2.refl _)))
    ·rw [if_neg h10]
     refine .n h10 (.e (at_ h d.f1) ?_)
     rcases foundAt h d.f1 with ⟨hp,q1,q2,q3⟩ | ⟨q2,q3⟩
     ·rw [q3]
      exact .t q2 (.b (node h hb hP d (by omega) hp q1) (fun a q=>.c q))
     ·rw [q3]
      exact .n (by rw [q2]; decide) (.c (err2 m m 5 (by decide)))
theorem qDK{m:qE}{b:Nat}(hP:Pasts b m)(d:qF):Pasts b (qJI m d).1:=by
 have key:∀ x:qE,x.f6=m.f6→Pasts b x:=fun x e t ht=>hP t (e ▸ ht)
 unfold qJI
 split
 ·unfold addL
  split
  ·exact hP
  ·split
   ·exact hP
   ·split
    ·exact key _ rfl
    ·exact hP
 ·split
  ·unfold pinL
   split
   ·split
    ·exact hP
    ·split
     ·exact key _ rfl
     ·exact hP
   ·exact hP
  ·split
   ·exact hP
   ·split
    ·unfold cleanL
     split
     ·split
      ·exact hP
      ·split
       ·exact hP
       ·intro t ht
        rcases List.mem_or_eq_of_mem_set ht with ht | rfl
        ·exact hP t ht
        ·exact Nat.zero_le _
     ·exact hP
    ·split
     ·unfold nodeL
      repeat' split
      all_goals first | exact hP | exact key _ rfl
     ·exact hP
theorem qDT{m:qE}{b:Nat}(hP:Pasts b m)(d:qF):Pasts (b+1) (qJN m d).1:=by
 have hw:Pasts (b+1) m:=fun t ht=>Nat.le_succ_of_le (hP t ht)
 unfold qJN
 split
 ·split
  ·exact hw
  ·split
   ·intro t ht
    have ht:t ∈ qJK m (qJI m d).1:=ht
    unfold qJK at ht
    obtain ⟨i,hi,rfl⟩:=List.mem_mapIdx.1 ht
    have hT:=qDK hP d _ (gM hi)
    unfold followT
    split
    ·omega
    ·show (if m.f2≤((actL m i).length:Int) then _ else _:List qG).length≤_
     split
     ·rw [lA]
      have:=List.length_filter_le (fun s:qG => !decide (s.f1=rising (actL m i))) (qJI m d).1.f6[i].f1
      show _+1≤_
      omega
     ·omega
   ·exact hw
 ·exact hw
def noMap:qE:=⟨0,0,0,0,[],[],[]⟩
theorem apply(m:qE)(hm:Small m)(d:qF){b:Nat}(hb:b≤100000)(hP:Pasts b m):Ev (fun k=>qBG.f k m d) (if May m then qJN m d else (noMap,1)):=by
 unfold qBG.f
 refine .b (check m hm) ?_
 by_cases h:May m
 ·rw [if_pos h,dT h]
  have ho:=own (h.sized hb hP)
  have hf0:=h.1.1
  have j21:∀ y:Bool,(y=true↔¬ ((1≤d.f0∧d.f0≤10)∧bareD d))→Ev (fun k=>qBG.j21 k m d y) (qJN m d):=by
   intro y hy
   refine .s (qBG.j21_s · _ _ _) ?_
   unfold qJN
   by_cases hc:(1≤d.f0∧d.f0≤10)∧bareD d
   ·rw [if_pos hc]
    refine .n (fun e=>hy.1 e hc) ?_
    by_cases he:m.f0=2147483647
    ·rw [if_pos he]
     exact .t he (.b ho (.c _))
    ·rw [if_neg he]
     obtain ⟨R,hR,hs⟩:=turned h hb hP d hc.1
     refine .n he (.b ho (.b hR ?_))
     by_cases h0:(qJI m d).2=0
     ·rw [if_pos h0]
      refine .t (hs.1.trans h0) ?_
      rw [hs.2 h0]
      have hT:=qDS (m:=m) (d:=d)
      refine .b (followed h (qDl h h0) (by omega) hb (qDK hP d)) (.cv ?_)
      rw [hT.1,hT.2.1,hT.2.2.1,hT.2.2.2,qCe (by omega) (by omega)]
     ·rw [if_neg h0]
      exact .n (fun e=>h0 (hs.1.symm.trans e)) (.b ho (.cv (by rw [hs.1])))
   ·rw [if_neg hc]
    exact .t (hy.2 hc) (.b ho (.c _))
  refine .t rfl ?_
  by_cases c1:d.f0<1
  ·exact .t c1 (j21 true ⟨fun _ q=>by omega,fun _=>rfl⟩)
  ·refine .n c1 ?_
   by_cases c2:d.f0≥11
   ·exact .t c2 (j21 true ⟨fun _ q=>by omega,fun _=>rfl⟩)
   ·refine .n c2 (.b0 (bare d) (j21 _ ?_))
    by_cases hb:bareD d
    ·rw [dT hb]
     exact ⟨fun e=>Bool.noConfusion e,fun q=>absurd ⟨⟨by omega,by omega⟩,hb⟩ q⟩
    ·rw [dF hb]
     exact ⟨fun _ q=>hb q.2,fun _=>rfl⟩
 ·rw [if_neg h,dF h]
  exact .n (by decide) (.c _)
def bareOf(d:qF):qF :=
 if d.f0=1 then ⟨d.f0,d.f1,d.f2,d.f3,d.f4,0,[]⟩ else if d.f0=2 then ⟨d.f0,d.f1,0,0,d.f4,0,[]⟩ else if d.f0=8 then ⟨d.f0,0,0,0,0,d.f5,d.f6⟩ else if d.f0=9 then ⟨d.f0,0,0,0,0,0,[]⟩ else if d.f0=10 then ⟨d.f0,0,0,0,d.f4,d.f5,[]⟩ else ⟨d.f0,d.f1,0,0,0,0,[]⟩
theorem rbare(d:qF):qBP.f d=some (bareOf d):=by
 unfold qBP.f bareOf
 repeat' split
 all_goals rfl
theorem qGN(a b:qF):a=b↔(a.f0=b.f0∧a.f1=b.f1∧a.f2=b.f2∧a.f3=b.f3∧a.f4=b.f4∧a.f5=b.f5∧a.f6=b.f6):=by
 cases a; cases b
 simp only [qF.mk.injEq]
theorem qEb(d:qF):d=bareOf d↔bareD d:=by
 rw [qGN]
 unfold bareOf bareD
 by_cases h1:d.f0=1
 ·simp only [if_pos h1]; simp
 ·simp only [if_neg h1]
  by_cases h2:d.f0=2
  ·simp only [if_pos h2]; simp
  ·simp only [if_neg h2]
   by_cases h8:d.f0=8
   ·rw [if_pos h8,if_neg (show ¬ d.f0=10 by omega),if_pos h8]; simp
   ·rw [if_neg h8]
    by_cases h10:d.f0=10
    ·rw [if_neg (show ¬ d.f0=9 by omega),if_pos h10,if_pos h10]; simp
    ·rw [if_neg h10,if_neg h10,if_neg h8]
     by_cases h9:d.f0=9
     ·rw [if_pos h9]
      simp only [h9,true_and,forall_const]
      constructor
      ·rintro ⟨a,b,c,e,f,g⟩
       exact ⟨⟨b,c,e,f,g⟩,a⟩
      ·rintro ⟨⟨b,c,e,f,g⟩,a⟩
       exact ⟨a,b,c,e,f,g⟩
     ·rw [if_neg h9]
      simp [h9]
theorem rdeltas(a b:qF)(ha:a.f6.length<4611686018427387904):Ev (fun k=>qAq.f k a b) (decide (a=b)):=by
 have no:¬ a=b→∀ f:Nat→Option Bool,Ev f false→Ev f (decide (a=b)):=fun h f hf=>hf.v (dF h).symm
 unfold qAq.f
 refine .i (fun c0=>.i (fun c1=>.i (fun c2=>.i (fun c3=>.i (fun c4=>.i (fun c5=>.b (ints _ _ ha) (.cv ?_)) (fun c=>.cv ?_)) (fun c=>.cv ?_)) (fun c=>.cv ?_)) (fun c=>.cv ?_)) (fun c=>.cv ?_)) (fun c=>.cv ?_)
 ·rw [decide_eq_decide,qGN]
  exact ⟨fun e=>⟨c0,c1,c2,c3,c4,c5,e⟩,fun e=>e.2.2.2.2.2.2⟩
 all_goals exact (dF (fun e=>c (by rw [e]))).symm
theorem qHg{a b:List Int}(ha:a.Pairwise (fun x y=>x≤y))(hb:b.Pairwise (fun x y=>x≤y))(h:a.Perm b):a=b:=List.Perm.eq_of_pairwise (le:=fun x y:Int=>x≤y) (fun x y _ _ h1 h2=>Int.le_antisymm h1 h2) ha hb h
theorem qHh(xs:List Int):(rising xs).Pairwise (fun a b=>a≤b):=(qCm swI xs fun _ _=>trivial).imp fun h=>by
 have:=of_decide_eq_false h
 omega
theorem rrising(l:List Int)(hl:l.length≤1000000):Ev (fun k=>qh.f k l) (rising l):=by
 have go:∀(d i:Nat)(q:List Int),i+d=l.length→q.length=i→q.Pairwise (fun a b=>a≤b)→q.Perm (l.take i)→Ev (fun k=>qh.l15 k l q (i:Int)) (rising l):=by
  intro d
  induction d with
  | zero =>
   intro i q hi hq hs hp
   refine .s (qh.l15_s · _ _ _) (.n (by omega) (.cv ?_))
   rw [List.take_of_length_le (by omega)]at hp
   exact qHg hs (qHh l) (hp.trans (qCl _ l).symm)
  | succ d ih =>
   intro i q hi hq hs hp
   have h1:i<l.length:=by omega
   have j45:∀(n:Nat),n≤q.length→(∀ j (hj:j<q.length),n≤j→l[i] < q[j])→(∀ j (hj:j<q.length),j<n→q[j]≤l[i])→Ev (fun k=>qh.j45 k l q (i:Int) (n:Int) false) (rising l):=by
    intro n hn ha hb
    refine .s (qh.j45_s · _ _ _ _ _) (.n nF (.t (by omega) (.t (by omega) ?_)))
    have hc1:cutl q 0 (n:Int)=q.take n:=by unfold cutl; rw [tN]; rfl
    have hc2:cutl q (n:Int) (q.length:Int)=q.drop n:=by unfold cutl; rw [tN,tN,List.take_of_length_le (Nat.le_refl _)]
    have e1:(q.take n).length=n:=by rw [List.length_take]; omega
    have e2:(q.drop n).length=q.length - n:=List.length_drop
    rw [hc1,hc2,nth_get _ _ _ h1,w64n i (by omega),List.nil_append]
    refine .t ?_ (.t ?_ (.t ?_ ?_))
    ·rw [e1]
     show (((0:Nat):Int)+(n:Int)) * 8≤140737488355328
     omega
    ·rw [e1]
     omega
    ·rw [lA,e1,e2]
     show (((n+1:Nat):Int)+((q.length - n:Nat):Int)) * 8≤140737488355328
     omega
    refine ih (i+1) _ (by omega) ?_ ?_ ?_
    ·rw [lA,lA,e1,e2]
     show n+1+_=_
     omega
    ·have hs':=hs
     rw [← List.take_append_drop n q]at hs'
     obtain ⟨p1,p2,p3⟩:=List.pairwise_append.1 hs'
     have mt:∀ x ∈ q.take n,x≤l[i]:=fun x hx=>by
      obtain ⟨j,hj,rfl⟩:=List.getElem_of_mem hx
      rw [List.getElem_take]
      exact hb j (by omega) (by omega)
     have md:∀ x ∈ q.drop n,l[i] < x:=fun x hx=>by
      obtain ⟨j,hj,rfl⟩:=List.getElem_of_mem hx
      rw [List.getElem_drop]
      exact ha (n+j) (by rw [e2]at hj; omega) (by omega)
     refine List.pairwise_append.2 ⟨List.pairwise_append.2 ⟨p1,List.pairwise_singleton _ _,fun x hx y hy=>?_⟩,p2,fun x hx y hy=>?_⟩
     ·rw [List.mem_singleton.1 hy]
      exact mt x hx
     ·rcases List.mem_append.1 hx with hx | hx
      ·exact p3 x hx y hy
      ·rw [List.mem_singleton.1 hx]
       exact Int.le_of_lt (md y hy)
    ·rw [← List.take_append_getElem h1,List.append_assoc]
     have:(q.take n++([l[i]]++q.drop n)).Perm (q++[l[i]]):=by
      refine ((List.perm_append_comm).append_left _).trans ?_
      rw [← List.append_assoc,List.take_append_drop]
     exact this.trans (hp.append_right _)
   have l26:∀(n:Nat),n≤q.length→(∀ j (hj:j<q.length),n≤j→l[i] < q[j])→Ev (fun k=>qh.l26 k l q (i:Int) (n:Int)) (rising l):=by
    intro n
    induction n with
    | zero =>
     intro hn ha
     exact .s (qh.l26_s · _ _ _ _) (.n (by omega) (j45 0 hn ha (fun j _ h=>absurd h (by omega))))
    | succ n ihn =>
     intro hn ha
     have hq1:n<q.length:=by omega
     refine .s (qh.l26_s · _ _ _ _) (.t (by omega) ?_)
     rw [w64p (n+1) (by omega) (by omega),show n+1 - 1=n by omega]
     refine .t (by omega) (.t (by omega) ?_)
     rw [nth_get _ _ _ hq1,nth_get _ _ _ h1]
     by_cases hc:q[n] > l[i]
     ·rw [dT hc]
      refine .s (qh.j45_s · _ _ _ _ _) (.t rfl ?_)
      rw [w64p (n+1) (by omega) (by omega),show n+1 - 1=n by omega]
      refine ihn (by omega) (fun j hj hnj=>?_)
      rcases Nat.eq_or_lt_of_le hnj with rfl | h
      ·exact hc
      ·exact ha j hj h
     ·rw [dF hc]
      refine j45 (n+1) hn ha (fun j hj hjn=>?_)
      rcases Nat.eq_or_lt_of_le (Nat.le_of_lt_succ hjn) with rfl | h
      ·omega
      ·have:=List.pairwise_iff_getElem.1 hs j n hj hq1 h
       omega
   refine .s (qh.l15_s · _ _ _) (.t (by omega) ?_)
   exact l26 q.length (Nat.le_refl _) (fun j hj h=>absurd hj (by omega))
 unfold qh.f
 exact go l.length 0 [] (Nat.zero_add _) rfl List.Pairwise.nil (List.Perm.refl _)
theorem rfollow(t:qC)(was now:List Int)(least epoch:Int)(hw:was.length≤1000)(ht:t.f1.length≤1000000)(hs:∀ s ∈ t.f1,s.f1.length≤1000):Ev (fun k=>qj.f k t was now least epoch) (followT t was now least epoch):=by
 have go:∀(d i:Nat)(acc:List qG),i+d=t.f1.length→acc.length≤i→¬ was=now →
   Ev (fun k=>qj.l27 k t was least epoch acc (i:Int)) (⟨epoch,if least≤(was.length:Int) then (acc++(t.f1.drop i).filter (fun s => !decide (s.f1=rising was)))++[⟨t.f0,rising was⟩] else acc++t.f1.drop i⟩:qC):=by
  intro d
  induction d with
  | zero =>
   intro i acc hi ha hne
   rw [List.drop_eq_nil_of_le (by omega),List.filter_nil,List.append_nil]
   refine .s (qj.l27_s · _ _ _ _ _ _) (.n (by omega) ?_)
   by_cases hc:least≤(was.length:Int)
   ·rw [if_pos hc]
    exact .t hc (.b (rrising was (by omega)) (.t (by omega) (.s (qj.j106_s · _ _) (.c _))))
   ·rw [if_neg hc]
    exact .n hc (.s (qj.j106_s · _ _) (.c _))
  | succ d ih =>
   intro i acc hi ha hne
   have h1:i<t.f1.length:=by omega
   refine .s (qj.l27_s · _ _ _ _ _ _) (.t (by omega) ?_)
   have keep:∀ v,Ev (fun k=>qj.l27 k t was least epoch (acc++[t.f1[i]]) ((i+1:Nat):Int)) v→Ev (fun k=>qj.j58 k t was least epoch acc (i:Int) true) v:=by
    intro v hv
    refine .s (qj.j58_s · _ _ _ _ _ _ _) (.t rfl (.t (by omega) (.t (by omega) ?_)))
    rw [nth_get _ _ _ h1,w64n i (by omega)]
    exact hv
   have hnx:=ih (i+1) (acc++[t.f1[i]]) (by omega) (by rw [lA]; show acc.length+1≤_; omega) hne
   by_cases hc:least≤(was.length:Int)
   ·rw [if_pos hc,List.drop_eq_getElem_cons h1]at *
    refine .n (by omega) (.t (by omega) (.b (rrising was (by omega)) ?_))
    rw [nth_get _ _ _ h1]
    refine .b (ints _ _ (by have:=hs _ (gM h1); omega)) ?_
    by_cases he:t.f1[i].f1=rising was
    ·rw [dT he,List.filter_cons_of_neg (by simp [he])]
     refine .s (qj.j58_s · _ _ _ _ _ _ _) (.n nF ?_)
     rw [w64n i (by omega)]
     have:=ih (i+1) acc (by omega) (by omega) hne
     rw [if_pos hc]at this
     exact this
    ·rw [dF he,List.filter_cons_of_pos (by simp [he])]
     refine keep _ (hnx.v ?_)
     rw [List.append_assoc acc]
     rfl
   ·rw [if_neg hc]at *
    refine .t (by omega) (keep _ (hnx.v ?_))
    rw [List.drop_eq_getElem_cons h1,List.append_assoc]
    rfl
 unfold qj.f followT
 refine .b (ints _ _ (by omega)) ?_
 by_cases he:was=now
 ·rw [if_pos he]
  exact .t (dT he) (.c _)
 ·rw [if_neg he]
  refine .n (fun e=>he (oT e)) ((go t.f1.length 0 [] (Nat.zero_add _) (Nat.le_refl _) he).v ?_)
  rw [List.drop_zero,List.nil_append,List.nil_append]
theorem qFQ{id:Int}{r:List qA}(h:∀ y ∈ r,y.f0≠id):dropN id r=r:=List.filter_eq_self.2 (fun y hy=>by simpa using h y hy)
theorem rput(l:List qA)(n:qA)(hl:l.length≤1000)(hp:l.Pairwise (fun x y=>x.f0<y.f0))(drop:Bool):Ev (fun k=>qm.f k l n drop) (if drop=true then dropN n.f0 l else putN n l):=by
 have j56:∀(i:Nat)(hi:i<l.length)(acc:List qA)(y:Bool)(v:List qA),acc.length≤3 * i+1 →
   (l[i].f0=n.f0→Ev (fun k=>qm.l18 k l n acc y ((i+1:Nat):Int)) v)→(l[i].f0≠n.f0→Ev (fun k=>qm.l18 k l n (acc++[l[i]]) y ((i+1:Nat):Int)) v)→Ev (fun k=>qm.j56 k l n (i:Int) acc y) v:=by
  intro i hi acc y v ha h1 h2
  refine .s (qm.j56_s · _ _ _ _ _) (.t (by omega) ?_)
  rw [nth_get _ _ _ hi,w64n i (by omega)]
  exact .i (fun c=>h1 c) (fun c=>.t (by omega) (h2 c))
 have go:∀(d i:Nat)(acc:List qA)(y:Bool),i+d=l.length→acc.length≤3 * i→Ev (fun k=>qm.l18 k l n acc y (i:Int)) (acc++if y=true then dropN n.f0 (l.drop i) else putN n (l.drop i)):=by
  intro d
  induction d with
  | zero =>
   intro i acc y hi ha
   rw [List.drop_eq_nil_of_le (by omega)]
   refine .s (qm.l18_s · _ _ _ _ _) (.n (by omega) ?_)
   cases y with
   | true=>exact .t rfl (.cv (List.append_nil _).symm)
   | false=>exact .n nF (.t (by omega) (.c _))
  | succ d ih =>
   intro i acc y hi ha
   have h1:i<l.length:=by omega
   have hd:=List.drop_eq_getElem_cons h1
   have hup:∀ x ∈ l.drop (i+1),l[i].f0<x.f0:=fun x hx=>by
    obtain ⟨j,hj,rfl⟩:=List.getElem_of_mem hx
    rw [List.getElem_drop]
    exact List.pairwise_iff_getElem.1 hp i (i+1+j) h1 (by rw [List.length_drop]at hj; omega) (by omega)
   refine .s (qm.l18_s · _ _ _ _ _) (.t (by omega) ?_)
   cases y with
   | true =>
    refine .t rfl (.s (qm.j36_s · _ _ _ _ _ _) (.n nF (j56 i h1 acc true _ (by omega) (fun c=>(ih (i+1) acc true (by omega) (by omega)).v ?_) (fun c=>(ih (i+1) (acc++[l[i]]) true (by omega) (by rw [lA]; show acc.length+1≤_; omega)).v ?_))))
    ·rw [if_pos rfl,if_pos rfl,hd]
     unfold dropN
     rw [List.filter_cons_of_neg (by simp [c])]
    ·rw [if_pos rfl,if_pos rfl,hd]
     unfold dropN
     rw [List.filter_cons_of_pos (by simp [c]),List.append_assoc]
     rfl
   | false =>
    refine .n nF (.t (by omega) ?_)
    rw [nth_get _ _ _ h1]
    by_cases hc:l[i].f0≥n.f0
    ·rw [dT hc]
     refine .s (qm.j36_s · _ _ _ _ _ _) (.t rfl (.t (by omega) (j56 i h1 (acc++[n]) true _ (by rw [lA]; show acc.length+1≤_; omega) (fun c=>(ih (i+1) (acc++[n]) true (by omega) (by rw [lA]; show acc.length+1≤_; omega)).v ?_) (fun c=>(ih (i+1) (acc++[n]++[l[i]]) true (by omega) (by rw [lA,lA]; show acc.length+1+1≤_; omega)).v ?_))))
     ·rw [if_pos rfl,if_neg nF,hd,putN,if_neg (by omega),if_pos c,qFQ (fun y hy=>by have:=hup y hy; omega),List.append_assoc]
      rfl
     ·rw [if_pos rfl,if_neg nF,hd,putN,if_neg (by omega),if_neg c,qFQ (fun y hy=>by have:=hup y hy; omega),List.append_assoc,List.append_assoc]
      rfl
    ·rw [dF hc]
     refine .s (qm.j36_s · _ _ _ _ _ _) (.n nF (j56 i h1 acc false _ (by omega) (fun c=>absurd c (by omega)) (fun c=>(ih (i+1) (acc++[l[i]]) false (by omega) (by rw [lA]; show acc.length+1≤_; omega)).v ?_)))
     rw [if_neg nF,if_neg nF,hd,putN,if_pos (by omega),List.append_assoc]
     rfl
 unfold qm.f
 refine (go l.length 0 [] drop (Nat.zero_add _) (Nat.le_refl _)).v ?_
 rw [List.drop_zero,List.nil_append]
theorem qFR{m:qE}(h:May m){t:qD}(ht:t ∈ m.f5):qJL m t.f0=t.f1:=by
 have hs:=((qCj m _ _).1 h.2.1).2.1
 unfold qJL
 cases hf:m.f5.find? (fun c=>decide (c.f0=t.f0)) with
 | none =>
  have:=List.find?_eq_none.1 hf t ht
  simp at this
 | some c =>
  have h1:=List.mem_of_find?_eq_some hf
  have h2:=oT (List.find?_some (p:=fun c:qD=>decide (c.f0=t.f0)) hf)
  obtain ⟨i,hi,rfl⟩:=List.getElem_of_mem h1
  obtain ⟨j,hj,rfl⟩:=List.getElem_of_mem ht
  rw [List.pairwise_iff_getElem]at hs
  rcases Nat.lt_trichotomy i j with q | q | q
  ·have:=hs i j hi hj q
   omega
  ·subst q
   rfl
  ·have:=hs j i hj hi q
   omega
theorem qDq{m:qE}{g:Int}(hg:qJL m g≠[]):(⟨g,qJL m g⟩:qD) ∈ m.f5:=by
 unfold qJL at hg ⊢
 cases hf:m.f5.find? (fun c=>decide (c.f0=g)) with
 | none=>rw [hf]at hg; exact absurd rfl hg
 | some c =>
  have h1:=List.mem_of_find?_eq_some hf
  have h2:=oT (List.find?_some (p:=fun c:qD=>decide (c.f0=g)) hf)
  subst h2
  exact h1
def pinG(m:qE)(d:qF)(g:Int):List Int:=if g=d.f5 then d.f6 else qJL m g
def pinR(m:qE)(d:qF):Nat→Nat→List qD
 | _,0=>[]
 | g,n+1=>(if pinG m d g=[] then [] else [(⟨g,pinG m d g⟩:qD)])++pinR m d (g+1) n
theorem qGO(m:qE)(d:qF):∀(n g:Nat)(x:qD),x ∈ pinR m d g n↔((g:Int)≤x.f0∧x.f0<((g+n:Nat):Int))∧x.f1=pinG m d x.f0∧x.f1≠[]:=by
 intro n
 induction n with
 | zero=>exact fun g x=>⟨fun h=>(nomatch h),fun h=>absurd h.1 (by omega)⟩
 | succ n ih =>
  intro g x
  have e:x ∈ pinR m d g (n+1)↔x ∈ (if pinG m d g=[] then [] else [(⟨g,pinG m d g⟩:qD)])∨x ∈ pinR m d (g+1) n:=List.mem_append
  rw [e,ih (g+1) x]
  by_cases hx:x.f0=g
  ·by_cases hc:pinG m d g=[]
   ·rw [if_pos hc,hx]
    exact ⟨fun h=>(h.resolve_left (fun h=>(nomatch h))).elim (fun a b=>absurd a (by omega)),fun h=>absurd (h.2.1.trans hc) h.2.2⟩
   ·rw [if_neg hc,List.mem_singleton]
    constructor
    ·rintro (rfl | h)
     ·exact ⟨⟨Int.le_refl _,by show (g:Int)<_; omega⟩,rfl,hc⟩
     ·exact absurd h.1 (by omega)
    ·intro h
     refine .inl ?_
     obtain ⟨a,b⟩:=x
     obtain rfl:a=g:=hx
     rw [show b=pinG m d g from h.2.1]
  ·have hn:x ∉ (if pinG m d g=[] then [] else [(⟨g,pinG m d g⟩:qD)]):=by
    split
    ·exact fun h=>(nomatch h)
    ·intro h
     rw [List.mem_singleton]at h
     exact hx (by rw [h])
   constructor
   ·rintro (h | h)
    ·exact absurd h hn
    ·exact ⟨by omega,h.2⟩
   ·intro h
    exact .inr ⟨by omega,h.2⟩
theorem qIz(m:qE)(d:qF):∀(n g:Nat),(pinR m d g n).Pairwise (fun x y=>x.f0<y.f0):=by
 intro n
 induction n with
 | zero=>exact fun g=>List.Pairwise.nil
 | succ n ih =>
  intro g
  unfold pinR
  refine List.pairwise_append.2 ⟨?_,ih (g+1),fun x hx y hy=>?_⟩
  ·split
   ·exact List.Pairwise.nil
   ·exact List.pairwise_singleton _ _
  ·have:=((qGO m d n (g+1) y).1 hy).1
   split at hx
   ·nomatch hx
   ·rw [List.mem_singleton.1 hx]
    show (g:Int)<_
    omega
theorem qGP(g:Int)(ns:List Int):∀(l:List qD),l.Pairwise (fun x y=>x.f0<y.f0)→∀(x:qD),x ∈ pinT g ns l↔(x=⟨g,ns⟩∧ns≠[])∨(x ∈ l∧x.f0≠g)
 | [],_,x=>by
  unfold pinT
  split
  ·rename_i h; simp [h]
  ·rename_i h; simp [h]
 | t :: r,hp,x=>by
  obtain ⟨h1,h2⟩:=List.pairwise_cons.1 hp
  unfold pinT
  by_cases hc:t.f0<g
  ·rw [if_pos hc,List.mem_cons,qGP g ns r h2 x,List.mem_cons]
   constructor
   ·rintro (rfl | h | h)
    ·exact .inr ⟨.inl rfl,by omega⟩
    ·exact .inl h
    ·exact .inr ⟨.inr h.1,h.2⟩
   ·rintro (h | ⟨rfl | h,h3⟩)
    ·exact .inr (.inl h)
    ·exact .inl rfl
    ·exact .inr (.inr ⟨h,h3⟩)
  ·rw [if_neg hc,List.mem_append]
   have e1:x ∈ (if ns=[] then [] else [(⟨g,ns⟩:qD)])↔(x=⟨g,ns⟩∧ns≠[]):=by
    split
    ·rename_i h; simp [h]
    ·rename_i h; simp [h]
   have e2:x ∈ (if t.f0=g then r else t :: r)↔(x ∈ t :: r∧x.f0≠g):=by
    by_cases hg:t.f0=g
    ·rw [if_pos hg,List.mem_cons]
     constructor
     ·intro h
      exact ⟨.inr h,by have:=h1 x h; omega⟩
     ·rintro ⟨rfl | h,h3⟩
      ·exact absurd hg h3
      ·exact h
    ·rw [if_neg hg]
     constructor
     ·intro h
      refine ⟨h,?_⟩
      rcases List.mem_cons.1 h with rfl | h
      ·exact hg
      ·have:=h1 x h; omega
     ·exact fun h=>h.1
   rw [e1,e2]
theorem qFS{a b:List qD}(ha:a.Pairwise (fun x y=>x.f0<y.f0))(hb:b.Pairwise (fun x y=>x.f0<y.f0))(h:∀ x,x ∈ a↔x ∈ b):a=b:=by
 have nd:∀ {l:List qD},l.Pairwise (fun x y=>x.f0<y.f0)→l.Nodup:=fun hl=>hl.imp (fun h e=>by rw [e]at h; omega)
 refine List.Perm.eq_of_pairwise (le:=fun x y:qD=>x.f0≤y.f0) (fun x y hx hy h1 h2=>?_) (ha.imp Int.le_of_lt) (hb.imp Int.le_of_lt) ((List.perm_ext_iff_of_nodup (nd ha) (nd hb)).2 h)
 have hy:=(h y).2 hy
 obtain ⟨i,hi,rfl⟩:=List.getElem_of_mem hx
 obtain ⟨j,hj,rfl⟩:=List.getElem_of_mem hy
 rw [List.pairwise_iff_getElem]at ha
 rcases Nat.lt_trichotomy i j with q | q | q
 ·have:=ha i j hi hj q
  omega
 ·subst q
  rfl
 ·have:=ha j i hj hi q
  omega
theorem qJA{m:qE}(h:May m)(d:qF)(hd:0≤d.f5∧d.f5<m.f3){n:Nat}(hn:(n:Int)=m.f3):pinR m d 0 n=pinT d.f5 d.f6 m.f5:=by
 have ht:=(qCj m _ _).1 h.2.1
 refine qFS (qIz m d n 0) (qHY _ _ _ ht.2.1) (fun x=>?_)
 rw [qGO,qGP _ _ _ ht.2.1]
 unfold pinG
 constructor
 ·rintro ⟨hx,h1,h2⟩
  by_cases hg:x.f0=d.f5
  ·rw [if_pos hg]at h1
   obtain ⟨a,b⟩:=x
   exact .inl ⟨by rw [show b=d.f6 from h1,show a=d.f5 from hg],fun e=>h2 (h1.trans e)⟩
  ·rw [if_neg hg]at h1
   refine .inr ⟨?_,hg⟩
   have:=qDq (m:=m) (g:=x.f0) (fun e=>h2 (h1.trans e))
   rw [← h1]at this
   exact this
 ·rintro (⟨rfl,h2⟩ | ⟨hx,hg⟩)
  ·exact ⟨by show (0:Int)≤d.f5∧d.f5<_; omega,(if_pos rfl).symm,h2⟩
  ·have h1:=(ht.1 x hx).1
   rw [if_neg hg]
   exact ⟨by omega,(qFR h hx).symm,fun e=>by rw [e]at h1; exact absurd h1.2.1 (by decide)⟩
theorem rpin{m:qE}(h:May m)(hm:Small m)(d:qF):Ev (fun k=>qt.f k m d) (pinL m d):=by
 have h1:=h.1.2.1
 have h3:=h.1.2.2.2.1
 obtain ⟨N,hN⟩:∃ N:Nat,(N:Int)=m.f3:=⟨m.f3.toNat,by omega⟩
 have hT:∀ g,(qJL m g).length≤3:=fun g=>by
  by_cases e:qJL m g=[]
  ·rw [e]; exact Nat.zero_le _
  ·exact qDd h _ (qDq e)
 have no:Ev (fun k=>qt.j13 k m d true) ((m,1):qE × Int):=.s (qt.j13_s · _ _ _) (.t rfl (.c _))
 unfold qt.f pinL
 by_cases hg:0≤d.f5∧d.f5<m.f3
 ·refine .n (by omega) (.n (by omega) ?_)
  by_cases hs:(d.f6.length:Int)>m.f1
  ·rw [if_neg (by omega),dT hs]
   exact no
  rw [if_pos ⟨hg.1,hg.2,by omega⟩,dF hs]
  refine .s (qt.j13_s · _ _ _) (.n nF (.b (rtemp m hm d.f5) (.b (ints _ _ (by have:=hT d.f5; omega)) ?_)))
  by_cases he:qJL m d.f5=d.f6
  ·rw [if_pos he]
   exact .t (dT he) (.c _)
  ·rw [if_neg he]
   refine .n (fun e=>he (oT e)) (.b (Topo.refapart m.f4 d.f6 hm.h4 (by omega)) ?_)
   by_cases ha:Topo.apartR m.f4 [] d.f6=true
   ·rw [if_pos ha]
    refine .t ha ?_
    have go:∀(n g:Nat)(acc:List qD),g+n=N→acc.length≤g→Ev (fun k=>qt.l57 k m d acc (g:Int)) ((⟨m.f0,m.f1,m.f2,m.f3,m.f4,acc++pinR m d g n,m.f6⟩:qE),0):=by
     intro n
     induction n with
     | zero =>
      intro g acc hgn hacc
      refine .s (qt.l57_s · _ _ _ _) (.n (by omega) (.cv ?_))
      rw [show pinR m d g 0=[] from rfl,List.append_nil]
     | succ n ih =>
      intro g acc hgn hacc
      refine .s (qt.l57_s · _ _ _ _) (.t (by omega) (.b (rtemp m hm g) ?_))
      have j80:Ev (fun k=>qt.j80 k m d acc (g:Int) (pinG m d g)) ((⟨m.f0,m.f1,m.f2,m.f3,m.f4,acc++pinR m d g (n+1),m.f6⟩:qE),0):=by
       refine .s (qt.j80_s · _ _ _ _ _) ?_
       rw [w64n g (by omega),show pinR m d g (n+1)=(if pinG m d g=[] then [] else [(⟨g,pinG m d g⟩:qD)])++pinR m d (g+1) n from rfl]
       by_cases hc:pinG m d g=[]
       ·rw [if_pos hc]
        exact .n (by rw [hc]; decide) (ih (g+1) acc (by omega) (by omega))
       ·rw [if_neg hc]
        have hpos:0<(pinG m d g).length:=List.length_pos_iff.2 hc
        refine .t (by omega) (.t (by omega) ((ih (g+1) (acc++[⟨g,pinG m d g⟩]) (by omega) (by rw [lA]; show acc.length+1≤_; omega)).v ?_))
        rw [List.append_assoc]
      by_cases hgd:(g:Int)=d.f5
      ·have e:pinG m d g=d.f6:=if_pos hgd
       rw [e]at j80
       exact .t hgd j80
      ·have e:pinG m d g=qJL m g:=if_neg hgd
       rw [e]at j80
       exact .n hgd j80
    refine (go N 0 [] (Nat.zero_add _) (Nat.le_refl _)).v ?_
    rw [List.nil_append,qJA h d hg hN]
    rfl
   ·rw [if_neg ha]
    exact .n ha (.c _)
 ·rw [if_neg (fun e=>hg ⟨e.1,e.2.1⟩)]
  by_cases c:d.f5<0
  ·exact .t c no
  ·exact .n c (.t (by omega) no)
def heldG(m:qE)(id:Int)(g:Nat):Bool:=(qJL m g).any (fun x=>x == id)||(nth qC.z m.f6 g).f1.any (fun s=>s.f1.any (fun x=>x == id))
theorem qEr(l:List Int)(id:Int):l.any (fun x=>x == id)=decide (id ∈ l):=by
 rw [Bool.eq_iff_iff,List.any_eq_true,decide_eq_true_eq]
 exact ⟨fun ⟨x,hx,e⟩=>(beq_iff_eq.1 e) ▸ hx,fun h=>⟨id,h,beq_self_eq_true _⟩⟩
theorem qIL{m:qE}(h:May m)(id:Int){N:Nat}(hN:(N:Int)=m.f3):(∃ g,g<N∧heldG m id g=true)↔held m id=true:=by
 have hl:m.f6.length=N:=by have:=h.2.2.1; omega
 have ht:=(qCj m _ _).1 h.2.1
 unfold heldG held
 rw [Bool.or_eq_true,List.any_eq_true,List.any_eq_true]
 constructor
 ·rintro ⟨g,hg,e⟩
  rw [Bool.or_eq_true]at e
  rcases e with e | e
  ·rw [qEr,decide_eq_true_eq]at e
   exact .inl ⟨_,qDq (m:=m) (g:=g) (fun q=>by rw [q]at e; exact (nomatch e)),by rw [decide_eq_true_eq]; exact e⟩
  ·have hg':g<m.f6.length:=by omega
   rw [nth_get _ _ _ hg',List.any_eq_true]at e
   obtain ⟨s,hs,e⟩:=e
   rw [qEr]at e
   exact .inr ⟨_,gM hg',List.any_eq_true.2 ⟨s,hs,e⟩⟩
 ·rintro (⟨t,htm,e⟩ | ⟨t,htm,e⟩)
  ·have hr:=(ht.1 t htm).1.1
   refine ⟨t.f0.toNat,by omega,?_⟩
   rw [Bool.or_eq_true]
   left
   rw [show ((t.f0.toNat:Nat):Int)=t.f0 by omega,qFR h htm,qEr]
   exact e
  ·obtain ⟨g,hg,rfl⟩:=List.getElem_of_mem htm
   refine ⟨g,by omega,?_⟩
   rw [Bool.or_eq_true]
   right
   rw [nth_get _ _ _ hg,List.any_eq_true]
   obtain ⟨s,hs,e⟩:=List.any_eq_true.1 e
   exact ⟨s,hs,by rw [qEr]; exact e⟩
theorem rheld {m:qE} (h:May m) (hm:Small m) {b:Nat} (hb:b≤100000) (hP:Pasts b m) (t:qA × Bool) (v:qE × Int) {N:Nat} (hN:(N:Int)=m.f3)
  (hv:Ev (fun k=>qH.j283 k m t (held m t.1.f0||(t.1.f4||(t.1.f5&&decide (t.1.f3>0))))) v):Ev (fun k=>qH.l187 k m t false 0) v:=by
 have hl:m.f6.length=N:=by have:=h.2.2.1; omega
 have h3:=h.1.2.2.2.1
 have hT:∀ g,(qJL m g).length≤3:=fun g=>by
  by_cases e:qJL m g=[]
  ·rw [e]; exact Nat.zero_le _
  ·exact qDd h _ (qDq e)
 have l187:∀(n g:Nat)(y:Bool),g+n=N→(y=true↔∃ q,q<g∧heldG m t.1.f0 q=true)→Ev (fun k=>qH.l187 k m t y (g:Int)) v:=by
  intro n
  induction n with
  | zero =>
   intro g y hg hy
   obtain rfl:g=N:=by omega
   have e:y=held m t.1.f0:=by rw [Bool.eq_iff_iff,hy,qIL h t.1.f0 hN]
   refine .s (qH.l187_s · _ _ _ _) (.n (by omega) ?_)
   rw [← e]at hv
   cases y with
   | true=>exact .t rfl hv
   | false =>
    rw [Bool.false_or]at hv
    refine .n nF ?_
    cases h4:t.1.f4 with
    | true =>
     rw [h4]at hv
     exact .t rfl hv
    | false =>
     rw [h4,Bool.false_or]at hv
     refine .n nF ?_
     cases h5:t.1.f5 with
     | true =>
      rw [h5,Bool.true_and]at hv
      exact .t rfl hv
     | false =>
      rw [h5,Bool.false_and]at hv
      exact .n nF hv
  | succ n ih =>
   intro g y hg hy
   have hg1:g<m.f6.length:=by omega
   have hmem:=gM hg1
   have hpl:=hP _ hmem
   have l224:∀(d i:Nat)(z:Bool),i+d=m.f6[g].f1.length→Ev (fun k=>qH.l187 k m t (z||(m.f6[g].f1.drop i).any (fun s=>s.f1.any (fun x=>x == t.1.f0))) ((g+1:Nat):Int)) v→Ev (fun k=>qH.l224 k m t (g:Int) z (i:Int)) v:=by
    intro d
    induction d with
    | zero =>
     intro i z hi hz
     rw [List.drop_eq_nil_of_le (by omega),List.any_nil,Bool.or_false]at hz
     refine .s (qH.l224_s · _ _ _ _ _) (.t (by omega) ?_)
     rw [nth_get _ _ _ hg1,w64n g (by omega)]
     exact .n (by omega) hz
    | succ d ihd =>
     intro i z hi hz
     have h1:i<m.f6[g].f1.length:=by omega
     have hsl:=qDE h _ hmem _ (gM h1)
     rw [List.drop_eq_getElem_cons h1,List.any_cons,← Bool.or_assoc]at hz
     have l243:∀(e j:Nat)(z:Bool),j+e=m.f6[g].f1[i].f1.length→Ev (fun k=>qH.l224 k m t (g:Int) (z||(m.f6[g].f1[i].f1.drop j).any (fun x=>x == t.1.f0)) ((i+1:Nat):Int)) v→Ev (fun k=>qH.l243 k m t (g:Int) (i:Int) z (j:Int)) v:=by
      intro e
      induction e with
      | zero =>
       intro j z hj hz
       rw [List.drop_eq_nil_of_le (by omega),List.any_nil,Bool.or_false]at hz
       refine .s (qH.l243_s · _ _ _ _ _ _) ?_
       rw [nth_get _ _ _ hg1,nth_get _ _ _ h1,w64n i (by omega)]
       exact .t (by omega) (.n (by omega) hz)
      | succ e ihe =>
       intro j z hj hz
       have hj1:j<m.f6[g].f1[i].f1.length:=by omega
       rw [List.drop_eq_getElem_cons hj1,List.any_cons,← Bool.or_assoc]at hz
       refine .s (qH.l243_s · _ _ _ _ _ _) ?_
       rw [nth_get _ _ _ hg1,nth_get _ _ _ h1,w64n j (by omega)]
       refine .t (by omega) (.t (by omega) ?_)
       cases z with
       | true=>exact .t rfl (ihe (j+1) true (by omega) hz)
       | false =>
        refine .n nF (.t (by omega) ?_)
        rw [nth_get _ _ _ hj1]
        exact ihe (j+1) _ (by omega) hz
     refine .s (qH.l224_s · _ _ _ _ _) (.t (by omega) ?_)
     rw [nth_get _ _ _ hg1]
     refine .t (by omega) (l243 _ 0 z (Nat.zero_add _) ?_)
     rw [List.drop_zero]
     exact ihd (i+1) _ (by omega) hz
   have l207:∀(d j:Nat)(z:Bool),j+d=(qJL m g).length→Ev (fun k=>qH.l224 k m t (g:Int) (z||((qJL m g).drop j).any (fun x=>x == t.1.f0)) 0) v→Ev (fun k=>qH.l207 k m t (g:Int) (qJL m g) z (j:Int)) v:=by
    intro d
    induction d with
    | zero =>
     intro j z hj hz
     rw [List.drop_eq_nil_of_le (by omega),List.any_nil,Bool.or_false]at hz
     exact .s (qH.l207_s · _ _ _ _ _ _) (.n (by omega) hz)
    | succ d ihd =>
     intro j z hj hz
     have h1:j<(qJL m g).length:=by omega
     have:=hT g
     rw [List.drop_eq_getElem_cons h1,List.any_cons,← Bool.or_assoc]at hz
     refine .s (qH.l207_s · _ _ _ _ _ _) (.t (by omega) ?_)
     rw [w64n j (by omega)]
     cases z with
     | true=>exact .t rfl (ihd (j+1) true (by omega) hz)
     | false =>
      refine .n nF (.t (by omega) ?_)
      rw [nth_get _ _ _ h1]
      exact ihd (j+1) _ (by omega) hz
   refine .s (qH.l187_s · _ _ _ _) (.t (by omega) (.b (rtemp m hm g) (l207 _ 0 y (Nat.zero_add _) ?_)))
   rw [List.drop_zero]
   refine l224 _ 0 _ (Nat.zero_add _) ?_
   rw [List.drop_zero]
   refine ih (g+1) _ (by omega) ?_
   rw [Bool.or_assoc,Bool.or_eq_true,hy,show ((qJL m g).any (fun x=>x == t.1.f0)||m.f6[g].f1.any (fun s=>s.f1.any (fun x=>x == t.1.f0)))=heldG m t.1.f0 g by unfold heldG; rw [nth_get _ _ _ hg1]]
   constructor
   ·rintro (⟨q,h1,h2⟩ | h2)
    ·exact ⟨q,by omega,h2⟩
    ·exact ⟨g,Nat.lt_succ_self g,h2⟩
   ·rintro ⟨q,h1,h2⟩
    rcases Nat.lt_or_ge q g with h3 | h3
    ·exact .inl ⟨q,h3,h2⟩
    ·obtain rfl:q=g:=by omega
     exact .inr h2
 exact l187 N 0 false (Nat.zero_add _) ⟨fun e=>Bool.noConfusion e,fun ⟨q,h1,_⟩=>absurd h1 (by omega)⟩
theorem qJB(a b:qA):a=b↔(a.f0=b.f0∧a.f1=b.f1∧a.f2=b.f2∧a.f3=b.f3∧a.f4=b.f4∧a.f5=b.f5):=by
 cases a; cases b
 simp only [qA.mk.injEq]
theorem May.small{m:qE}(h:May m){b:Nat}(hb:b≤1000000)(hP:Pasts b m):Small m:=by
 have h4:m.f4.length≤12:=h.1.2.2.2.2.1
 have h5:=qDJ h
 have h6:=qDO h
 exact ⟨by omega,by omega,by omega,fun t ht=>by have:=hP t ht; omega,fun t ht s hs=>by have:=qDE h t ht s hs; omega⟩
theorem rturned{m:qE}(h:May m){b:Nat}(hb:b≤100000)(hP:Pasts b m)(d:qF)(hd:1≤d.f0∧d.f0≤10):Ev (fun k=>qH.f k m d) (qJI m d):=by
 have hm:=h.small (by omega) hP
 have h3:=h.1.2.2.2.1
 have hn:=h.1.2.2.2.2
 have hl:m.f4.length≤12:=hn.1
 have hlen:(m.f6.length:Int)=m.f3:=h.2.2.1
 obtain ⟨N,hN⟩:∃ N:Nat,(N:Int)=m.f3:=⟨m.f3.toNat,by omega⟩
 unfold qH.f qJI
 refine .b (Topo.reffind m.f4 d.f1 hm.h4) ?_
 by_cases h9:d.f0=9
 ·rw [if_neg (by omega),if_neg (by omega),if_pos h9]
  exact .t h9 (.c _)
 refine .n h9 ?_
 by_cases h8:d.f0=8
 ·rw [if_neg (by omega),if_pos h8]
  exact .t h8 (.b (rpin h hm d) (.c _))
 refine .n h8 ?_
 by_cases h10:d.f0=10
 ·rw [if_neg (by omega),if_neg h8,if_neg h9,if_pos h10]
  refine .t h10 ?_
  unfold cleanL
  by_cases hg:0≤d.f5∧d.f5<m.f3
  ·rw [if_pos hg,dF (by omega)]
   refine .n (by omega) (.s (qH.j48_s · _ _ _) (.n nF (.t (by omega) ?_)))
   by_cases hs:(nth qC.z m.f6 d.f5).f0=d.f4
   ·rw [if_neg (show ¬ (nth qC.z m.f6 d.f5).f0≠d.f4 from fun e=>e hs)]
    refine .t hs ?_
    by_cases hp:(nth qC.z m.f6 d.f5).f1=[]
    ·rw [if_pos hp]
     exact .t (show (((nth qC.z m.f6 d.f5).f1).length:Int)=0 by rw [hp]; rfl) (.c _)
    ·rw [if_neg hp]
     refine .n (show ¬ (((nth qC.z m.f6 d.f5).f1).length:Int)=0 from fun e=>hp (List.eq_nil_of_length_eq_zero (by omega))) (.t ?_ (.t ?_ (.c _)))
     ·show (((0:Nat):Int)+(m.f6.length:Int)) * 32≤140737488355328
      omega
     ·rw [List.nil_append]
      omega
   ·rw [if_pos (show (nth qC.z m.f6 d.f5).f0≠d.f4 from hs)]
    exact .n hs (.c _)
  ·rw [if_neg hg]
   by_cases c:d.f5<0
   ·exact .t c (.s (qH.j48_s · _ _ _) (.t rfl (.c _)))
   ·rw [dT (show d.f5≥m.f3 by omega)]
    exact .n c (.s (qH.j48_s · _ _ _) (.t rfl (.c _)))
 refine .n h10 ?_
 by_cases h1:d.f0=1
 ·rw [if_pos h1]
  refine .t h1 ?_
  unfold addL
  by_cases ht:(Topo.find m.f4 d.f1).2=true
  ·rw [if_pos ht]
   exact .t ht (.c _)
  ·rw [if_neg ht]
   refine .n ht ?_
   by_cases h12:m.f4.length=12
   ·rw [if_pos h12]
    exact .t (by omega) (.c _)
   ·rw [if_neg h12]
    refine .n (by omega) (.b (rput m.f4 (addN d) (by omega) hn.up false) ?_)
    rw [if_neg nF]
    have hpl:(putN (addN d) m.f4).length≤1000:=by
     have:=(List.Perm.length_eq (l₁:=putN (addN d) m.f4) (l₂:=putN (addN d) m.f4) (List.Perm.refl _))
     have key:∀ l:List qA,(putN (addN d) l).length≤l.length+1:=by
      intro l
      induction l with
      | nil=>exact Nat.le_refl _
      | cons c r ih =>
       unfold putN
       split
       ·rw [List.length_cons,List.length_cons]; omega
       ·split
        ·rw [List.length_cons,List.length_cons]; omega
        ·rw [List.length_cons,List.length_cons]; omega
     have:=key m.f4
     omega
    refine .b (Topo.may _ (by omega)) ?_
    by_cases hN:Topo.Nodes (putN (addN d) m.f4)
    ·rw [if_pos hN]
     exact .t (dT hN) (.c _)
    ·rw [if_neg hN]
     exact .n (fun e=>hN (oT e)) (.c _)
 rw [if_neg h1,if_neg h8,if_neg h9,if_neg h10]
 refine .n h1 ?_
 unfold Topo.find
 cases hf:m.f4.find? (fun n=>decide (n.f0=d.f1)) with
 | none=>exact .n nF (.c _)
 | some n =>
  have hid:n.f0=d.f1:=oT (List.find?_some (p:=fun c:qA=>decide (c.f0=d.f1)) hf)
  have j306:∀(x:Int)(y z:Bool)(drop same:Bool)(w:qE × Int),(same=true→w=(m,7))→(same=false→w=((withN m (if drop=true then dropN n.f0 m.f4 else putN ⟨n.f0,n.f1,n.f2,x,y,z⟩ m.f4),0):qE × Int))→Ev (fun k=>qH.j306 k m (n,true) x y z drop same) w:=by
   intro x y z drop same w e1 e2
   refine .s (qH.j306_s · _ _ _ _ _ _ _) ?_
   cases same with
   | true =>
    rw [e1 rfl]
    exact .t rfl (.c _)
   | false =>
    rw [e2 rfl]
    exact .n nF (.b (rput m.f4 (⟨n.f0,n.f1,n.f2,x,y,z⟩:qA) (by omega) hn.up drop) (.c _))
  have j296:∀(x:Int)(y z:Bool)(w:qE × Int),((x=n.f3∧y=n.f4∧z=n.f5)→w=(m,7))→(¬ (x=n.f3∧y=n.f4∧z=n.f5)→w=((withN m (putN ⟨n.f0,n.f1,n.f2,x,y,z⟩ m.f4),0):qE × Int))→Ev (fun k=>qH.j296 k m (n,true) false x y z) w:=by
   intro x y z w e1 e2
   have hiff:((⟨n.f0,n.f1,n.f2,x,y,z⟩:qA)=n)↔(x=n.f3∧y=n.f4∧z=n.f5):=by
    rw [qJB]
    exact ⟨fun q=>q.2.2.2,fun q=>⟨rfl,rfl,rfl,q⟩⟩
   refine .s (qH.j296_s · _ _ _ _ _ _) (.n nF (j306 x y z false _ w (fun q=>e1 (hiff.1 (oT q))) (fun q=>?_)))
   rw [if_neg nF]
   exact e2 (fun r=>of_decide_eq_false q (hiff.2 r))
  have bd:∀(p:Prop)[Decidable p](x:Bool),(x=decide p)↔(decide p=x):=fun _ _ _=>⟨Eq.symm,Eq.symm⟩
  dsimp only
  refine .t rfl ?_
  unfold nodeL
  by_cases h2:d.f0=2
  ·rw [if_pos h2]
   refine .t h2 ?_
   by_cases hw:0≤d.f4∧d.f4≤65536
   ·rw [if_pos hw,dF (by omega)]
    refine .n (by omega) (.s (qH.j161_s · _ _ _ _) (.n nF (j296 _ _ _ _ (fun q=>if_pos q.1.symm) (fun q=>if_neg (fun e=>q ⟨e.symm,rfl,rfl⟩)))))
   ·rw [if_neg hw]
    by_cases c:d.f4<0
    ·exact .t c (.s (qH.j161_s · _ _ _ _) (.t rfl (.c _)))
    ·rw [dT (show d.f4>65536 by omega)]
     exact .n c (.s (qH.j161_s · _ _ _ _) (.t rfl (.c _)))
  rw [if_neg h2]
  refine .n h2 ?_
  by_cases h3':d.f0=3
  ·rw [if_pos (.inl h3'),dT h3']
   exact .t h3' (j296 _ _ _ _ (fun q=>if_pos q.2.1.symm) (fun q=>if_neg (fun e=>q ⟨rfl,e.symm,rfl⟩)))
  refine .n h3' ?_
  by_cases h4':d.f0=4
  ·rw [if_pos (.inr h4'),dF h3']
   exact .t h4' (j296 _ _ _ _ (fun q=>if_pos q.2.1.symm) (fun q=>if_neg (fun e=>q ⟨rfl,e.symm,rfl⟩)))
  refine .n h4' ?_
  rw [if_neg (show ¬ (d.f0=3∨d.f0=4) by omega)]
  by_cases h5':d.f0=5
  ·rw [if_pos (.inl h5'),dF (show ¬ d.f0=6 by omega)]
   exact .t h5' (j296 _ _ _ _ (fun q=>if_pos q.2.2.symm) (fun q=>if_neg (fun e=>q ⟨rfl,rfl,e.symm⟩)))
  refine .n h5' ?_
  by_cases h6':d.f0=6
  ·rw [if_pos (.inr h6'),dT h6']
   exact .t h6' (j296 _ _ _ _ (fun q=>if_pos q.2.2.symm) (fun q=>if_neg (fun e=>q ⟨rfl,rfl,e.symm⟩)))
  refine .n h6' ?_
  rw [if_neg (show ¬ (d.f0=5∨d.f0=6) by omega)]
  refine rheld h hm hb hP (n,true) _ hN (.s (qH.j283_s · _ _ _) ?_)
  have hc:(held m n.f0||(n.f4||(n.f5&&decide (n.f3>0))))=true↔(n.f4=true∨(n.f5=true∧n.f3>0)∨held m d.f1=true):=by
   rw [Bool.or_eq_true,Bool.or_eq_true,Bool.and_eq_true,decide_eq_true_eq,hid]
   constructor
   ·rintro (a | a | a)
    ·exact .inr (.inr a)
    ·exact .inl a
    ·exact .inr (.inl a)
   ·rintro (a | a | a)
    ·exact .inr (.inl a)
    ·exact .inr (.inr a)
    ·exact .inl a
  by_cases hq:n.f4=true∨(n.f5=true∧n.f3>0)∨held m d.f1=true
  ·rw [if_pos hq]
   exact .t (hc.2 hq) (.c _)
  ·rw [if_neg hq]
   refine .n (fun e=>hq (hc.1 e)) (.s (qH.j296_s · _ _ _ _ _ _) (.t rfl (j306 _ _ _ true false _ (fun e=>Bool.noConfusion e) (fun _=>?_))))
   rw [if_pos rfl,hid]
theorem rapply{m:qE}(h:May m)(d:qF)(hd6:d.f6.length<4611686018427387904){b:Nat}(hb:b≤100000)(hP:Pasts b m):Ev (fun k=>qq.f k m d) (qJN m d):=by
 have hf:=h.1.1
 have h3:=h.1.2.2.2.1
 have hm:=h.small (by omega) hP
 have j24:∀ y:Bool,(y=true↔¬ ((1≤d.f0∧d.f0≤10)∧bareD d))→Ev (fun k=>qq.j24 k m d y) (qJN m d):=by
  intro y hy
  refine .s (qq.j24_s · _ _ _) ?_
  unfold qJN
  by_cases hc:(1≤d.f0∧d.f0≤10)∧bareD d
  ·rw [if_pos hc]
   refine .n (fun e=>hy.1 e hc) ?_
   by_cases he:m.f0=2147483647
   ·rw [if_pos he]
    exact .t he (.c _)
   ·rw [if_neg he]
    refine .n he (.b (rturned h hb hP d hc.1) ?_)
    by_cases h0:(qJI m d).2=0
    ·rw [if_pos h0]
     refine .t h0 ?_
     have hx:=qDl h h0
     have hT:=qDS (m:=m) (d:=d)
     have hPx:=qDK hP d
     have hmx:=hx.small (by omega) hPx
     have hlen:((qJI m d).1.f6.length:Int)=m.f3:=by rw [hx.2.2.1,hT.2.2.2]
     have hFl:(qJK m (qJI m d).1).length=(qJI m d).1.f6.length:=by unfold qJK; exact List.length_mapIdx
     have go:∀(n i:Nat)(acc:List qC),i+n=(qJI m d).1.f6.length→acc=(qJK m (qJI m d).1).take i→Ev (fun k=>qq.l72 k m (qJI m d) acc (i:Int)) ((⟨m.f0+1,m.f1,m.f2,m.f3,(qJI m d).1.f4,(qJI m d).1.f5,qJK m (qJI m d).1⟩:qE),0):=by
      intro n
      induction n with
      | zero =>
       intro i acc hi ha
       refine .s (qq.l72_s · _ _ _ _) (.n (by omega) (.cv ?_))
       rw [ha,List.take_of_length_le (by omega),hT.1,hT.2.1,hT.2.2.1,hT.2.2.2,qCe (by omega) (by omega)]
      | succ n ih =>
       intro i acc hi ha
       have h1:i<(qJI m d).1.f6.length:=by omega
       have h2:i<(qJK m (qJI m d).1).length:=by omega
       have hmem:=gM h1
       have hF:(qJK m (qJI m d).1)[i]=followT (qJI m d).1.f6[i] (actL m i) (actL (qJI m d).1 i) m.f2 (m.f0+1):=by
        simp only [qJK,List.getElem_mapIdx]
       have ea:actM m i=actL m i:=if_pos ⟨h,by omega,by omega⟩
       have eb:actM (qJI m d).1 i=actL (qJI m d).1 i:=if_pos ⟨hx,by omega,by rw [hT.2.2.2]; omega⟩
       have hal:=(qFP h i).2.1
       have s1:=h.1.2.1
       have hacc:acc.length≤i:=by rw [ha,List.length_take]; omega
       refine .s (qq.l72_s · _ _ _ _) (.t (by omega) (.t (by omega) (.b (rActing m hm i) (.b (rActing _ hmx i) ?_))))
       rw [ea,eb,nth_get _ _ _ h1,w64n i (by omega),qCe (by omega) (by omega)]
       refine .b (rfollow (qJI m d).1.f6[i] _ _ _ _ (by omega) (by have:=hPx _ hmem; omega) (fun s hs=>Nat.le_trans (qDE hx _ hmem s hs) (by decide))) (.t (by omega) (ih (i+1) _ (by omega) ?_))
       rw [ha,← hF,List.take_append_getElem h2]
     exact go _ 0 [] (Nat.zero_add _) rfl
    ·rw [if_neg h0]
     exact .n h0 (.c _)
  ·rw [if_neg hc]
   exact .t (hy.2 hc) (.c _)
 unfold qq.f
 by_cases c1:d.f0<1
 ·exact .t c1 (j24 true ⟨fun _ q=>by omega,fun _=>rfl⟩)
 ·refine .n c1 ?_
  by_cases c2:d.f0>10
  ·exact .t c2 (j24 true ⟨fun _ q=>by omega,fun _=>rfl⟩)
  ·refine .n c2 (.b0 (rbare d) (.b (rdeltas d (bareOf d) hd6) (j24 _ ?_)))
   by_cases hbd:bareD d
   ·rw [dT ((qEb d).2 hbd)]
    exact ⟨fun e=>Bool.noConfusion e,fun q=>absurd ⟨⟨by omega,by omega⟩,hbd⟩ q⟩
   ·rw [dF (fun e=>hbd ((qEb d).1 e))]
    exact ⟨fun _ q=>hbd q.2,fun _=>rfl⟩
theorem qIM{m:qE}{d:qF}(h:(qJN m d).2=0):(qJI m d).2=0∧(qJN m d).1=⟨m.f0+1,m.f1,m.f2,m.f3,(qJI m d).1.f4,(qJI m d).1.f5,qJK m (qJI m d).1⟩:=by
 unfold qJN at h ⊢
 split at h
 ·rename_i c1
  rw [if_pos c1]
  split at h
  ·exact absurd (show (6:Int)=0 from h) (by decide)
  ·rename_i c2
   rw [if_neg c2]
   split at h
   ·rename_i c3
    rw [if_pos c3]
    exact ⟨c3,rfl⟩
   ·rename_i c3
    exact absurd h c3
 ·exact absurd (show (1:Int)=0 from h) (by decide)
theorem Lit8.pasts{m:qE}(h:Lit8 m):Pasts 20 m:=h.hp
theorem eqG {α : Type} [DecidableEq α] (a b:List α) (hab:a.length=b.length) (L:Nat→Int→Option Bool) (w:Bool) (hend:Ev (fun k=>L k (a.length:Int)) w)
  (hstep:∀(i:Nat)(hi:i<a.length)(hj:i<b.length)(v:Bool),(a[i]=b[i]→Ev (fun k=>L k ((i+1:Nat):Int)) v)→(a[i]≠b[i]→v=false)→Ev (fun k=>L k (i:Int)) v) :
  ∀(d i:Nat),i+d=a.length→Ev (fun k=>L k (i:Int)) (decide (a.drop i=b.drop i)&&w):=by
 intro d
 induction d with
 | zero =>
  intro i hi
  obtain rfl:i=a.length:=by omega
  rw [List.drop_eq_nil_of_le (Nat.le_refl _),List.drop_eq_nil_of_le (by omega),dT rfl,Bool.true_and]
  exact hend
 | succ d ih =>
  intro i hi
  have h1:i<a.length:=by omega
  have h2:i<b.length:=by omega
  refine hstep i h1 h2 _ (fun e=>(ih (i+1) (by omega)).v ?_) (fun e=>?_)
  ·rw [List.drop_eq_getElem_cons h1,List.drop_eq_getElem_cons h2,e]
   congr 1
   rw [decide_eq_decide,List.cons.injEq]
   exact ⟨fun q=>⟨rfl,q⟩,fun q=>q.2⟩
  ·rw [List.drop_eq_getElem_cons h1,List.drop_eq_getElem_cons h2,dF (fun q=>e (List.cons.inj q).1),Bool.false_and]
theorem eqF {α : Type} [DecidableEq α] (a b:List α) (L:Nat→Int→Option Bool) (f:Nat→Option Bool) (hf:∀ k,f k=if (a.length:Int)=(b.length:Int) then L k 0 else some false) (hend:Ev (fun k=>L k (a.length:Int)) true)
  (hstep:a.length=b.length→∀(i:Nat)(hi:i<a.length)(hj:i<b.length)(v:Bool),(a[i]=b[i]→Ev (fun k=>L k ((i+1:Nat):Int)) v)→(a[i]≠b[i]→v=false)→Ev (fun k=>L k (i:Int)) v):Ev f (decide (a=b)):=by
 refine .e hf (.i (fun c=>(eqG a b (by omega) L true hend (hstep (by omega)) a.length 0 (Nat.zero_add _)).v ?_) (fun c=>.cv ?_))
 ·rw [List.drop_zero,List.drop_zero,Bool.and_true]
 ·exact (dF (fun e=>c (by rw [e]))).symm
theorem rdeltasL(a b:List qF)(hl:a.length<1000000)(h6:∀ d ∈ a,d.f6.length<1000000):Ev (fun k=>qAW.f k a b) (decide (a=b)):=by
 refine eqF a b (fun k x=>qAW.l9 k a b x) _ (fun k=>by unfold qAW.f; rfl) (.s (qAW.l9_s · _ _ _) (.n (by omega) (.c _))) (fun hab i hi hj v h1 h2=>?_)
 refine .s (qAW.l9_s · _ _ _) (.t (by omega) (.t (by omega) (.t (by omega) ?_)))
 rw [nth_get _ _ _ hi,nth_get _ _ _ hj,w64n i (by omega)]
 exact .b (rdeltas _ _ (by have:=h6 _ (gM hi); omega)) (.i (fun c=>h1 (oT c)) (fun c=>.cv (h2 (fun e=>c (dT e))).symm))
def idsU(n:Nat):List Int:=(List.range n).map fun i:Nat=>(i:Int)
theorem qFT(n:Nat):idsU (n+1)=idsU n++[(n:Int)]:=by
 unfold idsU
 rw [List.range_succ,List.map_append]
 rfl
theorem qIN{n:Nat}{x:Int}: x ∈ idsU n↔0≤x∧x<(n:Int):=by
 unfold idsU
 rw [List.mem_map]
 constructor
 ·rintro ⟨i,hi,rfl⟩
  have:=List.mem_range.1 hi
  omega
 ·intro h
  exact ⟨x.toNat,List.mem_range.2 (by omega),Int.toNat_of_nonneg h.1⟩
theorem qGQ(n:Nat):(idsU n).length=n:=by
 unfold idsU
 rw [List.length_map,List.length_range]
theorem qDe(n:Nat)(p:Int→Bool):((idsU n).filter p).length≤n:=Nat.le_trans (List.length_filter_le _ _) (Nat.le_of_eq (qGQ n))
theorem sieve (n:Nat) (p:Int→Bool) (L:Nat→List Int→Int→Option (List Int)) (he:∀ acc,Ev (fun k=>L k acc (n:Int)) acc)
  (hs:∀ i,i<n→∀ acc:List Int,acc.length≤i→∀ v,Ev (fun k=>L k (if p (i:Int)=true then acc++[(i:Int)] else acc) ((i+1:Nat):Int)) v→Ev (fun k=>L k acc (i:Int)) v):Ev (fun k=>L k [] 0) ((idsU n).filter p):=by
 have go:∀ d i,i+d=n→Ev (fun k=>L k ((idsU i).filter p) (i:Int)) ((idsU n).filter p):=by
  intro d
  induction d with
  | zero =>
   intro i hi
   obtain rfl:i=n:=by omega
   exact he _
  | succ d ih =>
   intro i hi
   refine hs i (by omega) _ (qDe i p) _ ?_
   have ih:=ih (i+1) (by omega)
   rw [qFT,List.filter_append]at ih
   by_cases c:p (i:Int)=true
   ·rw [if_pos c]
    rwa [List.filter_cons_of_pos c]at ih
   ·rw [if_neg c]
    rwa [List.filter_cons_of_neg c,List.filter_nil,List.append_nil]at ih
 exact go n 0 (Nat.zero_add _)
def restB(m:qE)(c:List Bool)(g:Int):Bool:=nth false c g&&(((nth qC.z m.f6 g).f1.length:Int) == 0)
def SoundC(m:qE)(c:List Bool):Prop:=May m∧(c.length:Int)=m.f3
instance (m:qE) (c:List Bool):Decidable (SoundC m c):=inferInstanceAs (Decidable (_∧_))
def turnsB(m x:qE)(g:Int):Bool := !(decide (rawM m g=rawM x g)&&decide (actM m g=actM x g))
def touchL(m x:qE):List Int:=(idsU m.f3.toNat).filter (turnsB m x)
def restL(m:qE)(c:List Bool):List Int:=(idsU m.f3.toNat).filter (restB m c)
def zonesB(f2:Int)(x:qE)(g:Int):Bool:=decide (f2≤((actM x g).length:Int))&&Topo.apartR x.f4 [] (actM x g)
def gateL(m:qE)(d:qF)(c:List Bool)(most:Int):Int :=
 if SoundC m c∧1≤most∧most≤8 then
  (if (qJN m d).2=0 then
   (if touchL m (qJN m d).1=[] then 0
    else if (touchL m (qJN m d).1).any (fun g => !restB m c g)=true∨m.f3 - ((restL m c).length:Int)+((touchL m (qJN m d).1).length:Int)>most then 11
    else if (touchL m (qJN m d).1).all (zonesB m.f2 (qJN m d).1)=true then 0 else 12)
  else (qJN m d).2)
 else 1
theorem groupsN{m:qE}(h:May m):∃ N:Nat,m.f3=(N:Int)∧N≤8∧m.f3.toNat=N:=⟨m.f3.toNat,by have:=h.1.2.2.2.1; omega,by have:=h.1.2.2.2.1; omega,rfl⟩
theorem qDf{m:qE}(g:Int):(actM m g).length≤3:=by
 unfold actM
 split
 ·rename_i h
  have h2:=(qFP h.1 g).2.1
  have h1:=h.1.1.2.1
  omega
 ·exact Nat.zero_le _
theorem qFU{m:qE}(g:Int):(rawM m g).length≤3:=by
 unfold rawM
 split
 ·rename_i h
  have h2:=(qEa h.1 g).2.1
  have h1:=h.1.1.2.1
  omega
 ·exact Nat.zero_le _
theorem qGR{m x:qE}{N:Nat}(hN:m.f3.toNat=N):∀ g ∈ touchL m x,0≤g∧g<(N:Int):=fun g hg=>by
 unfold touchL at hg
 rw [hN]at hg
 exact qIN.1 (List.mem_filter.1 hg).1
theorem qHi{m:qE}(h:May m){c:List Bool}(hc:(c.length:Int)=m.f3){g:Int}(hg:0≤g∧g<m.f3):(if 0≤g∧g<(c.length:Int) then (if (nth false c g)=true then (if 0≤g∧g<(m.f6.length:Int) then (some ((((nth qC.z m.f6 g).f1).length:Int) == 0)) else (none)) else (some false)) else (none))=some (restB m c g):=by
 have h6:=h.2.2.1
 unfold restB
 rw [if_pos ⟨hg.1,by omega⟩,if_pos (⟨hg.1,by omega⟩:0≤g∧g<(m.f6.length:Int))]
 by_cases q:nth false c g=true
 ·rw [if_pos q,q]
  rfl
 ·rw [if_neg q,eq_false_of_ne_true q]
  rfl
theorem gsound(m:qE)(hm:Small m)(c:List Bool):Ev (fun k=>qBi.f k m c) (decide (SoundC m c)):=by
 unfold qBi.f
 refine .b (check m hm) ?_
 by_cases h:May m
 ·rw [dT h]
  refine .t rfl (.cv ?_)
  rw [Bool.eq_iff_iff,beq_iff_eq,decide_eq_true_eq]
  exact ⟨fun e=>⟨h,e⟩,fun e=>e.2⟩
 ·rw [dF h]
  refine .n (by decide) (.cv ?_)
  rw [dF (fun e:SoundC m c=>h e.1)]
theorem grest{m:qE}(h:May m){c:List Bool}(hc:(c.length:Int)=m.f3){g:Int}(hg:0≤g∧g<m.f3):qBr.f m c g=some (restB m c g):=by
 unfold qBr.f
 exact qHi h hc hg
theorem grests(m:qE)(hm:Small m)(c:List Bool):Ev (fun k=>qBN.f k m c) (if SoundC m c then restL m c else []):=by
 unfold qBN.f
 refine .b (gsound m hm c) ?_
 by_cases h:SoundC m c
 ·rw [dT h,if_pos h]
  obtain ⟨N,e3,h8,eN⟩:=groupsN h.1
  refine .t rfl ?_
  unfold restL
  rw [eN]
  refine sieve N (restB m c) (fun k acc x=>qBN.l20 k m c acc x) (fun acc=>.s (qBN.l20_s · _ _ _ _) (.n (by omega) (.c _))) (fun i hi acc ha v hv=>.s (qBN.l20_s · _ _ _ _) (.t (by omega) (.b0 (grest h.1 h.2 ⟨by omega,by omega⟩) ?_)))
  rw [w64n i (by omega)]
  refine .i (fun q=>?_) (fun q=>?_)
  ·rw [if_pos q]at hv
   exact .t (by omega) hv
  ·rw [if_neg q]at hv
   exact hv
 ·rw [dF h,if_neg h]
  exact .n (by decide) (.c _)
theorem gtouched(m x:qE)(h:May m)(hm:Small m)(hx:Small x):Ev (fun k=>qAk.f k m x) (touchL m x):=by
 obtain ⟨N,e3,h8,eN⟩:=groupsN h
 unfold qAk.f touchL
 rw [eN]
 refine sieve N (turnsB m x) (fun k acc y=>qAk.l15 k m x acc y) (fun acc=>.s (qAk.l15_s · _ _ _ _) (.n (by omega) (.c _))) (fun i hi acc ha v hv=>?_)
 have j:∀ b,turnsB m x (i:Int)=b→Ev (fun k=>qAk.j66 k m x acc (i:Int) b) v:=by
  intro b hb
  rw [hb]at hv
  refine .s (qAk.j66_s · _ _ _ _ _) ?_
  rw [w64n i (by omega)]
  cases b with
  | true=>exact .t rfl (.t (by omega) hv)
  | false=>exact .n (by decide) hv
 have r1:=qFU (m:=m) (i:Int)
 have r2:=qDf (m:=m) (i:Int)
 refine .s (qAk.l15_s · _ _ _ _) (.t (by omega) (.b (mRaw m hm _) (.b (mRaw x hx _) (.b (equal _ _ (by omega)) (.i (fun q=>.b (mActing m hm _) (.b (mActing x hx _) (.b (equal _ _ (by omega)) (j _ ?_)))) (fun q=>j _ ?_))))))
 ·unfold turnsB
  rw [q,Bool.true_and]
 ·unfold turnsB
  rw [eq_false_of_ne_true q]
  rfl
theorem qFV{m:qE}(h:May m){c:List Bool}(hc:(c.length:Int)=m.f3)(l:List Int)(hl:l.length<1000000)(hg:∀ g ∈ l,0≤g∧g<m.f3):Ev (fun k=>qAL.f k l m c) (l.any fun g => !restB m c g):=by
 obtain ⟨x,hx,hm⟩:=anyG 0 l (fun g => !restB m c g) (fun _ g=>qCI.f g m c) (fun g hgl=>by
  unfold qCI.f
  exact .b0 (grest h hc (hg g hgl)) (.c _)) hl (fun k x=>ql.l5 k l m c x) (fun k x=>ql.l5_s k l m c x) l.length 0 (by omega)
 unfold qAL.f ql.f
 exact .b hx (.cv hm)
theorem gmay(m:qE)(hm:Small m)(d:qF)(c:List Bool)(most:Int){b:Nat}(hb:b≤90000)(hP:Pasts b m):Ev (fun k=>qAl.f k m d c most) (gateL m d c most):=by
 have no:¬ (SoundC m c∧1≤most∧most≤8)→Ev (fun k=>qAl.j16 k m d c most true) (gateL m d c most):=by
  intro q
  unfold gateL
  rw [if_neg q]
  exact .s (qAl.j16_s · _ _ _ _ _) (.t rfl (.c _))
 unfold qAl.f
 refine .b (gsound m hm c) ?_
 by_cases h:SoundC m c
 rotate_left
 ·rw [dF h]
  exact .n (by decide) (no (fun q=>h q.1))
 rw [dT h]
 refine .t rfl (.i (fun q=>no (by omega)) (fun q=>?_))
 by_cases q8:most>8
 ·rw [dT q8]
  exact no (by omega)
 rw [dF q8]
 refine .s (qAl.j16_s · _ _ _ _ _) (.n (by decide) (.b (apply m hm d (by omega) hP) ?_))
 unfold gateL
 rw [if_pos h.1,if_pos ⟨h,by omega,by omega⟩]
 by_cases e:(qJN m d).2=0
 rotate_left
 ·rw [if_neg e]
  exact .n e (.c _)
 have hx:=qEH h.1 d
 have hsx:=hx.small (by omega) (qDT hP d)
 have hf2:(qJN m d).1.f2=m.f2:=by rw [(qIM e).2]
 obtain ⟨N,e3,h8,eN⟩:=groupsN h.1
 have hlt:=qGR (x:=(qJN m d).1) eN
 have hlen:(touchL m (qJN m d).1).length≤8:=Nat.le_trans (by unfold touchL; rw [eN]; exact qDe _ _) h8
 have hr:(restL m c).length≤N:=by unfold restL; rw [eN]; exact qDe _ _
 rw [if_pos e]
 refine .t e (.b (gtouched m _ h.1 hm hsx) ?_)
 generalize touchL m (qJN m d).1=l at hlt hlen ⊢
 by_cases hl:l=[]
 ·rw [if_pos hl,hl]
  exact .t rfl (.c _)
 rw [if_neg hl]
 have loop:∀(D i:Nat),i+D=l.length→Ev (fun k=>qAl.l88 k (qJN m d) l (i:Int)) (if (l.drop i).all (zonesB m.f2 (qJN m d).1)=true then 0 else 12):=by
  intro D
  induction D with
  | zero =>
   intro i hi
   refine .s (qAl.l88_s · _ _ _) (.n (by omega) (.cv ?_))
   rw [List.drop_eq_nil_of_le (by omega)]
   rfl
  | succ D ih =>
   intro i hi
   have h1:i<l.length:=by omega
   have ih:=ih (i+1) (by omega)
   have a3:=qDf (m:=(qJN m d).1) l[i]
   rw [List.drop_eq_getElem_cons h1,List.all_cons]
   have j:∀ b,zonesB m.f2 (qJN m d).1 l[i] = !b→Ev (fun k=>qAl.j118 k (qJN m d) l (i:Int) b) (if (zonesB m.f2 (qJN m d).1 l[i]&&(l.drop (i+1)).all (zonesB m.f2 (qJN m d).1))=true then 0 else 12):=by
    intro b hb
    rw [hb]
    refine .s (qAl.j118_s · _ _ _ _) ?_
    rw [w64n i (by omega)]
    cases b with
    | true=>exact .t rfl (.c _)
    | false=>exact .n (by decide) ih
   refine .s (qAl.l88_s · _ _ _) (.t (by omega) (.t (by omega) ?_))
   rw [nth_get _ _ _ h1]
   refine .b (mActing _ hsx _) (.i (fun q=>j true ?_) (fun q=>.b (Topo.apart _ _ (by have:=hsx.h4; omega) (by omega)) (j _ ?_)))
   ·unfold zonesB
    rw [dF (by omega)]
    rfl
   ·unfold zonesB
    rw [dT (by omega),dT hx.1.2.2.2.2,Bool.not_not]
 refine .n (fun q=>hl (List.length_eq_zero_iff.1 (by omega))) (.b (qFV h.1 h.2 l (by omega) (fun g hg=>by have:=hlt g hg; omega)) (.i (fun q=>?_) (fun q=>.b (grests m hm c) ?_)))
 ·rw [if_pos (.inl q)]
  exact .s (qAl.j77_s · _ _ _) (.t rfl (.c _))
 ·rw [if_pos h]
  have ew:w64 ((w64 (m.f3 - ((restL m c).length:Int)))+(l.length:Int))=m.f3 - ((restL m c).length:Int)+(l.length:Int):=by rw [qCe (n:=m.f3 - ((restL m c).length:Int)) (by omega) (by omega),qCe (by omega) (by omega)]
  rw [ew]
  refine .s (qAl.j77_s · _ _ _) ?_
  by_cases q2:m.f3 - ((restL m c).length:Int)+(l.length:Int)>most
  ·rw [dT q2,if_pos (.inr q2)]
   exact .t rfl (.c _)
  ·rw [dF q2,if_neg (fun w=>w.elim q q2)]
   exact .n (by decide) (loop l.length 0 (Nat.zero_add _))
theorem rsoundC(m:qE)(hm:Small m)(c:List Bool):Ev (fun k=>qBC.f k m c) (decide (SoundC m c)):=by
 unfold qBC.f
 refine .b (may m hm) ?_
 by_cases h:May m
 ·rw [dT h]
  refine .t rfl (.cv ?_)
  rw [Bool.eq_iff_iff,beq_iff_eq,decide_eq_true_eq]
  exact ⟨fun e=>⟨h,e⟩,fun e=>e.2⟩
 ·rw [dF h]
  refine .n (by decide) (.cv ?_)
  rw [dF (fun e:SoundC m c=>h e.1)]
theorem rrest{m:qE}(h:May m){c:List Bool}(hc:(c.length:Int)=m.f3){g:Int}(hg:0≤g∧g<m.f3):qBJ.f m c g=some (restB m c g):=by
 unfold qBJ.f
 exact qHi h hc hg
theorem rtouches{m:qE}(h:May m)(hm:Small m)(d:qF)(hd:d.f6.length<4611686018427387904){b:Nat}(hb:b≤90000)(hP:Pasts b m):Ev (fun k=>qg.f k m d) (if (qJN m d).2=0 then touchL m (qJN m d).1 else []):=by
 unfold qg.f
 refine .b (rapply h d hd (by omega) hP) ?_
 have hx:=qEH h d
 have hsx:=hx.small (by omega) (qDT hP d)
 obtain ⟨N,e3,h8,eN⟩:=groupsN h
 generalize qJN m d=t at hx hsx ⊢
 have fin:∀ acc i,Ev (fun k=>qg.j44 k m t acc i false) acc:=fun acc i=>.s (qg.j44_s · _ _ _ _ _) (.n (by decide) (.c _))
 by_cases e:t.2=0
 ·rw [if_pos e]
  unfold touchL
  rw [eN]
  refine sieve N (turnsB m t.1) (fun k acc y=>qg.l36 k m t acc y) (fun acc=>.s (qg.l36_s · _ _ _ _) (.n (by omega) (fin _ _))) (fun i hi acc ha v hv=>?_)
  have j:∀ b,turnsB m t.1 (i:Int)=b→Ev (fun k=>qg.j91 k m t acc (i:Int) b) v:=by
   intro b hb
   rw [hb]at hv
   refine .s (qg.j91_s · _ _ _ _ _) ?_
   rw [w64n i (by omega)]
   cases b with
   | true=>exact .t rfl (.t (by omega) hv)
   | false=>exact .n (by decide) hv
  have r1:=qFU (m:=m) (i:Int)
  have r2:=qDf (m:=m) (i:Int)
  refine .s (qg.l36_s · _ _ _ _) (.t (by omega) ?_)
  rw [show (t.2 == 0)=true from beq_iff_eq.2 e]
  refine .s (qg.j44_s · _ _ _ _ _) (.t rfl (.b (rRaw m hm _) (.b (rRaw _ hsx _) (.b (ints _ _ (by omega)) (.i (fun q=>.b (rActing m hm _) (.b (rActing _ hsx _) (.b (ints _ _ (by omega)) (j _ ?_)))) (fun q=>j _ ?_))))))
  ·unfold turnsB
   rw [q,Bool.true_and]
  ·unfold turnsB
   rw [eq_false_of_ne_true q]
   rfl
 ·rw [if_neg e]
  refine .s (qg.l36_s · _ _ _ _) (.i (fun _=>?_) (fun _=>fin _ _))
  rw [show (t.2 == 0)=false from beq_eq_false_iff_ne.2 e]
  exact fin _ _
theorem qEc(p:Int→Bool):∀ l:List Int,(l.filter fun x => !p x).length+(l.filter p).length=l.length
 | []=>rfl
 | x :: r=>by
  have ih:=qEc p r
  rw [List.filter_cons,List.filter_cons]
  cases hp:p x
  ·simp
   omega
  ·simp
   omega
theorem rgmay{m:qE}(hm:Small m)(d:qF)(hd:d.f6.length<4611686018427387904)(c:List Bool)(most:Int){b:Nat}(hb:b≤90000)(hP:Pasts b m):Ev (fun k=>qQ.f k m d c most) (gateL m d c most):=by
 have no:¬ (SoundC m c∧1≤most∧most≤8)→Ev (fun k=>qQ.j14 k m d c most true) (gateL m d c most):=by
  intro q
  unfold gateL
  rw [if_neg q]
  exact .s (qQ.j14_s · _ _ _ _ _) (.t rfl (.c _))
 unfold qQ.f
 refine .b (rsoundC m hm c) ?_
 by_cases h:SoundC m c
 rotate_left
 ·rw [dF h]
  exact .n (by decide) (no (fun q=>h q.1))
 rw [dT h]
 refine .t rfl (.i (fun q=>no (by omega)) (fun q=>?_))
 by_cases q8:most>8
 ·rw [dT q8]
  exact no (by omega)
 rw [dF q8]
 refine .s (qQ.j14_s · _ _ _ _ _) (.n (by decide) (.b (rapply h.1 d hd (by omega) hP) ?_))
 have rt:=rtouches h.1 hm d hd hb hP
 unfold gateL
 rw [if_pos ⟨h,by omega,by omega⟩]
 by_cases e:(qJN m d).2=0
 rotate_left
 ·rw [if_neg e]
  exact .n e (.c _)
 rw [if_pos e]at rt ⊢
 have hx:=qEH h.1 d
 have hsx:=hx.small (by omega) (qDT hP d)
 obtain ⟨N,e3,h8,eN⟩:=groupsN h.1
 have hlt:=qGR (x:=(qJN m d).1) eN
 have hlen:(touchL m (qJN m d).1).length≤8:=Nat.le_trans (by unfold touchL; rw [eN]; exact qDe _ _) h8
 refine .t e (.b rt ?_)
 generalize touchL m (qJN m d).1=l at hlt hlen ⊢
 have loop:∀(D i:Nat),i+D=l.length→Ev (fun k=>qQ.l108 k m (qJN m d) l (i:Int)) (if (l.drop i).all (zonesB m.f2 (qJN m d).1)=true then 0 else 12):=by
  intro D
  induction D with
  | zero =>
   intro i hi
   refine .s (qQ.l108_s · _ _ _ _) (.n (by omega) (.cv ?_))
   rw [List.drop_eq_nil_of_le (by omega)]
   rfl
  | succ D ih =>
   intro i hi
   have h1:i<l.length:=by omega
   have ih:=ih (i+1) (by omega)
   have a3:=qDf (m:=(qJN m d).1) l[i]
   rw [List.drop_eq_getElem_cons h1,List.all_cons]
   have j:∀ b,zonesB m.f2 (qJN m d).1 l[i] = !b→Ev (fun k=>qQ.j137 k m (qJN m d) l (i:Int) b) (if (zonesB m.f2 (qJN m d).1 l[i]&&(l.drop (i+1)).all (zonesB m.f2 (qJN m d).1))=true then 0 else 12):=by
    intro b hb
    rw [hb]
    refine .s (qQ.j137_s · _ _ _ _ _) ?_
    rw [w64n i (by omega)]
    cases b with
    | true=>exact .t rfl (.c _)
    | false=>exact .n (by decide) ih
   refine .s (qQ.l108_s · _ _ _ _) (.t (by omega) (.t (by omega) ?_))
   rw [nth_get _ _ _ h1]
   refine .b (rActing _ hsx _) (.i (fun q=>j true ?_) (fun q=>.b (Topo.refapart _ _ (by have:=hsx.h4; omega) (by omega)) (j _ ?_)))
   ·unfold zonesB
    rw [dF (by omega)]
    rfl
   ·unfold zonesB
    rw [dT (by omega),Bool.true_and,Bool.not_not]
 have j97:∀ b,((l.any (fun g => !restB m c g)=true∨m.f3 - ((restL m c).length:Int)+(l.length:Int)>most)↔b=true)→l≠[]→Ev (fun k=>qQ.j97 k m (qJN m d) l b) (if l=[] then 0 else if l.any (fun g => !restB m c g)=true∨m.f3 - ((restL m c).length:Int)+(l.length:Int)>most then 11 else if l.all (zonesB m.f2 (qJN m d).1)=true then 0 else 12):=by
  intro b hb hl
  rw [if_neg hl]
  refine .s (qQ.j97_s · _ _ _ _) ?_
  cases b with
  | true =>
   rw [if_pos (hb.2 rfl)]
   exact .t rfl (.c _)
  | false =>
   rw [if_neg (fun w=>nF (hb.1 w))]
   exact .n (by decide) (loop l.length 0 (Nat.zero_add _))
 have hn:((idsU N).filter fun g => !restB m c g).length+(restL m c).length=N:=by
  unfold restL
  rw [eN,qEc,qGQ]
 have l74:∀(D i:Nat)(w:Bool),i+D=l.length→((w||(l.drop i).any (fun g => !restB m c g))=l.any (fun g => !restB m c g))→Ev (fun k=>qQ.l74 k m c most (qJN m d) l ((l.length+((idsU N).filter fun g => !restB m c g).length:Nat):Int) w (i:Int)) (if l=[] then 0 else if l.any (fun g => !restB m c g)=true∨m.f3 - ((restL m c).length:Int)+(l.length:Int)>most then 11 else if l.all (zonesB m.f2 (qJN m d).1)=true then 0 else 12):=by
  intro D
  induction D with
  | zero =>
   intro i w hi hw
   rw [List.drop_eq_nil_of_le (by omega),List.any_nil,Bool.or_false]at hw
   refine .s (qQ.l74_s · _ _ _ _ _ _ _ _) (.n (by omega) (.i (fun q=>.i (fun q2=>j97 true ?_ ?_) (fun q2=>j97 _ ?_ ?_)) (fun q=>?_)))
   ·exact ⟨fun _=>rfl,fun _=>.inl (hw ▸ q2)⟩
   ·intro e; rw [e]at q; exact absurd q (by decide)
   ·rw [decide_eq_true_eq,← hw]
    refine ⟨fun h=>?_,fun h=>.inr (by omega)⟩
    rcases h with h | h
    ·exact absurd h q2
    ·omega
   ·intro e; rw [e]at q; exact absurd q (by decide)
   ·have hl:l=[]:=List.length_eq_zero_iff.1 (by omega)
    rw [if_pos hl]
    refine .s (qQ.j97_s · _ _ _ _) (.n (by decide) ((loop l.length 0 (Nat.zero_add _)).v ?_))
    rw [hl]
    rfl
  | succ D ih =>
   intro i w hi hw
   have h1:i<l.length:=by omega
   rw [List.drop_eq_getElem_cons h1,List.any_cons]at hw
   refine .s (qQ.l74_s · _ _ _ _ _ _ _ _) (.t (by omega) ?_)
   rw [w64n i (by omega)]
   refine .i (fun q=>?_) (fun q=>.t (by omega) ?_)
   ·refine ih (i+1) true (by omega) ?_
    rw [q]at hw
    rw [← hw]
    rfl
   ·rw [nth_get _ _ _ h1]
    have hg:=hlt l[i] (gM h1)
    refine .b0 (rrest h.1 h.2 ⟨hg.1,by omega⟩) (ih (i+1) _ (by omega) ?_)
    rw [eq_false_of_ne_true q,Bool.false_or]at hw
    exact hw
 have l57:∀(D i:Nat),i+D=N→Ev (fun k=>qQ.l57 k m c most (qJN m d) l ((l.length+((idsU i).filter fun g => !restB m c g).length:Nat):Int) (i:Int)) (if l=[] then 0 else if l.any (fun g => !restB m c g)=true∨m.f3 - ((restL m c).length:Int)+(l.length:Int)>most then 11 else if l.all (zonesB m.f2 (qJN m d).1)=true then 0 else 12):=by
  intro D
  induction D with
  | zero =>
   intro i hi
   obtain rfl:i=N:=by omega
   exact .s (qQ.l57_s · _ _ _ _ _ _ _) (.n (by omega) (l74 l.length 0 false (Nat.zero_add _) rfl))
  | succ D ih =>
   intro i hi
   have ih:=ih (i+1) (by omega)
   have hsl:=qDe i (fun g => !restB m c g)
   rw [qFT,List.filter_append,lA]at ih
   refine .s (qQ.l57_s · _ _ _ _ _ _ _) (.t (by omega) (.b0 (rrest h.1 h.2 ⟨by omega,by omega⟩) ?_))
   rw [w64n i (by omega),w64n _ (by omega)]
   refine .i (fun q=>?_) (fun q=>?_)
   ·rw [List.filter_cons_of_neg (by rw [q]; decide),List.filter_nil,List.length_nil,Nat.add_zero]at ih
    exact ih
   ·rw [List.filter_cons_of_pos (by rw [eq_false_of_ne_true q]; decide),List.filter_nil,List.length_singleton,← Nat.add_assoc]at ih
    exact ih
 exact l57 N 0 (Nat.zero_add _)
def WorkOk(x:qAH):Prop:=(x.f0.length:Int)≤100∧(0≤x.f1∧x.f1≤(x.f0.length:Int))∧1≤x.f2∧x.f2≤8
instance (x:qAH):Decidable (WorkOk x):=inferInstanceAs (Decidable (_∧_))
def noD:qF:=⟨0,0,0,0,0,0,[]⟩
def stepAt(m:qE)(c:List Bool)(most:Int):Nat→List qF→Int × qF × Int
 | i,[]=>((i:Int),noD,5)
 | i,d :: r=>if (qJN m d).2=7∨(qJN m d).2=5 then stepAt m c most (i+1) r else if gateL m d c most=0 then ((i:Int),d,0) else ((i:Int),noD,gateL m d c most)
theorem gcheck(x:qAH):Ev (fun k=>qBE.f k x) (eno (decide (WorkOk x))):=by
 have j:∀ b:Bool,(b=true↔¬ WorkOk x)→Ev (fun k=>qBE.j11 k b) (eno (decide (WorkOk x))):=by
  intro b hb
  refine .s (qBE.j11_s · _) (.i (fun q=>.cv ?_) (fun q=>.cv ?_))
  ·rw [dF (hb.1 q)]
   rfl
  ·rw [dT (Classical.byContradiction fun e=>q (hb.2 e))]
   rfl
 unfold qBE.f
 refine .i (fun q=>j true ⟨fun _ w=>absurd w.1 (by omega),fun _=>rfl⟩) (fun q1=>.i (fun q=>j true ⟨fun _ w=>absurd w.2.1.1 (by omega),fun _=>rfl⟩) (fun q2=>.i (fun q=>j true ⟨fun _ w=>absurd w.2.1.2 (by omega),fun _=>rfl⟩) (fun q3=>.i (fun q=>j true ⟨fun _ w=>absurd w.2.2.1 (by omega),fun _=>rfl⟩) (fun q4=>j _ ?_))))
 rw [decide_eq_true_eq]
 exact ⟨fun q w=>absurd w.2.2.2 (by omega),fun w=>Classical.byContradiction fun q=>w ⟨by omega,by omega,by omega,by omega⟩⟩
theorem gown(x:qAH)(hl:x.f0.length≤1000)(h6:∀ d ∈ x.f0,d.f6.length≤20):Ev (fun k=>qBe.f k x) x:=by
 have go:∀(d i:Nat),i+d=x.f0.length→Ev (fun k=>qBe.l21 k x x.f0 x.f0 (i:Int)) x:=by
  intro d
  induction d with
  | zero =>
   intro i hi
   exact .s (qBe.l21_s · _ _ _ _) (.n (by omega) (.c _))
  | succ d ih =>
   intro i hi
   have h1:i<x.f0.length:=by omega
   have:=h6 _ (gM h1)
   refine .s (qBe.l21_s · _ _ _ _) (.t (by omega) (.t (by omega) ?_))
   rw [nth_get _ _ _ h1,w64n i (by omega)]
   refine .b0 (clone _ (by omega)) ?_
   rw [tN,show (⟨x.f0[i].f0,x.f0[i].f1,x.f0[i].f2,x.f0[i].f3,x.f0[i].f4,x.f0[i].f5,x.f0[i].f6⟩:qF)=x.f0[i] from rfl,List.set_getElem_self]
   exact ih (i+1) (by omega)
 unfold qBe.f
 have e:qAe.f x.f0=some x.f0:=by
  unfold qAe.f
  rw [if_pos (by rw [List.length_nil]; omega)]
  rfl
 exact .b0 e (go x.f0.length 0 (Nat.zero_add _))
theorem gpassed{m:qE}(h:May m)(hm:Small m)(d:qF){b:Nat}(hb:b≤90000)(hP:Pasts b m):Ev (fun k=>qBz.f k m d) (decide ((qJN m d).2=7∨(qJN m d).2=5)):=by
 have ha:=apply m hm d (by omega) hP
 rw [if_pos h]at ha
 unfold qBz.f
 refine .b ha (.i (fun q=>.cv (dT (.inl q)).symm) (fun q=>.cv ?_))
 rw [Bool.eq_iff_iff,beq_iff_eq,decide_eq_true_eq]
 exact ⟨.inr,fun e=>e.resolve_left q⟩
theorem gnext{x:qAH}(hx:WorkOk x)(h6:∀ d ∈ x.f0,d.f6.length≤20){m:qE}{c:List Bool}(hs:SoundC m c)(hm:Small m){b:Nat}(hb:b≤90000)(hP:Pasts b m){a:Nat}(ha:(a:Int)=x.f1):
  Ev (fun k=>qAs.f k x m c) ((⟨x.f0,(stepAt m c x.f2 a (x.f0.drop a)).1,x.f2⟩,(stepAt m c x.f2 a (x.f0.drop a)).2.1,(stepAt m c x.f2 a (x.f0.drop a)).2.2):qAH × qF × Int):=by
 have hl:=hx.1
 have go:∀(d i:Nat),i+d=x.f0.length→Ev (fun k=>qAs.l43 k m c x (i:Int)) ((⟨x.f0,(stepAt m c x.f2 i (x.f0.drop i)).1,x.f2⟩,(stepAt m c x.f2 i (x.f0.drop i)).2.1,(stepAt m c x.f2 i (x.f0.drop i)).2.2):qAH × qF × Int):=by
  intro d
  induction d with
  | zero =>
   intro i hi
   rw [List.drop_eq_nil_of_le (by omega)]
   exact .s (qAs.l43_s · _ _ _ _) (.n (by omega) (.s (qAs.j63_s · _ _ _ _ _) (.n nF (.t (by omega) (.c _)))))
  | succ d ih =>
   intro i hi
   have h1:i<x.f0.length:=by omega
   have h20:=h6 _ (gM h1)
   refine .s (qAs.l43_s · _ _ _ _) (.t (by omega) (.t (by omega) ?_))
   rw [nth_get _ _ _ h1,List.drop_eq_getElem_cons h1,stepAt]
   refine .b (gpassed hs.1 hm _ hb hP) (.s (qAs.j63_s · _ _ _ _ _) (.i (fun q=>?_) (fun q=>.n (by omega) (.t (by omega) ?_))))
   ·rw [if_pos (oT q),w64n i (by omega)]
    exact ih (i+1) (by omega)
   ·rw [if_neg (fun e=>q (dT e)),nth_get _ _ _ h1]
    refine .b (gmay m hm _ c x.f2 hb hP) (.i (fun q0=>?_) (fun q0=>?_))
    ·rw [if_pos q0]
     exact .b0 (clone _ (by omega)) (.c _)
    ·rw [if_neg q0]
     exact .c _
 unfold qAs.f
 have hc:=gcheck x
 rw [dT hx]at hc
 have hso:=gsound m hm c
 rw [dT hs]at hso
 refine .b hc (.t rfl (.b hso (.s (qAs.j20_s · _ _ _ _) (.n (by decide) (.b (gown x (by omega) h6) ?_)))))
 have h21:=hx.2.1
 rw [← ha]
 exact go (x.f0.length - a) a (by omega)
theorem qHj{x:qAH}{m:qE}(hm:Small m){c:List Bool}(hn:¬ (WorkOk x∧SoundC m c)):Ev (fun k=>qAs.f k x m c) ((⟨[],0,0⟩,noD,1):qAH × qF × Int):=by
 have no:Ev (fun k=>qAs.j20 k x m c true) ((⟨[],0,0⟩,noD,1):qAH × qF × Int):=.s (qAs.j20_s · _ _ _ _) (.t rfl (.c _))
 unfold qAs.f
 refine .b (gcheck x) ?_
 by_cases hx:WorkOk x
 ·rw [dT hx]
  refine .t rfl (.b (gsound m hm c) ?_)
  rw [dF (fun e=>hn ⟨hx,e⟩)]
  exact no
 ·rw [dF hx]
  exact .n (by decide) no
theorem step_ge(m:qE)(c:List Bool)(most:Int):∀(l:List qF)(i:Nat),(i:Int)≤(stepAt m c most i l).1∧(stepAt m c most i l).1≤((i+l.length:Nat):Int)
 | [],i=>⟨Int.le_refl _,Int.le_refl _⟩
 | d :: r,i=>by
  rw [stepAt,List.length_cons]
  split
  ·have:=step_ge m c most r (i+1)
   omega
  ·split <;> (dsimp only; omega)
theorem rwork(x:qAH):qAz.f x=some (decide (WorkOk x)):=by
 unfold qAz.f
 by_cases h1:(x.f0.length:Int)≤100
 ·rw [if_pos h1]
  by_cases h2:x.f1≥0
  ·rw [if_pos h2]
   by_cases h3:x.f1≤(x.f0.length:Int)
   ·rw [if_pos h3]
    by_cases h4:x.f2≥1
    ·rw [if_pos h4]
     congr 1
     rw [decide_eq_decide]
     exact ⟨fun q=>⟨h1,⟨h2,h3⟩,h4,q⟩,fun w=>w.2.2.2⟩
    ·rw [if_neg h4,dF (fun w=>h4 w.2.2.1)]
   ·rw [if_neg h3,dF (fun w=>h3 w.2.1.2)]
  ·rw [if_neg h2,dF (fun w=>h2 w.2.1.1)]
 ·rw [if_neg h1,dF (fun w=>h1 w.1)]
theorem rgnext{x:qAH}(hl:x.f0.length≤1000)(h6:∀ d ∈ x.f0,d.f6.length≤20){m:qE}(h:May m)(c:List Bool)(hm:Small m){b:Nat}(hb:b≤90000)(hP:Pasts b m){a:Nat}(ha:(a:Int)=x.f1)(hal:a≤x.f0.length):
  Ev (fun k=>qAD.f k x m c) (stepAt m c x.f2 a (x.f0.drop a)):=by
 have go:∀(d i:Nat),i+d=x.f0.length→Ev (fun k=>qAD.l12 k x m c (i:Int)) (stepAt m c x.f2 i (x.f0.drop i)):=by
  intro d
  induction d with
  | zero =>
   intro i hi
   obtain rfl:i=x.f0.length:=by omega
   rw [List.drop_length]
   exact .s (qAD.l12_s · _ _ _ _) (.n (by omega) (.c _))
  | succ d ih =>
   intro i hi
   have h1:i<x.f0.length:=by omega
   have h20:=h6 _ (gM h1)
   rw [List.drop_eq_getElem_cons h1,stepAt]
   have j:∀ b:Bool,(b=true↔(qJN m x.f0[i]).2=7∨(qJN m x.f0[i]).2=5)→Ev (fun k=>qAD.j52 k x m c (i:Int) b) (if (qJN m x.f0[i]).2=7∨(qJN m x.f0[i]).2=5 then stepAt m c x.f2 (i+1) (x.f0.drop (i+1)) else if gateL m x.f0[i] c x.f2=0 then ((i:Int),x.f0[i],0) else ((i:Int),noD,gateL m x.f0[i] c x.f2)):=by
    intro b hbb
    refine .s (qAD.j52_s · _ _ _ _ _) (.i (fun q=>?_) (fun q=>?_))
    ·rw [if_pos (hbb.1 q),w64n i (by omega)]
     exact ih (i+1) (by omega)
    ·rw [if_neg (fun e=>q (hbb.2 e)),nth_get _ _ _ h1]
     refine .b (rgmay hm _ (by omega) c x.f2 hb hP) (.i (fun q0=>?_) (fun q0=>?_))
     ·rw [if_pos q0]
      exact .c _
     ·rw [if_neg q0]
      exact .c _
   refine .s (qAD.l12_s · _ _ _ _) (.t (by omega) (.t (by omega) ?_))
   rw [nth_get _ _ _ h1]
   refine .b (rapply h _ (by omega) (by omega) hP) (.i (fun q=>j true ⟨fun _=>.inl q,fun _=>rfl⟩) (fun q=>j _ ?_))
   rw [beq_iff_eq]
   exact ⟨.inr,fun e=>e.resolve_left q⟩
 unfold qAD.f
 rw [← ha]
 exact go (x.f0.length - a) a (by omega)
theorem awake(k:Nat):qAr.f (k+10000)=some true:=by kernel_rfl
theorem awakes:Ev (fun k=>qAr.f k) true:=⟨10000,fun k hk=>by
 obtain ⟨k,rfl⟩:∃ m,k=m+10000:=⟨k - 10000,by omega⟩
 exact awake k⟩
theorem gleft(x:qAH):Ev (fun k=>qCD.f k x) (if WorkOk x then w64 ((x.f0.length:Int) - x.f1) else 0):=by
 unfold qCD.f
 refine .b (gcheck x) ?_
 by_cases h:WorkOk x
 ·rw [dT h,if_pos h]
  exact .t rfl (.c _)
 ·rw [dF h,if_neg h]
  exact .n (by decide) (.c _)
theorem qIW(b:Bool):(eno b == 0)=b:=by cases b <;> rfl
end Maps
open Maps in
theorem pureGateNext:PureGateNext:=by
 intro x m c _ _ _
 refine Ev.one (f:=fun k=>qP.f k x m c) (v:=true) ?_
 have aw:Ev (fun k=>(qAr.f k).bind fun t=>some t) true:=.b Maps.awakes (.c _)
 have out:Ev (fun k=>qP.j17 k x m c true) true:=.s (qP.j17_s · _ _ _ _) (.t rfl aw)
 unfold qP.f
 obtain ⟨b,hb,hL⟩:=Maps.light m
 refine .b hb ?_
 cases b with
 | false=>exact .n nF out
 | true =>
  have h8:=hL rfl
  have hm:=h8.small
  have main:x.f0.length≤110→Ev (fun k=>qP.j17 k x m c (decide ((c.length:Int)>30))) true:=by
   intro hl
   by_cases h30:(c.length:Int)>30
   ·rw [dT h30]
    exact out
   rw [dF h30]
   refine .s (qP.j17_s · _ _ _ _) (.n nF ?_)
   have done:(∀ d ∈ x.f0,d.f6.length≤20)→Ev (fun k=>(qAs.f k x m c).bind fun t54=>((qBE.f k x).bind fun t74=>((qAz.f x).bind fun t77=>(if (t74 == 0)=t77 then ((qAz.f x).bind fun t84=>(if t84=true then ((qBC.f k m c).bind fun t88=>(qP.j91 k x m c t54 (!t88))) else (qP.j91 k x m c t54 true))) else (some false))))) true:=by
    intro h6
    by_cases hws:WorkOk x∧SoundC m c
    ·obtain ⟨hw,hs⟩:=hws
     obtain ⟨a,ha⟩:∃ a:Nat,(a:Int)=x.f1:=⟨x.f1.toNat,by have:=hw.2.1; omega⟩
     have hal:a≤x.f0.length:=by have:=hw.2.1; omega
     refine .b (gnext hw h6 hs hm (b:=20) (by decide) h8.pasts ha) (.b (gcheck x) (.b0 (rwork x) ?_))
     rw [qIW,dT hw]
     have hso:=rsoundC m hm c
     rw [dT hs]at hso
     refine .t rfl (.b0 (rwork x) ?_)
     rw [dT hw]
     refine .t rfl (.b hso (.s (qP.j91_s · _ _ _ _ _) (.n (by decide) (.b (rgnext (by omega) h6 hs.1 c hm (b:=20) (by decide) h8.pasts ha hal) (.t rfl (.t rfl (.t rfl (.b (rdeltasL _ _ (by show x.f0.length<1000000; omega) (fun d hd=>by have:=h6 d hd; omega)) ?_))))))))
     rw [dT rfl]
     have hst:(stepAt m c x.f2 a (x.f0.drop a)).2.1.f6.length<4611686018427387904:=by
      have key:∀(l:List qF)(i:Nat),(∀ d ∈ l,d.f6.length≤20)→(stepAt m c x.f2 i l).2.1.f6.length<4611686018427387904:=by
       intro l
       induction l with
       | nil=>intro i _; exact (by decide:(0:Nat)<4611686018427387904)
       | cons d r ih =>
        intro i hd
        rw [stepAt]
        split
        ·exact ih _ (fun y hy=>hd y (List.mem_cons_of_mem _ hy))
        ·split
         ·have:=hd d List.mem_cons_self
          show d.f6.length<_
          omega
         ·exact (by decide:(0:Nat)<4611686018427387904)
      exact key _ _ (fun d hd=>h6 d (List.mem_of_mem_drop hd))
     refine .t rfl (.b (rdeltas _ _ hst) ?_)
     rw [dT rfl]
     refine .t rfl (.b (gleft _) ?_)
     have hge:=step_ge m c x.f2 (x.f0.drop a) a
     rw [List.length_drop]at hge
     rw [if_pos (show WorkOk ⟨x.f0,(stepAt m c x.f2 a (x.f0.drop a)).1,x.f2⟩ from ⟨hw.1,⟨by show 0≤(stepAt m c x.f2 a (x.f0.drop a)).1; omega,by show (stepAt m c x.f2 a (x.f0.drop a)).1≤(x.f0.length:Int); omega⟩,hw.2.2⟩)]
     exact .t rfl aw
    ·refine .b (qHj hm hws) (.b (gcheck x) (.b0 (rwork x) ?_))
     rw [qIW]
     have j105:∀ v:Int,v=(if WorkOk x then w64 ((x.f0.length:Int) - x.f1) else 0)→Ev (fun k=>qP.j105 k x (⟨[],0,0⟩,noD,1) v) true:=by
      intro v hv
      refine .s (qP.j105_s · _ _ _) (.t rfl (.t rfl (.t rfl (.t rfl (.b (rdeltas noD noD (by decide)) ?_)))))
      rw [dT rfl]
      exact .t rfl (.b (gleft x) (.t hv.symm aw))
     have j91:Ev (fun k=>qP.j91 k x m c (⟨[],0,0⟩,noD,1) true) true:=by
      refine .s (qP.j91_s · _ _ _ _ _) (.t rfl (.b0 (rwork x) (.i (fun q=>j105 _ ?_) (fun q=>j105 _ ?_))))
      ·rw [if_pos (oT q)]
      ·rw [if_neg (fun e=>q (dT e))]
     refine .t rfl (.b0 (rwork x) (.i (fun q=>?_) (fun _=>j91)))
     have hso:=rsoundC m hm c
     rw [dF (fun e=>hws ⟨oT q,e⟩)]at hso
     exact .b hso j91
   have loop:∀(d i:Nat),i+d=x.f0.length→(∀ y ∈ x.f0.take i,y.f6.length≤20)→Ev (fun k=>qP.l30 k x m c (i:Int)) true:=by
    intro d
    induction d with
    | zero =>
     intro i hi h6
     rw [List.take_of_length_le (by omega)]at h6
     exact .s (qP.l30_s · _ _ _ _) (.n (by omega) (done h6))
    | succ d ih =>
     intro i hi h6
     have h1:i<x.f0.length:=by omega
     refine .s (qP.l30_s · _ _ _ _) (.t (by omega) (.t (by omega) ?_))
     rw [nth_get _ _ _ h1,w64n i (by omega)]
     refine .i (fun _=>aw) (fun q=>ih (i+1) (by omega) (fun y hy=>?_))
     rw [← List.take_append_getElem h1,List.mem_append,List.mem_singleton]at hy
     rcases hy with hy | rfl
     ·exact h6 y hy
     ·omega
   exact loop x.f0.length 0 (Nat.zero_add _) (fun y hy=>nomatch hy)
  refine .t rfl (.i (fun q=>.i (fun _=>out) (fun _=>.i (fun _=>out) (fun q2=>main (by omega)))) (fun q=>.i (fun _=>out) (fun q2=>main (by omega))))
end Go.Proofs.YthgfhlbjkmjlpaaGreat.GN
