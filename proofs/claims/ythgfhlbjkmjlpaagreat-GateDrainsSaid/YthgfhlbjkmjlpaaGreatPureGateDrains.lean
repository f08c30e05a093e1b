import Derived.Test.YthgfhlbjkmjlpaaGreatPureGateDrainsA
namespace Go.Proofs.YthgfhlbjkmjlpaaGreat.GD
open Go Go.RowKit Go.Proofs.YthgfhlbjkmjlpaaGreat Go.Proofs.YthgfhlbjkmjlpaaGreat.Sl
set_option linter.unusedVariables false
set_option linter.unusedSimpArgs false
namespace Maps
theorem min'(x a b:Int):qBR.f x a b=some (decide (a<=x/\x<=b)):=by
 unfold qBR.f
 by_cases h:x>=a
 ·rw [if_pos h]
  congr 1
  simp only [decide_eq_decide]
  omega
 ·rw [if_neg h,dF (by omega)]
def temps(m:qD):Int->List qE->Bool
 | _,[]=>true
 | p,t :: l=>(decide ((0<=t.f0/\t.f0<m.f3)/\p<t.f0/\1<=(t.f1.length:Int)/\(t.f1.length:Int)<=m.f1)&&Topo.apartR m.f4 [] t.f1)&&temps m t.f0 l
def riseI:Int->List Int->Bool
 | _,[]=>true
 | p,n :: l=>decide ((1<=n/\n<=999)/\p<n)&&riseI n l
def past(m:qD)(since:Int):Int->List qG->List qG->Bool
 | _,_,[]=>true
 | p,seen,s :: l=>(decide ((0<=s.f0/\s.f0<since)/\p<s.f0/\m.f2<=(s.f1.length:Int)/\(s.f1.length:Int)<=m.f1)&&riseI 0 s.f1 && !decide (∃ x ∈ seen,x.f1=s.f1))&&past m since s.f0 (seen++[s]) l
def trails(m:qD):List qC->Bool
 | []=>true
 | t :: l=>(decide (0<=t.f0/\t.f0<=m.f0)&&past m t.f0 (-1) [] t.f1)&&trails m l
def Flat(m:qD):Prop:=(0<=m.f0/\m.f0<=2147483647)/\(1<=m.f1/\m.f1<=3)/\(1<=m.f2/\m.f2<=m.f1)/\(1<=m.f3/\m.f3<=8)/\Topo.Nodes m.f4
instance (m:qD):Decidable (Flat m):=inferInstanceAs (Decidable (_/\_))
def May(m:qD):Prop:=Flat m/\temps m (-1) m.f5=true/\(m.f6.length:Int)=m.f3/\trails m m.f6=true
instance (m:qD):Decidable (May m):=inferInstanceAs (Decidable (_/\_))
structure Small (m:qD):Prop where
 h4:m.f4.length<4611686018427387904
 h5:m.f5.length<4611686018427387904
 h6:m.f6.length<4611686018427387904
 hp:∀ t ∈ m.f6,t.f1.length<4611686018427387904
 hs:∀ t ∈ m.f6,∀ s ∈ t.f1,s.f1.length<4611686018427387904
def preT(l:List qE)(i:Nat):Int:=if i=0 then -1 else (nth qE.z l (w64 ((i:Int) - 1))).f0
theorem qGG(l:List qE)(i:Nat)(h:i<l.length)(hl:l.length<4611686018427387904):preT l (i+1)=l[i].f0:=by
 unfold preT
 rw [if_neg (by omega),w64p (i+1) (by omega) (by omega),show i+1 - 1=i by omega,nth_get _ _ _ h]
def preS(l:List qG)(i:Nat):Int:=if i=0 then -1 else (nth qG.z l (w64 ((i:Int) - 1))).f0
theorem qIb(l:List qG)(i:Nat)(h:i<l.length)(hl:l.length<4611686018427387904):preS l (i+1)=l[i].f0:=by
 unfold preS
 rw [if_neg (by omega),w64p (i+1) (by omega) (by omega),show i+1 - 1=i by omega,nth_get _ _ _ h]
def preI(l:List Int)(i:Nat):Int:=if i=0 then 0 else nth 0 l (w64 ((i:Int) - 1))
theorem qGH(l:List Int)(i:Nat)(h:i<l.length)(hl:l.length<4611686018427387904):preI l (i+1)=l[i]:=by
 unfold preI
 rw [if_neg (by omega),w64p (i+1) (by omega) (by omega),show i+1 - 1=i by omega,nth_get _ _ _ h]
theorem qFh{α : Type}(a b:List α)(i:Nat)(ha:i<a.length)(hb:i<b.length):(a.drop i=b.drop i)↔(a[i]=b[i]/\a.drop (i+1)=b.drop (i+1)):=by
 rw [List.drop_eq_getElem_cons ha,List.drop_eq_getElem_cons hb,List.cons.injEq]
theorem qJV(a b:List Int)(hab:a.length=b.length)(hl:a.length<4611686018427387904):∀(d i:Nat),i+d=a.length->Ev (fun k=>qr.l9 k a b (i:Int)) (decide (a.drop i=b.drop i)):=by
 intro d
 induction d with
 | zero =>
  intro i hi
  refine .s (qr.l9_s · _ _ _) (.n (by omega) (.cv ?_))
  rw [List.drop_eq_nil_of_le (by omega),List.drop_eq_nil_of_le (by omega)]
  rfl
 | succ d ih =>
  intro i hi
  have h1:i<a.length:=by omega
  have h2:i<b.length:=by omega
  refine .s (qr.l9_s · _ _ _) (.t (by omega) (.t (by omega) (.t (by omega) ?_)))
  rw [nth_get _ _ _ h1,nth_get _ _ _ h2,w64n i (by omega)]
  refine .i (fun h=>(ih (i+1) (by omega)).v ?_) fun h=>.cv ?_
  ·simp only [qFh a b i h1 h2,h,true_and]
  ·simp only [qFh a b i h1 h2,h,false_and,decide_false]
theorem equal(a b:List Int)(hl:a.length<4611686018427387904):Ev (fun k=>qr.f k a b) (decide (a=b)):=by
 unfold qr.f
 refine .i (fun h=>qJV a b (by omega) hl a.length 0 (by omega)) fun h=>.cv ?_
 exact (dF fun e=>h (by rw [e])).symm
theorem qKH(a b:List Int)(hab:a.length=b.length)(hl:a.length<4611686018427387904):∀(d i:Nat),i+d=a.length->Ev (fun k=>qAE.l9 k a b (i:Int)) (decide (a.drop i=b.drop i)):=by
 intro d
 induction d with
 | zero =>
  intro i hi
  refine .s (qAE.l9_s · _ _ _) (.n (by omega) (.cv ?_))
  rw [List.drop_eq_nil_of_le (by omega),List.drop_eq_nil_of_le (by omega)]
  rfl
 | succ d ih =>
  intro i hi
  have h1:i<a.length:=by omega
  have h2:i<b.length:=by omega
  refine .s (qAE.l9_s · _ _ _) (.t (by omega) (.t (by omega) (.t (by omega) ?_)))
  rw [nth_get _ _ _ h1,nth_get _ _ _ h2,w64n i (by omega)]
  refine .i (fun h=>(ih (i+1) (by omega)).v ?_) fun h=>.cv ?_
  ·simp only [qFh a b i h1 h2,h,true_and]
  ·simp only [qFh a b i h1 h2,h,false_and,decide_false]
theorem ints(a b:List Int)(hl:a.length<4611686018427387904):Ev (fun k=>qAE.f k a b) (decide (a=b)):=by
 unfold qAE.f
 refine .i (fun h=>qKH a b (by omega) hl a.length 0 (by omega)) fun h=>.cv ?_
 exact (dF fun e=>h (by rw [e])).symm
theorem qKI(l:List qG)(s:qG)(hl:l.length<4611686018427387904)(hs:∀ x ∈ l,x.f1.length<4611686018427387904):∀(d i:Nat),i+d=l.length->∃ x,Ev (fun k=>qX.l5 k l s (i:Int)) x/\(0<=x↔∃ y ∈ l.drop i,y.f1=s.f1):=by
 intro d
 induction d with
 | zero =>
  intro i hi
  refine ⟨-1,.s (qX.l5_s · _ _ _) (.n (by omega) (.c _)),?_⟩
  rw [List.drop_eq_nil_of_le (by omega)]
  simp
 | succ d ih =>
  intro i hi
  have h1:i<l.length:=by omega
  obtain ⟨x,hx,hm⟩:=ih (i+1) (by omega)
  have hq:Ev (fun k=>qCC.f k l[i] s) (decide (l[i].f1=s.f1)):=by
   unfold qCC.f
   exact .b (equal _ _ (hs _ (gM h1))) (.c _)
  by_cases h:l[i].f1=s.f1
  ·refine ⟨i,.s (qX.l5_s · _ _ _) (.t (by omega) (.t (by omega) ?_)),?_⟩
   ·rw [nth_get _ _ _ h1]
    exact .b hq (.t (dT h) (.c _))
   ·rw [List.drop_eq_getElem_cons h1]
    exact ⟨fun _=>⟨_,List.mem_cons_self,h⟩,fun _=>by omega⟩
  ·refine ⟨x,.s (qX.l5_s · _ _ _) (.t (by omega) (.t (by omega) ?_)),?_⟩
   ·rw [nth_get _ _ _ h1,w64n i (by omega)]
    exact .b hq (.n (by simpa using h) hx)
   ·rw [List.drop_eq_getElem_cons h1,hm]
    exact ⟨fun ⟨y,m,e⟩=>⟨y,List.mem_cons.2 (.inr m),e⟩,fun ⟨y,m,e⟩=>⟨y,(List.mem_cons.1 m).resolve_left fun q=>h (q ▸ e),e⟩⟩
theorem seen(l:List qG)(s:qG)(hl:l.length<4611686018427387904)(hs:∀ x ∈ l,x.f1.length<4611686018427387904):Ev (fun k=>qu.f k l s) (decide (∃ y ∈ l,y.f1=s.f1)):=by
 obtain ⟨x,hx,hm⟩:=qKI l s hl hs l.length 0 (by omega)
 unfold qu.f qX.f
 refine .b hx (.cv ?_)
 rw [decide_eq_decide]
 exact hm
theorem qJW (m:qD) (t:qC) (i:Nat) (hl:t.f1.length<4611686018427387904) (hs:∀ s ∈ t.f1,s.f1.length<4611686018427387904) (hi:i<t.f1.length) (w:Bool)
  (hc:riseI 0 t.f1[i].f1=true->(∃ y ∈ t.f1.take i,y.f1=t.f1[i].f1)->w=false)
  (hn:riseI 0 t.f1[i].f1=true->(¬ ∃ y ∈ t.f1.take i,y.f1=t.f1[i].f1)->Ev (fun k=>qAY.l9 k m t ((i+1:Nat):Int)) w)
  (hr:¬ riseI 0 t.f1[i].f1=true->w=false):∀(d j:Nat),j+d=t.f1[i].f1.length->(riseI 0 t.f1[i].f1=riseI (preI t.f1[i].f1 j) (t.f1[i].f1.drop j))->Ev (fun k=>qAY.l61 k m t (i:Int) (j:Int)) w:=by
 have hz:=nth_get qG.z _ _ hi
 have hsl:=hs _ (gM hi)
 intro d
 induction d with
 | zero =>
  intro j hj he
  refine .s (qAY.l61_s · _ _ _ _) ?_
  rw [hz]
  rw [List.drop_eq_nil_of_le (by omega)]at he
  refine .n (by omega) (.t (by omega) ?_)
  rw [show cutl t.f1 0 (i:Int)=t.f1.take i by simp [cutl],w64n i (by omega)]
  refine .b (seen _ _ (by simp; omega) fun x m=>hs x (List.mem_of_mem_take m)) ?_
  refine .i (fun h=>.cv (hc he ?_).symm) fun h=>hn he ?_
  ·simpa using h
  ·simpa using h
 | succ d ih =>
  intro j hj he
  have h1:j<t.f1[i].f1.length:=by omega
  refine .s (qAY.l61_s · _ _ _ _) ?_
  rw [hz]
  refine .t (by omega) (.t (by omega) ?_)
  rw [List.drop_eq_getElem_cons h1]at he
  simp only [riseI]at he
  have hb:∀ b:Bool,(b=true↔¬ ((1<=t.f1[i].f1[j]/\t.f1[i].f1[j]<=999)/\preI t.f1[i].f1 j<t.f1[i].f1[j]))->Ev (fun k=>qAY.j86 k m t (i:Int) (j:Int) b) w:=by
   intro b hb
   refine .s (qAY.j86_s · _ _ _ _ _) ?_
   by_cases h:(1<=t.f1[i].f1[j]/\t.f1[i].f1[j]<=999)/\preI t.f1[i].f1 j<t.f1[i].f1[j]
   ·refine .n (fun e=>(hb.1 e) h) ?_
    rw [w64n j (by omega)]
    refine ih (j+1) (by omega) ?_
    rw [he,qGH _ j h1 hsl,dT h,Bool.true_and]
   ·refine .t (hb.2 h) (.cv (hr ?_).symm)
    rw [he,dF h]
    simp
  clear he ih hr hn hc
  rw [nth_get _ _ _ h1]
  have hp0:j=0->preI t.f1[i].f1 j=0:=fun e=>if_pos e
  have hp1:j≠0->nth 0 t.f1[i].f1 (w64 ((j:Int) - 1))=preI t.f1[i].f1 j:=fun e=>(if_neg e).symm
  have hw:j≠0->w64 ((j:Int) - 1)=((j - 1:Nat):Int):=fun e=>w64p j (by omega) (by omega)
  generalize preI t.f1[i].f1 j=p at *
  generalize nth 0 t.f1[i].f1 (w64 ((j:Int) - 1))=q at *
  generalize t.f1[i].f1[j]=n at *
  repeat' (first | refine Ev.b0 (min' _ _ _) ?_ | refine Ev.i (fun _=>?_) fun _=>?_)
  all_goals simp only [decide_eq_true_eq]at *
  all_goals first
   | exact hb _ (by simp only [decide_eq_true_eq,Bool.false_eq_true,true_iff,false_iff]; omega)
   | (exfalso; omega)
theorem qKJ(m:qD)(t:qC)(hl:t.f1.length<4611686018427387904)(hs:∀ s ∈ t.f1,s.f1.length<4611686018427387904)(ht:0<=t.f0/\t.f0<=2147483647):∀(d i:Nat),i+d=t.f1.length->Ev (fun k=>qAY.l9 k m t (i:Int)) (past m t.f0 (preS t.f1 i) (t.f1.take i) (t.f1.drop i)):=by
 intro d
 induction d with
 | zero =>
  intro i hi
  refine .s (qAY.l9_s · _ _ _) (.n (by omega) (.cv ?_))
  rw [List.drop_eq_nil_of_le (by omega)]
  rfl
 | succ d ih =>
  intro i hi
  have h1:i<t.f1.length:=by omega
  refine .s (qAY.l9_s · _ _ _) (.t (by omega) (.t (by omega) ?_))
  have ih:=ih (i+1) (by omega)
  rw [qIb _ i h1 hl,List.take_add_one,List.getElem?_eq_getElem h1,Option.toList_some]at ih
  rw [nth_get _ _ _ h1,List.drop_eq_getElem_cons h1]
  simp only [past]
  have hj:∀ b:Bool,(b=true↔¬ ((0<=t.f1[i].f0/\t.f1[i].f0<t.f0)/\preS t.f1 i<t.f1[i].f0/\m.f2<=(t.f1[i].f1.length:Int)/\(t.f1[i].f1.length:Int)<=m.f1))->Ev (fun k=>qAY.j51 k m t (i:Int) b) (decide ((0<=t.f1[i].f0/\t.f1[i].f0<t.f0)/\preS t.f1 i<t.f1[i].f0/\m.f2<=(t.f1[i].f1.length:Int)/\(t.f1[i].f1.length:Int)<=m.f1)&&riseI 0 t.f1[i].f1 && !decide (∃ x ∈ t.f1.take i,x.f1=t.f1[i].f1)&&past m t.f0 t.f1[i].f0 (t.f1.take i++[t.f1[i]]) (t.f1.drop (i+1))):=by
   intro b hb
   refine .s (qAY.j51_s · _ _ _ _) ?_
   by_cases h:(0<=t.f1[i].f0/\t.f1[i].f0<t.f0)/\preS t.f1 i<t.f1[i].f0/\m.f2<=(t.f1[i].f1.length:Int)/\(t.f1[i].f1.length:Int)<=m.f1
   ·refine .n (fun e=>(hb.1 e) h) ?_
    rw [dT h,Bool.true_and]
    refine qJW m t i hl hs h1 _ ?_ ?_ ?_ t.f1[i].f1.length 0 (by omega) (by rw [List.drop_zero]; rfl)
    ·intro h2 h3
     rw [h2,dT h3]
     simp
    ·intro h2 h3
     refine ih.v ?_
     rw [h2,dF h3]
     simp
    ·intro h2
     simp [h2]
   ·refine .t (hb.2 h) (.cv ?_)
    rw [dF h]
    simp
  clear ih
  have hp0:i=0->preS t.f1 i = -1:=fun e=>if_pos e
  have hp1:i≠0->(nth qG.z t.f1 (w64 ((i:Int) - 1))).f0=preS t.f1 i:=fun e=>(if_neg e).symm
  have hw:i≠0->w64 ((i:Int) - 1)=((i - 1:Nat):Int):=fun e=>w64p i (by omega) (by omega)
  have hw2:w64 (t.f0 - 1)=t.f0 - 1:=qCk (by omega) (by omega)
  rw [hw2]
  generalize hv:(decide ((0<=t.f1[i].f0/\t.f1[i].f0<t.f0)/\preS t.f1 i<t.f1[i].f0/\m.f2<=(t.f1[i].f1.length:Int)/\(t.f1[i].f1.length:Int)<=m.f1)&&riseI 0 t.f1[i].f1 && !decide (∃ x ∈ t.f1.take i,x.f1=t.f1[i].f1)&&past m t.f0 t.f1[i].f0 (t.f1.take i++[t.f1[i]]) (t.f1.drop (i+1)))=v at hj ⊢
  clear hv
  generalize preS t.f1 i=p at *
  generalize (nth qG.z t.f1 (w64 ((i:Int) - 1))).f0=q at *
  generalize t.f1[i]=n at *
  repeat' (first | refine Ev.b0 (min' _ _ _) ?_ | refine Ev.i (fun _=>?_) fun _=>?_)
  all_goals simp only [decide_eq_true_eq]at *
  all_goals first
   | exact hj _ (by simp only [decide_eq_true_eq,Bool.false_eq_true,true_iff,false_iff,Bool.not_eq_true',decide_eq_false_iff_not]; omega)
   | (exfalso; omega)
theorem pastf(m:qD)(t:qC)(hl:t.f1.length<4611686018427387904)(hs:∀ s ∈ t.f1,s.f1.length<4611686018427387904)(ht:0<=t.f0/\t.f0<=2147483647):Ev (fun k=>qAY.f k m t) (past m t.f0 (-1) [] t.f1):=by
 unfold qAY.f
 exact qKJ m t hl hs ht t.f1.length 0 (by omega)
theorem qHi(m:qD)(hm:Small m)(h0:m.f0<=2147483647):∀(d i:Nat),i+d=m.f6.length->Ev (fun k=>qAx.l11 k m (i:Int)) (eno (trails m (m.f6.drop i))):=by
 have h6:=hm.h6
 intro d
 induction d with
 | zero =>
  intro i hi
  refine .s (qAx.l11_s · _ _) (.n (by omega) (.cv ?_))
  rw [List.drop_eq_nil_of_le (by omega)]
  rfl
 | succ d ih =>
  intro i hi
  have h1:i<m.f6.length:=by omega
  refine .s (qAx.l11_s · _ _) (.t (by omega) (.t (by omega) ?_))
  have ih:=ih (i+1) (by omega)
  rw [nth_get _ _ _ h1,List.drop_eq_getElem_cons h1,trails]
  refine .b0 (min' _ _ _) (.i (fun h=>?_) fun h=>?_)
  ·have h:=oT h
   refine .b (pastf m m.f6[i] (hm.hp _ (gM h1)) (hm.hs _ (gM h1)) (by omega)) (.s (qAx.j40_s · _ _ _) ?_)
   rw [dT h,Bool.true_and,w64n i (by omega)]
   cases past m m.f6[i].f0 (-1) [] m.f6[i].f1 with
   | true=>exact .n (by decide) ih
   | false=>exact .t rfl (.c _)
  ·refine .s (qAx.j40_s · _ _ _) (.t rfl (.cv ?_))
   have h:¬ (0<=m.f6[i].f0/\m.f6[i].f0<=m.f0):=fun e=>h (dT e)
   rw [dF h]
   rfl
theorem trailsf(m:qD)(hm:Small m)(h0:m.f0<=2147483647):Ev (fun k=>qAx.f k m) (eno (decide ((m.f6.length:Int)=m.f3/\trails m m.f6=true))):=by
 unfold qAx.f
 refine .i (fun h=>(qHi m hm h0 m.f6.length 0 (by omega)).v ?_) fun h=>.cv ?_
 ·rw [List.drop_zero]
  congr 1
  simp [h]
 ·rw [dF (fun e=>h e.1)]
  rfl
theorem qIc(m:qD)(hm:Small m)(hf:Flat m):∀(d i:Nat),i+d=m.f5.length->Ev (fun k=>qAF.l36 k m (i:Int)) (eno (temps m (preT m.f5 i) (m.f5.drop i)&&decide ((m.f6.length:Int)=m.f3/\trails m m.f6=true))):=by
 have h5:=hm.h5
 have hg:=hf.2.2.2.1
 intro d
 induction d with
 | zero =>
  intro i hi
  refine .s (qAF.l36_s · _ _) (.n (by omega) (.b (trailsf m hm hf.1.2) (.cv ?_)))
  rw [List.drop_eq_nil_of_le (by omega)]
  rfl
 | succ d ih =>
  intro i hi
  have h1:i<m.f5.length:=by omega
  refine .s (qAF.l36_s · _ _) (.t (by omega) (.t (by omega) ?_))
  have ih:=ih (i+1) (by omega)
  rw [qGG _ i h1 h5]at ih
  rw [nth_get _ _ _ h1,List.drop_eq_getElem_cons h1,temps]
  have hj:∀ b:Bool,(b = !(decide ((0<=m.f5[i].f0/\m.f5[i].f0<m.f3)/\preT m.f5 i<m.f5[i].f0/\1<=(m.f5[i].f1.length:Int)/\(m.f5[i].f1.length:Int)<=m.f1)&&Topo.apartR m.f4 [] m.f5[i].f1))->Ev (fun k=>qAF.j85 k m (i:Int) b) (eno (((decide ((0<=m.f5[i].f0/\m.f5[i].f0<m.f3)/\preT m.f5 i<m.f5[i].f0/\1<=(m.f5[i].f1.length:Int)/\(m.f5[i].f1.length:Int)<=m.f1)&&Topo.apartR m.f4 [] m.f5[i].f1)&&temps m m.f5[i].f0 (m.f5.drop (i+1)))&&decide ((m.f6.length:Int)=m.f3/\trails m m.f6=true))):=by
   intro b hb
   refine .s (qAF.j85_s · _ _ _) ?_
   rw [w64n i (by omega)]
   generalize (decide ((0<=m.f5[i].f0/\m.f5[i].f0<m.f3)/\preT m.f5 i<m.f5[i].f0/\1<=(m.f5[i].f1.length:Int)/\(m.f5[i].f1.length:Int)<=m.f1)&&Topo.apartR m.f4 [] m.f5[i].f1)=c at hb ⊢
   subst hb
   cases c with
   | true=>exact .n (by decide) ih
   | false=>exact .t rfl (.c _)
  clear ih
  have hj1:¬ ((0<=m.f5[i].f0/\m.f5[i].f0<m.f3)/\preT m.f5 i<m.f5[i].f0/\1<=(m.f5[i].f1.length:Int)/\(m.f5[i].f1.length:Int)<=m.f1)->Ev (fun k=>qAF.j85 k m (i:Int) true) _:=fun h=>hj true (by rw [dF h]; rfl)
  have hj2:((0<=m.f5[i].f0/\m.f5[i].f0<m.f3)/\preT m.f5 i<m.f5[i].f0/\1<=(m.f5[i].f1.length:Int)/\(m.f5[i].f1.length:Int)<=m.f1)->Ev (fun k=>(qAX.f k m.f4 m.f5[i].f1).bind fun t75=>qAF.j85 k m (i:Int) (!t75)) _:=fun h=>.b (Topo.apart m.f4 m.f5[i].f1 hm.h4 (by have:=hf.2.1; omega)) (hj _ (by rw [dT h,dT hf.2.2.2.2]))
  have hp0:i=0->preT m.f5 i = -1:=fun e=>if_pos e
  have hp1:i≠0->(nth qE.z m.f5 (w64 ((i:Int) - 1))).f0=preT m.f5 i:=fun e=>(if_neg e).symm
  have hw:i≠0->w64 ((i:Int) - 1)=((i - 1:Nat):Int):=fun e=>w64p i (by omega) (by omega)
  have hw2:w64 (m.f3 - 1)=m.f3 - 1:=qCk (by omega) (by omega)
  rw [hw2]
  clear hj
  generalize (eno (((decide ((0<=m.f5[i].f0/\m.f5[i].f0<m.f3)/\preT m.f5 i<m.f5[i].f0/\1<=(m.f5[i].f1.length:Int)/\(m.f5[i].f1.length:Int)<=m.f1)&&Topo.apartR m.f4 [] m.f5[i].f1)&&temps m m.f5[i].f0 (m.f5.drop (i+1)))&&decide ((m.f6.length:Int)=m.f3/\trails m m.f6=true)))=v at hj1 hj2 ⊢
  generalize preT m.f5 i=p at *
  generalize (nth qE.z m.f5 (w64 ((i:Int) - 1))).f0=q at *
  generalize m.f5[i]=n at *
  repeat' (first | refine Ev.b0 (min' _ _ _) ?_ | refine Ev.i (fun _=>?_) fun _=>?_)
  all_goals simp only [decide_eq_true_eq]at *
  all_goals first
   | exact hj1 (by omega)
   | exact hj2 (by omega)
   | (exfalso; omega)
theorem check(m:qD)(hm:Small m):Ev (fun k=>qAF.f k m) (eno (decide (May m))):=by
 have hj1:¬ Flat m->Ev (fun k=>qAF.j26 k m true) (eno (decide (May m))):=fun h=>.s (qAF.j26_s · _ _) (.t rfl (.cv (by rw [dF (fun e:May m=>h e.1)]; rfl)))
 have hj2:Flat m->Ev (fun k=>qAF.j26 k m false) (eno (decide (May m))):=fun h=>.s (qAF.j26_s · _ _) (.n (by decide) ((qIc m hm h m.f5.length 0 (by omega)).v (by
  rw [List.drop_zero]
  congr 1
  rw [Bool.eq_iff_iff,Bool.and_eq_true,decide_eq_true_eq,decide_eq_true_eq]
  exact ⟨fun e=>⟨h,e⟩,fun e=>e.2⟩)))
 unfold qAF.f
 generalize eno (decide (May m))=v at *
 unfold Flat at hj1 hj2
 refine .b0 (min' _ _ _) (.i (fun h=>.b0 (min' _ _ _) (.i (fun h=>.b0 (min' _ _ _) (.i (fun h=>.b0 (min' _ _ _) (.i (fun h=>.b (Topo.check m.f4 hm.h4) ?_) fun h=>?_)) fun h=>?_)) fun h=>?_)) fun h=>?_)
 all_goals simp only [decide_eq_true_eq]at *
 ·by_cases hN:Topo.Nodes m.f4
  ·rw [dT hN]
   refine hj2 ⟨?_,?_,?_,?_,hN⟩ <;> omega
  ·rw [dF hN]
   exact hj1 fun e=>hN e.2.2.2.2
 all_goals refine hj1 fun e=>?_
 all_goals have:=e.1
 all_goals have:=e.2.1
 all_goals have:=e.2.2.1
 all_goals have:=e.2.2.2.1
 all_goals omega
def ahead(s:qG)(seen:List qG):Bool:=decide (∀ x ∈ seen,x.f0<s.f0/\x.f1≠s.f1)
def pastR(m:qD)(since:Int):List qG->List qG->Bool
 | _,[]=>true
 | seen,s :: l=>(decide ((0<=s.f0/\s.f0<since)/\m.f2<=(s.f1.length:Int)/\(s.f1.length:Int)<=m.f1)&&riseI 0 s.f1&&ahead s seen)&&pastR m since (seen++[s]) l
theorem qCb(m:qD)(since:Int):∀(l seen:List qG)(p:Int),(∀ x ∈ seen,x.f0<=p)->(p = -1\/∃ x ∈ seen,x.f0=p)->past m since p seen l=pastR m since seen l
 | [],_,_,_,_=>rfl
 | s :: l,seen,p,h1,h2=>by
  rw [past,pastR]
  by_cases h:(0<=s.f0/\s.f0<since)/\p<s.f0/\m.f2<=(s.f1.length:Int)/\(s.f1.length:Int)<=m.f1
  ·have h':(0<=s.f0/\s.f0<since)/\m.f2<=(s.f1.length:Int)/\(s.f1.length:Int)<=m.f1:=⟨h.1,h.2.2⟩
   have ha:(!decide (∃ x ∈ seen,x.f1=s.f1))=ahead s seen:=by
    unfold ahead
    rw [Bool.eq_iff_iff,Bool.not_eq_true',decide_eq_false_iff_not,decide_eq_true_eq]
    exact ⟨fun e x hx=>⟨Int.lt_of_le_of_lt (h1 x hx) h.2.1,fun q=>e ⟨x,hx,q⟩⟩,fun e ⟨x,hx,q⟩=>(e x hx).2 q⟩
   rw [dT h,dT h',ha,qCb m since l (seen++[s]) s.f0 ?_ (.inr ⟨s,by simp,rfl⟩)]
   ·intro x hx
    rcases List.mem_append.1 hx with hx | hx
    ·have:=h1 x hx
     omega
    ·simp only [List.mem_cons,List.not_mem_nil,or_false]at hx
     rw [hx]
     exact Int.le_refl _
  ·rw [dF h]
   simp only [Bool.false_and]
   by_cases h3:(0<=s.f0/\s.f0<since)/\m.f2<=(s.f1.length:Int)/\(s.f1.length:Int)<=m.f1
   ·have:ahead s seen=false:=by
     unfold ahead
     rw [decide_eq_false_iff_not]
     intro e
     rcases h2 with rfl | ⟨x,hx,rfl⟩
     ·exact h ⟨h3.1,by omega,h3.2⟩
     ·exact h ⟨h3.1,(e x hx).1,h3.2⟩
    rw [this]
    simp
   ·rw [dF h3]
    simp
def trailsR(m:qD):List qC->Bool
 | []=>true
 | t :: l=>(decide (0<=t.f0/\t.f0<=m.f0)&&pastR m t.f0 [] t.f1)&&trailsR m l
theorem qEf(m:qD):∀ l:List qC,trails m l=trailsR m l
 | []=>rfl
 | t :: l=>by
  rw [trails,trailsR,qEf m l,qCb m t.f0 t.f1 [] (-1) (fun _ h=>nomatch h) (.inl rfl)]
theorem qHj (m:qD) (hm:Small m) (i x:Nat) (hi:i<m.f6.length) (hx:x<m.f6[i].f1.length) (w:Bool)
  (hy:ahead m.f6[i].f1[x] (m.f6[i].f1.take x)=false->w=false)
  (hn:ahead m.f6[i].f1[x] (m.f6[i].f1.take x)=true->Ev (fun k=>qK.l40 k m (i:Int) ((x+1:Nat):Int)) w) :
  ∀(d j:Nat),j+d=x->(∀ y ∈ m.f6[i].f1.take j,y.f0<m.f6[i].f1[x].f0/\y.f1≠m.f6[i].f1[x].f1)->Ev (fun k=>qK.l113 k m (i:Int) (x:Int) (j:Int)) w:=by
 have hz:=nth_get qC.z _ _ hi
 have hz2:=nth_get qG.z _ _ hx
 have hp:=hm.hp _ (gM hi)
 have hs:=hm.hs _ (gM hi)
 intro d
 induction d with
 | zero =>
  intro j hj h
  refine .s (qK.l113_s · _ _ _ _) (.n (by omega) ?_)
  obtain rfl:j=x:=by omega
  rw [w64n j (by omega)]
  exact hn (dT h)
 | succ d ih =>
  intro j hj h
  have h1:j<m.f6[i].f1.length:=by omega
  refine .s (qK.l113_s · _ _ _ _) ?_
  rw [hz,hz2,nth_get _ _ _ h1]
  refine .t (by omega) (.t (by omega) ?_)
  have hin:m.f6[i].f1[j] ∈ m.f6[i].f1.take x:=List.mem_take_iff_getElem.2 ⟨j,by omega,rfl⟩
  refine .i (fun h2=>?_) fun h2=>.b (ints _ _ (hs _ (gM h1))) ?_
  ·refine .s (qK.j137_s · _ _ _ _ _) (.t rfl (.cv (hy ?_).symm))
   exact dF fun e=>by have:=(e _ hin).1; omega
  ·refine .s (qK.j137_s · _ _ _ _ _) (.i (fun h3=>.cv (hy ?_).symm) fun h3=>?_)
   ·exact dF fun e=>(e _ hin).2 (oT h3)
   ·rw [w64n j (by omega)]
    refine ih (j+1) (by omega) ?_
    intro y hy
    rw [List.take_add_one,List.getElem?_eq_getElem h1,Option.toList_some]at hy
    rcases List.mem_append.1 hy with hy | hy
    ·exact h y hy
    ·simp only [List.mem_cons,List.not_mem_nil,or_false]at hy
     rw [hy]
     exact ⟨by omega,fun e=>h3 (dT e)⟩
theorem qId (m:qD) (hm:Small m) (i x:Nat) (hi:i<m.f6.length) (hx:x<m.f6[i].f1.length) (w:Bool)
  (hc:riseI 0 m.f6[i].f1[x].f1=true->Ev (fun k=>qK.l113 k m (i:Int) (x:Int) 0) w)
  (hr:riseI 0 m.f6[i].f1[x].f1=false->w=false):∀(d j:Nat),j+d=m.f6[i].f1[x].f1.length->(riseI 0 m.f6[i].f1[x].f1=riseI (preI m.f6[i].f1[x].f1 j) (m.f6[i].f1[x].f1.drop j))->Ev (fun k=>qK.l76 k m (i:Int) (x:Int) (j:Int)) w:=by
 have hz:=nth_get qC.z _ _ hi
 have hz2:=nth_get qG.z _ _ hx
 have hsl:=hm.hs _ (gM hi) _ (gM hx)
 generalize hs:m.f6[i].f1[x]=s at *
 intro d
 induction d with
 | zero =>
  intro j hj he
  refine .s (qK.l76_s · _ _ _ _) ?_
  rw [hz,hz2]
  rw [List.drop_eq_nil_of_le (by omega)]at he
  exact .n (by omega) (hc he)
 | succ d ih =>
  intro j hj he
  have h1:j<s.f1.length:=by omega
  refine .s (qK.l76_s · _ _ _ _) ?_
  rw [hz,hz2]
  refine .t (by omega) (.t (by omega) ?_)
  rw [List.drop_eq_getElem_cons h1]at he
  simp only [riseI]at he
  have hb:∀ b:Bool,(b=true↔¬ ((1<=s.f1[j]/\s.f1[j]<=999)/\preI s.f1 j<s.f1[j]))->Ev (fun k=>qK.j104 k m (i:Int) (x:Int) (j:Int) b) w:=by
   intro b hb
   refine .s (qK.j104_s · _ _ _ _ _) ?_
   by_cases h:(1<=s.f1[j]/\s.f1[j]<=999)/\preI s.f1 j<s.f1[j]
   ·refine .n (fun e=>(hb.1 e) h) ?_
    rw [w64n j (by omega)]
    refine ih (j+1) (by omega) ?_
    rw [he,qGH _ j h1 hsl,dT h,Bool.true_and]
   ·refine .t (hb.2 h) (.cv (hr ?_).symm)
    rw [he,dF h]
    simp
  clear he ih hr hc
  rw [nth_get _ _ _ h1]
  have hp0:j=0->preI s.f1 j=0:=fun e=>if_pos e
  have hp1:j≠0->nth 0 s.f1 (w64 ((j:Int) - 1))=preI s.f1 j:=fun e=>(if_neg e).symm
  have hw:j≠0->w64 ((j:Int) - 1)=((j - 1:Nat):Int):=fun e=>w64p j (by omega) (by omega)
  generalize preI s.f1 j=p at *
  generalize nth 0 s.f1 (w64 ((j:Int) - 1))=q at *
  generalize s.f1[j]=n at *
  clear hs hz hz2
  repeat' (first | refine Ev.i (fun _=>?_) fun _=>?_)
  all_goals first
   | exact hb _ (by simp only [decide_eq_true_eq,Bool.false_eq_true,true_iff,false_iff]; omega)
   | (exfalso; omega)
theorem qIe (m:qD) (hm:Small m) (i:Nat) (hi:i<m.f6.length) (w:Bool->Bool)
  (hn:Ev (fun k=>qK.l7 k m ((i+1:Nat):Int)) (w true)) (hw:w false=false) :
  ∀(d j:Nat),j+d=m.f6[i].f1.length->Ev (fun k=>qK.l40 k m (i:Int) (j:Int)) (w (pastR m m.f6[i].f0 (m.f6[i].f1.take j) (m.f6[i].f1.drop j))):=by
 have hz:=nth_get qC.z _ _ hi
 have hp:=hm.hp _ (gM hi)
 have h6:=hm.h6
 intro d
 induction d with
 | zero =>
  intro j hj
  refine .s (qK.l40_s · _ _ _) ?_
  rw [hz]
  refine .n (by omega) ?_
  rw [List.drop_eq_nil_of_le (by omega),w64n i (by omega)]
  exact hn
 | succ d ih =>
  intro j hj
  have h1:j<m.f6[i].f1.length:=by omega
  refine .s (qK.l40_s · _ _ _) ?_
  rw [hz]
  refine .t (by omega) (.t (by omega) ?_)
  have ih:=ih (j+1) (by omega)
  rw [List.take_add_one,List.getElem?_eq_getElem h1,Option.toList_some]at ih
  rw [nth_get _ _ _ h1,List.drop_eq_getElem_cons h1]
  simp only [pastR]
  have hb:∀ b:Bool,(b=true↔¬ ((0<=m.f6[i].f1[j].f0/\m.f6[i].f1[j].f0<m.f6[i].f0)/\m.f2<=(m.f6[i].f1[j].f1.length:Int)/\(m.f6[i].f1[j].f1.length:Int)<=m.f1))->Ev (fun k=>qK.j66 k m (i:Int) (j:Int) b) (w ((decide ((0<=m.f6[i].f1[j].f0/\m.f6[i].f1[j].f0<m.f6[i].f0)/\m.f2<=(m.f6[i].f1[j].f1.length:Int)/\(m.f6[i].f1[j].f1.length:Int)<=m.f1)&&riseI 0 m.f6[i].f1[j].f1&&ahead m.f6[i].f1[j] (m.f6[i].f1.take j))&&pastR m m.f6[i].f0 (m.f6[i].f1.take j++[m.f6[i].f1[j]]) (m.f6[i].f1.drop (j+1)))):=by
   intro b hb
   refine .s (qK.j66_s · _ _ _ _) ?_
   by_cases h:(0<=m.f6[i].f1[j].f0/\m.f6[i].f1[j].f0<m.f6[i].f0)/\m.f2<=(m.f6[i].f1[j].f1.length:Int)/\(m.f6[i].f1[j].f1.length:Int)<=m.f1
   ·refine .n (fun e=>(hb.1 e) h) ?_
    rw [dT h,Bool.true_and]
    refine qId m hm i j hi h1 _ ?_ ?_ m.f6[i].f1[j].f1.length 0 (by omega) (by rw [List.drop_zero]; rfl)
    ·intro h2
     refine qHj m hm i j hi h1 _ ?_ ?_ j 0 (by omega) fun _ hy=>by rw [List.take_zero]at hy; cases hy
     ·intro h3
      rw [h3,Bool.and_false,Bool.false_and]
      exact hw
     ·intro h3
      refine ih.v ?_
      rw [h2,h3]
      rfl
    ·intro h2
     rw [h2]
     exact hw
   ·refine .t (hb.2 h) (.cv ?_)
    rw [dF h]
    exact hw.symm
  clear ih hn
  generalize (w ((decide ((0<=m.f6[i].f1[j].f0/\m.f6[i].f1[j].f0<m.f6[i].f0)/\m.f2<=(m.f6[i].f1[j].f1.length:Int)/\(m.f6[i].f1[j].f1.length:Int)<=m.f1)&&riseI 0 m.f6[i].f1[j].f1&&ahead m.f6[i].f1[j] (m.f6[i].f1.take j))&&pastR m m.f6[i].f0 (m.f6[i].f1.take j++[m.f6[i].f1[j]]) (m.f6[i].f1.drop (j+1))))=v at hb ⊢
  generalize m.f6[i].f1[j]=n at *
  generalize m.f6[i].f0=q at *
  clear hz
  repeat' (first | refine Ev.i (fun _=>?_) fun _=>?_)
  all_goals first
   | exact hb _ (by simp only [decide_eq_true_eq,Bool.false_eq_true,true_iff,false_iff]; omega)
   | (exfalso; omega)
theorem qJX(m:qD)(hm:Small m):∀(d i:Nat),i+d=m.f6.length->Ev (fun k=>qK.l7 k m (i:Int)) (trailsR m (m.f6.drop i)&&decide ((m.f6.length:Int)=m.f3)):=by
 have h6:=hm.h6
 intro d
 induction d with
 | zero =>
  intro i hi
  refine .s (qK.l7_s · _ _) (.n (by omega) (.cv ?_))
  rw [List.drop_eq_nil_of_le (by omega),trailsR,Bool.true_and]
  rw [Bool.eq_iff_iff,decide_eq_true_eq,beq_iff_eq]
 | succ d ih =>
  intro i hi
  have h1:i<m.f6.length:=by omega
  refine .s (qK.l7_s · _ _) (.t (by omega) (.t (by omega) ?_))
  have ih:=ih (i+1) (by omega)
  rw [nth_get _ _ _ h1,List.drop_eq_getElem_cons h1,trailsR]
  have hj:∀ b:Bool,(b=true↔¬ (0<=m.f6[i].f0/\m.f6[i].f0<=m.f0))->Ev (fun k=>qK.j31 k m (i:Int) b) (decide (0<=m.f6[i].f0/\m.f6[i].f0<=m.f0)&&pastR m m.f6[i].f0 [] m.f6[i].f1&&trailsR m (m.f6.drop (i+1))&&decide ((m.f6.length:Int)=m.f3)):=by
   intro b hb
   refine .s (qK.j31_s · _ _ _) ?_
   by_cases h:0<=m.f6[i].f0/\m.f6[i].f0<=m.f0
   ·refine .n (fun e=>(hb.1 e) h) ?_
    rw [dT h,Bool.true_and]
    have:=qIe m hm i h1 (fun b=>b&&trailsR m (m.f6.drop (i+1))&&decide ((m.f6.length:Int)=m.f3)) ih rfl m.f6[i].f1.length 0 (by omega)
    rw [List.take_zero,List.drop_zero]at this
    exact this
   ·refine .t (hb.2 h) (.cv ?_)
    rw [dF h]
    simp
  refine .i (fun h=>hj _ ?_) fun h=>hj _ ?_
  ·simp only [true_iff]; omega
  ·simp only [decide_eq_true_eq]; omega
theorem pasts(m:qD)(hm:Small m):Ev (fun k=>qK.f k m) (decide ((m.f6.length:Int)=m.f3/\trails m m.f6=true)):=by
 unfold qK.f
 refine (qJX m hm m.f6.length 0 (by omega)).v ?_
 rw [List.drop_zero,← qEf,Bool.eq_iff_iff,Bool.and_eq_true,decide_eq_true_eq,decide_eq_true_eq]
 exact And.comm
theorem qKK(m:qD)(hm:Small m)(hf:Flat m):∀(d i:Nat),i+d=m.f5.length->Ev (fun k=>qe.l28 k m (i:Int)) (temps m (preT m.f5 i) (m.f5.drop i)&&decide ((m.f6.length:Int)=m.f3/\trails m m.f6=true)):=by
 have h5:=hm.h5
 have hg:=hf.2.2.2.1
 intro d
 induction d with
 | zero =>
  intro i hi
  refine .s (qe.l28_s · _ _) (.n (by omega) (.b (pasts m hm) (.cv ?_)))
  rw [List.drop_eq_nil_of_le (by omega)]
  rfl
 | succ d ih =>
  intro i hi
  have h1:i<m.f5.length:=by omega
  refine .s (qe.l28_s · _ _) (.t (by omega) (.t (by omega) ?_))
  have ih:=ih (i+1) (by omega)
  rw [qGG _ i h1 h5]at ih
  rw [nth_get _ _ _ h1,List.drop_eq_getElem_cons h1,temps]
  have hj:∀ b:Bool,(b = !(decide ((0<=m.f5[i].f0/\m.f5[i].f0<m.f3)/\preT m.f5 i<m.f5[i].f0/\1<=(m.f5[i].f1.length:Int)/\(m.f5[i].f1.length:Int)<=m.f1)&&Topo.apartR m.f4 [] m.f5[i].f1))->Ev (fun k=>qe.j71 k m (i:Int) b) (((decide ((0<=m.f5[i].f0/\m.f5[i].f0<m.f3)/\preT m.f5 i<m.f5[i].f0/\1<=(m.f5[i].f1.length:Int)/\(m.f5[i].f1.length:Int)<=m.f1)&&Topo.apartR m.f4 [] m.f5[i].f1)&&temps m m.f5[i].f0 (m.f5.drop (i+1)))&&decide ((m.f6.length:Int)=m.f3/\trails m m.f6=true)):=by
   intro b hb
   refine .s (qe.j71_s · _ _ _) ?_
   rw [w64n i (by omega)]
   generalize (decide ((0<=m.f5[i].f0/\m.f5[i].f0<m.f3)/\preT m.f5 i<m.f5[i].f0/\1<=(m.f5[i].f1.length:Int)/\(m.f5[i].f1.length:Int)<=m.f1)&&Topo.apartR m.f4 [] m.f5[i].f1)=c at hb ⊢
   subst hb
   cases c with
   | true=>exact .n (by decide) ih
   | false=>exact .t rfl (.c _)
  clear ih
  have hj1:¬ ((0<=m.f5[i].f0/\m.f5[i].f0<m.f3)/\preT m.f5 i<m.f5[i].f0/\1<=(m.f5[i].f1.length:Int)/\(m.f5[i].f1.length:Int)<=m.f1)->Ev (fun k=>qe.j71 k m (i:Int) true) _:=fun h=>hj true (by rw [dF h]; rfl)
  have hj2:((0<=m.f5[i].f0/\m.f5[i].f0<m.f3)/\preT m.f5 i<m.f5[i].f0/\1<=(m.f5[i].f1.length:Int)/\(m.f5[i].f1.length:Int)<=m.f1)->Ev (fun k=>(qp.f k m.f4 m.f5[i].f1).bind fun t75=>qe.j71 k m (i:Int) (!t75)) _:=fun h=>.b (Topo.refapart m.f4 m.f5[i].f1 hm.h4 (by have:=hf.2.1; omega)) (hj _ (by rw [dT h]; rfl))
  have hp0:i=0->preT m.f5 i = -1:=fun e=>if_pos e
  have hp1:i≠0->(nth qE.z m.f5 (w64 ((i:Int) - 1))).f0=preT m.f5 i:=fun e=>(if_neg e).symm
  have hw:i≠0->w64 ((i:Int) - 1)=((i - 1:Nat):Int):=fun e=>w64p i (by omega) (by omega)
  clear hj
  generalize (((decide ((0<=m.f5[i].f0/\m.f5[i].f0<m.f3)/\preT m.f5 i<m.f5[i].f0/\1<=(m.f5[i].f1.length:Int)/\(m.f5[i].f1.length:Int)<=m.f1)&&Topo.apartR m.f4 [] m.f5[i].f1)&&temps m m.f5[i].f0 (m.f5.drop (i+1)))&&decide ((m.f6.length:Int)=m.f3/\trails m m.f6=true))=v at hj1 hj2 ⊢
  generalize preT m.f5 i=p at *
  generalize (nth qE.z m.f5 (w64 ((i:Int) - 1))).f0=q at *
  generalize m.f5[i]=n at *
  repeat' (first | refine Ev.i (fun _=>?_) fun _=>?_)
  all_goals first
   | exact hj1 (by omega)
   | exact hj2 (by omega)
   | (exfalso; omega)
theorem may(m:qD)(hm:Small m):Ev (fun k=>qe.f k m) (decide (May m)):=by
 have hj1:¬ Flat m->Ev (fun k=>qe.j18 k m true) (decide (May m)):=fun h=>.s (qe.j18_s · _ _) (.t rfl (.cv (dF fun e:May m=>h e.1).symm))
 have hj2:Flat m->Ev (fun k=>qe.j18 k m false) (decide (May m)):=fun h=>.s (qe.j18_s · _ _) (.n (by decide) ((qKK m hm h m.f5.length 0 (by omega)).v (by
  rw [List.drop_zero,Bool.eq_iff_iff,Bool.and_eq_true,decide_eq_true_eq,decide_eq_true_eq]
  exact ⟨fun e=>⟨h,e⟩,fun e=>e.2⟩)))
 have hj3:(0<=m.f0/\m.f0<=2147483647)/\(1<=m.f1/\m.f1<=3)/\(1<=m.f2/\m.f2<=m.f1)/\(1<=m.f3/\m.f3<=8)->Ev (fun k=>(qn.f k m.f4).bind fun t15=>qe.j18 k m (!t15)) (decide (May m)):=by
  intro h
  refine .b (Topo.may m.f4 hm.h4) ?_
  by_cases hN:Topo.Nodes m.f4
  ·rw [dT hN]
   exact hj2 ⟨h.1,h.2.1,h.2.2.1,h.2.2.2,hN⟩
  ·rw [dF hN]
   exact hj1 fun e=>hN e.2.2.2.2
 unfold qe.f
 generalize decide (May m)=v at *
 have hj4:¬ ((0<=m.f0/\m.f0<=2147483647)/\(1<=m.f1/\m.f1<=3)/\(1<=m.f2/\m.f2<=m.f1)/\(1<=m.f3/\m.f3<=8))->Ev (fun k=>qe.j18 k m true) v:=fun h=>hj1 fun e=>h ⟨e.1,e.2.1,e.2.2.1,e.2.2.2.1⟩
 clear hj1 hj2
 repeat' (first | refine Ev.i (fun _=>?_) fun _=>?_)
 all_goals first
  | exact hj4 (by omega)
  | exact hj3 (by omega)
def posG{α : Type}(key : α->Int)(x:Int):List α->Nat
 | []=>0
 | c :: r=>if key c<x then posG key x r+1 else 0
theorem qEB{α : Type}(key : α->Int)(x:Int):∀ l:List α,posG key x l<=l.length
 | []=>Nat.le_refl _
 | c :: r=>by
  unfold posG
  have:=qEB key x r
  rw [List.length_cons]
  split <;> omega
theorem qIf{α : Type}(key : α->Int)(x:Int):∀(l:List α)(i:Nat)(h:i<l.length),i<posG key x l->key l[i] < x
 | [],_,h,_=>nomatch h
 | c :: r,i,h,hi=>by
  unfold posG at hi
  split at hi
  ·cases i with
   | zero=>assumption
   | succ i=>exact qIf key x r i (by simpa using h) (by omega)
  ·omega
theorem qGp{α : Type}(key : α->Int)(x:Int):∀(l:List α),l.Pairwise (fun a b=>key a<key b)->∀(i:Nat)(h:i<l.length),posG key x l<=i->x<=key l[i]
 | [],_,_,h,_=>nomatch h
 | c :: r,hp,i,h,hi=>by
  obtain ⟨h1,h2⟩:=List.pairwise_cons.1 hp
  unfold posG at hi
  split at hi
  ·cases i with
   | zero=>omega
   | succ i=>exact qGp key x r h2 i (by simpa using h) (by omega)
  ·cases i with
   | zero=>rename_i hc; exact Int.not_lt.1 hc
   | succ i =>
    rename_i hc
    have hr:i<r.length:=by simpa using h
    have:=h1 _ (gM hr)
    show x<=key r[i]
    omega
theorem cmpG(a b:Int):qBB.f a b=some (if a<b then -1 else if a>b then 1 else 0):=by
 unfold qBB.f qBa.f
 simp only [beq_self_eq_true,Bool.not_true,Option.bind_some,Bool.false_eq_true,if_false]
 by_cases h:a<b
 ·rw [if_pos h,if_pos h]
 ·rw [if_neg h,if_neg h]
  by_cases h2:a>b
  ·rw [if_pos h2,if_pos h2]
  ·rw [if_neg h2,if_neg h2]
theorem midG(a b:Nat)(h:a+b<4611686018427387904):w64 ((IntKind.u64.wrap (w64 ((a:Int)+b))).fdiv 2)=((a+b) / 2:Nat):=by
 have e:w64 ((a:Int)+b)=((a+b:Nat):Int):=by rw [qCk (by omega) (by omega)]; omega
 have e2:IntKind.u64.wrap ((a+b:Nat):Int)=((a+b:Nat):Int):=by rw [IntKind.wrap_u64]; omega
 rw [e,e2,Int.fdiv_eq_ediv_of_nonneg _ (by omega),qCk (by omega) (by omega)]
 omega
def qKa{α : Type}(key : α->Int)(x:Int)(l:List α):Int × Bool:=((posG key x l:Int),match l[posG key x l]? with
 | some c=>key c == x
 | none=>false)
theorem searchG {α : Type} (z : α) (key : α->Int) (x:Int) (cmpO : α->Int->Option Int) (hcmp:∀ a,cmpO a x=some (if key a<x then -1 else if key a>x then 1 else 0)) (l:List α) (L:Nat->Int->Int->Option (Int × Bool))
  (hL:∀ k a b,L (k+1) a b=(if a<b then (if 0<=(w64 ((IntKind.u64.wrap (w64 (a+b))).fdiv 2))/\(w64 ((IntKind.u64.wrap (w64 (a+b))).fdiv 2))<(l.length:Int) then ((cmpO (nth z l (w64 ((IntKind.u64.wrap (w64 (a+b))).fdiv 2))) x).bind fun t22=>(if t22<0 then (L k (w64 ((w64 ((IntKind.u64.wrap (w64 (a+b))).fdiv 2))+1)) b) else (L k a (w64 ((IntKind.u64.wrap (w64 (a+b))).fdiv 2))))) else (none)) else (if a<(l.length:Int) then (if 0<=a/\a<(l.length:Int) then ((cmpO (nth z l a) x).bind fun t33=>(some (a,(t33 == 0)))) else (none)) else (some (a,false)))))
  (hl:l.length<1000000) (hp:l.Pairwise fun a b=>key a<key b):∀(d a b:Nat),b - a<=d->a<=posG key x l->posG key x l<=b->b<=l.length->Ev (fun k=>L k (a:Int) (b:Int)) (qKa key x l):=by
 intro d
 induction d with
 | zero =>
  intro a b hd h1 h2 h3
  obtain rfl:a=b:=by omega
  obtain rfl:a=posG key x l:=by omega
  unfold qKa
  refine .s (fun k=>hL k _ _) (.n (by omega) ?_)
  by_cases h4:posG key x l<l.length
  ·refine .t (by omega) (.t (by omega) ?_)
   rw [nth_get _ _ _ h4,List.getElem?_eq_getElem h4]
   refine .b0 (hcmp _) (.cv ?_)
   have:=qGp key x l hp _ h4 (Nat.le_refl _)
   by_cases h5:key l[posG key x l]=x
   ·simp [h5]
   ·rw [if_neg (by omega),if_pos (by omega)]
    simp [h5]
  ·rw [List.getElem?_eq_none (by omega)]
   exact .n (by omega) (.c _)
 | succ d ih =>
  intro a b hd h1 h2 h3
  by_cases hab:a<b
  ·refine .s (fun k=>hL k _ _) (.t (by omega) ?_)
   rw [midG a b (by omega)]
   have h4:(a+b) / 2<l.length:=by omega
   refine .t (by omega) ?_
   rw [nth_get _ _ _ h4]
   refine .b0 (hcmp _) ?_
   by_cases h5:key l[(a+b) / 2] < x
   ·rw [if_pos h5,w64n _ (by omega)]
    refine .t (by decide) (ih _ _ (by omega) ?_ h2 h3)
    rcases Nat.lt_or_ge ((a+b) / 2) (posG key x l) with c | c
    ·omega
    ·have:=qGp key x l hp _ h4 c
     omega
   ·rw [if_neg h5]
    refine .n (by split <;> decide) (ih _ _ (by omega) h1 ?_ (by omega))
    rcases Nat.lt_or_ge ((a+b) / 2) (posG key x l) with c | c
    ·exact absurd (qIf key x l _ h4 c) h5
    ·exact c
  ·exact ih a b (by omega) h1 h2 h3
theorem qDP{α : Type}(key : α->Int)(x:Int):∀(l:List α),l.Pairwise (fun a b=>key a<key b)->((∃ h:posG key x l<l.length,key l[posG key x l]=x/\(qKa key x l).2=true/\l.find? (fun c=>decide (key c=x))=some l[posG key x l])\/((qKa key x l).2=false/\l.find? (fun c=>decide (key c=x))=none))
 | [],_=>.inr ⟨rfl,rfl⟩
 | c :: r,hp=>by
  obtain ⟨h1,h2⟩:=List.pairwise_cons.1 hp
  by_cases hc:key c<x
  ·have e:posG key x (c :: r)=posG key x r+1:=by rw [posG,if_pos hc]
   have ef:(qKa key x (c :: r)).2=(qKa key x r).2:=by unfold qKa; rw [e]; rfl
   have en:(c :: r).find? (fun c=>decide (key c=x))=r.find? (fun c=>decide (key c=x)):=List.find?_cons_of_neg (by simp; omega)
   rw [ef,en]
   rcases qDP key x r h2 with ⟨h,q1,q2,q3⟩ | q
   ·refine .inl ⟨by rw [e,List.length_cons]; omega,?_⟩
    simp only [e,List.getElem_cons_succ]
    exact ⟨q1,q2,q3⟩
   ·exact .inr q
  ·have e:posG key x (c :: r)=0:=by rw [posG,if_neg hc]
   by_cases hx:key c=x
   ·refine .inl ⟨by rw [e]; simp,?_⟩
    simp only [e,List.getElem_cons_zero]
    refine ⟨hx,?_,List.find?_cons_of_pos (by simpa using hx)⟩
    unfold qKa
    rw [e]
    simpa using hx
   ·refine .inr ⟨?_,List.find?_eq_none.2 fun y hy=>?_⟩
    ·unfold qKa
     rw [e]
     simpa using hx
    ·rcases List.mem_cons.1 hy with rfl | hy
     ·simpa using hx
     ·have:=h1 y hy
      simp
      omega
def qKZ(m:qD)(g:Int):List Int:=match m.f5.find? (fun t=>decide (t.f0=g)) with
 | some t=>t.f1
 | none=>[]
def rawL(m:qD)(g:Int):List Int:=if qKZ m g=[] then Place.ofCommon m.f4 g m.f1 else qKZ m g
def upN(l:List qA)(id:Int):Bool:=(Topo.find l id).1.f4
def actL(m:qD)(g:Int):List Int:=(rawL m g).filter (upN m.f4)
def rising(l:List Int):List Int:=sortL (fun a b=>decide (a<b)) l
def followT(t:qC)(was now:List Int)(least epoch:Int):qC :=
 if was=now then t else ⟨epoch,if least<=(was.length:Int) then t.f1.filter (fun s => !decide (s.f1=rising was))++[⟨t.f0,rising was⟩] else t.f1⟩
def putN(n:qA):List qA->List qA
 | []=>[n]
 | x :: r=>if x.f0<n.f0 then x :: putN n r else if x.f0=n.f0 then n :: r else n :: x :: r
def dropN(id:Int)(l:List qA):List qA:=l.filter fun x => !decide (x.f0=id)
def pinT(g:Int)(ns:List Int):List qE->List qE
 | []=>if ns=[] then [] else [⟨g,ns⟩]
 | t :: r=>if t.f0<g then t :: pinT g ns r else (if ns=[] then [] else [(⟨g,ns⟩:qE)])++(if t.f0=g then r else t :: r)
def withN(m:qD)(l:List qA):qD:=⟨m.f0,m.f1,m.f2,m.f3,l,m.f5,m.f6⟩
def withT(m:qD)(l:List qE):qD:=⟨m.f0,m.f1,m.f2,m.f3,m.f4,l,m.f6⟩
def withP(m:qD)(l:List qC):qD:=⟨m.f0,m.f1,m.f2,m.f3,m.f4,m.f5,l⟩
def held(m:qD)(id:Int):Bool:=m.f5.any (fun t=>decide (id ∈ t.f1))||m.f6.any fun t=>t.f1.any fun s=>decide (id ∈ s.f1)
def nodeL(m:qD)(n:qA)(d:qF):qD × Int :=
 if d.f0=2 then (if 0<=d.f4/\d.f4<=65536 then (if n.f3=d.f4 then (m,7) else (withN m (putN ⟨n.f0,n.f1,n.f2,d.f4,n.f4,n.f5⟩ m.f4),0)) else (m,1))
 else if d.f0=3\/d.f0=4 then (if n.f4=decide (d.f0=3) then (m,7) else (withN m (putN ⟨n.f0,n.f1,n.f2,n.f3,decide (d.f0=3),n.f5⟩ m.f4),0))
 else if d.f0=5\/d.f0=6 then (if n.f5=decide (d.f0=6) then (m,7) else (withN m (putN ⟨n.f0,n.f1,n.f2,n.f3,n.f4,decide (d.f0=6)⟩ m.f4),0))
 else if n.f4=true\/(n.f5=true/\n.f3>0)\/held m d.f1=true then (m,11) else (withN m (dropN d.f1 m.f4),0)
def addN(d:qF):qA:=⟨d.f1,d.f2,d.f3,d.f4,false,true⟩
def addL(m:qD)(d:qF):qD × Int :=
 if (Topo.find m.f4 d.f1).2=true then (m,7) else if m.f4.length=12 then (m,6) else if Topo.Nodes (putN (addN d) m.f4) then (withN m (putN (addN d) m.f4),0) else (m,1)
def pinL(m:qD)(d:qF):qD × Int :=
 if 0<=d.f5/\d.f5<m.f3/\(d.f6.length:Int)<=m.f1 then (if qKZ m d.f5=d.f6 then (m,7) else if Topo.apartR m.f4 [] d.f6=true then (withT m (pinT d.f5 d.f6 m.f5),0) else (m,12)) else (m,1)
def cleanL(m:qD)(d:qF):qD × Int :=
 if 0<=d.f5/\d.f5<m.f3 then (if (nth qC.z m.f6 d.f5).f0≠d.f4 then (m,5) else if (nth qC.z m.f6 d.f5).f1=[] then (m,7) else (withP m (m.f6.set d.f5.toNat ⟨(nth qC.z m.f6 d.f5).f0,[]⟩),0)) else (m,1)
def qKX(m:qD)(d:qF):qD × Int :=
 if d.f0=1 then addL m d else if d.f0=8 then pinL m d else if d.f0=9 then (m,0) else if d.f0=10 then cleanL m d
 else match m.f4.find? (fun n=>decide (n.f0=d.f1)) with
  | some n=>nodeL m n d
  | none=>(m,5)
def bareD(d:qF):Prop :=
 if d.f0=1 then d.f5=0/\d.f6=[]
 else if d.f0=2 then d.f2=0/\d.f3=0/\d.f5=0/\d.f6=[]
 else if d.f0=10 then d.f1=0/\d.f2=0/\d.f3=0/\d.f6=[]
 else if d.f0=8 then d.f1=0/\d.f2=0/\d.f3=0/\d.f4=0
 else (d.f2=0/\d.f3=0/\d.f4=0/\d.f5=0/\d.f6=[])/\(d.f0=9->d.f1=0)
instance (d:qF):Decidable (bareD d):=by unfold bareD; infer_instance
def qKY(m x:qD):List qC:=x.f6.mapIdx fun g t=>followT t (actL m g) (actL x g) m.f2 (m.f0+1)
def qKb(m:qD)(d:qF):qD × Int :=
 if (1<=d.f0/\d.f0<=10)/\bareD d then (if m.f0=2147483647 then (m,6) else if (qKX m d).2=0 then (⟨m.f0+1,m.f1,m.f2,m.f3,(qKX m d).1.f4,(qKX m d).1.f5,qKY m (qKX m d).1⟩,0) else (m,(qKX m d).2)) else (m,1)
def nextL(m:qD)(d:qF):qD:=if (qKb m d).2≠0/\m.f0<2147483647 then ⟨m.f0+1,m.f1,m.f2,m.f3,m.f4,m.f5,m.f6⟩ else (qKb m d).1
theorem qIg:∀(p:Int)(l:List qA),(∀ n ∈ l,Topo.okN n)->l.Pairwise (fun x y=>x.f0<y.f0)->(∀ n ∈ l,p<n.f0)->Topo.rise p l=true
 | _,[],_,_,_=>rfl
 | p,n :: l,h1,h2,h3=>by
  obtain ⟨q1,q2⟩:=List.pairwise_cons.1 h2
  rw [Topo.rise,dT ⟨h1 n List.mem_cons_self,h3 n List.mem_cons_self⟩,Bool.true_and]
  exact qIg n.f0 l (fun m hm=>h1 m (List.mem_cons_of_mem _ hm)) q2 q1
theorem qHP{l:List qA}(h0:l.length<=12)(h1:∀ n ∈ l,Topo.okN n)(h2:l.Pairwise fun x y=>x.f0<y.f0):Topo.Nodes l :=
 ⟨h0,qIg 0 l h1 h2 fun n hn=>by have:=h1 n hn; unfold Topo.okN at this; omega⟩
theorem qEC{l:List qA}(h:Topo.Nodes l)(id:Int):Topo.Nodes (dropN id l) :=
 qHP (Nat.le_trans (List.length_filter_le _ _) h.1) (fun n hn=>h.ok n (List.mem_filter.1 hn).1) (h.up.filter _)
theorem qGq(n:qA):∀(l:List qA)(x:qA),x ∈ putN n l->x=n\/x ∈ l
 | [],x,h=>.inl (List.mem_singleton.1 h)
 | y :: r,x,h=>by
  unfold putN at h
  split at h
  ·rcases List.mem_cons.1 h with rfl | h
   ·exact .inr List.mem_cons_self
   ·rcases qGq n r x h with e | e
    ·exact .inl e
    ·exact .inr (List.mem_cons_of_mem _ e)
  ·split at h
   ·rcases List.mem_cons.1 h with rfl | h
    ·exact .inl rfl
    ·exact .inr (List.mem_cons_of_mem _ h)
   ·rcases List.mem_cons.1 h with rfl | h
    ·exact .inl rfl
    ·exact .inr h
theorem qJo(n:qA):∀(l:List qA),l.Pairwise (fun x y=>x.f0<y.f0)->(putN n l).Pairwise (fun x y=>x.f0<y.f0)
 | [],_=>List.pairwise_singleton _ _
 | y :: r,h=>by
  obtain ⟨h1,h2⟩:=List.pairwise_cons.1 h
  unfold putN
  by_cases c:y.f0<n.f0
  ·rw [if_pos c]
   refine List.pairwise_cons.2 ⟨fun x hx=>?_,qJo n r h2⟩
   rcases qGq n r x hx with rfl | hx
   ·exact c
   ·exact h1 x hx
  ·rw [if_neg c]
   by_cases c2:y.f0=n.f0
   ·rw [if_pos c2]
    exact List.pairwise_cons.2 ⟨fun x hx=>by have:=h1 x hx; omega,h2⟩
   ·rw [if_neg c2]
    refine List.pairwise_cons.2 ⟨fun x hx=>?_,h⟩
    rcases List.mem_cons.1 hx with rfl | hx
    ·omega
    ·have:=h1 x hx; omega
theorem qIh(n:qA):∀(l:List qA),(∃ x ∈ l,x.f0=n.f0)->l.Pairwise (fun x y=>x.f0<y.f0)->(putN n l).length=l.length
 | [],h,_=>by obtain ⟨_,h,_⟩:=h; cases h
 | y :: r,h,hp=>by
  obtain ⟨h1,h2⟩:=List.pairwise_cons.1 hp
  unfold putN
  by_cases c:y.f0<n.f0
  ·rw [if_pos c,List.length_cons,List.length_cons,qIh n r ?_ h2]
   obtain ⟨x,hx,e⟩:=h
   rcases List.mem_cons.1 hx with rfl | hx
   ·omega
   ·exact ⟨x,hx,e⟩
  ·rw [if_neg c]
   obtain ⟨x,hx,e⟩:=h
   rcases List.mem_cons.1 hx with rfl | hx
   ·rw [if_pos e,List.length_cons,List.length_cons]
   ·have:=h1 x hx; omega
theorem qEg{l:List qA}(h:Topo.Nodes l){n:qA}(hn:Topo.okN n)(he:∃ x ∈ l,x.f0=n.f0):Topo.Nodes (putN n l) :=
 qHP (by rw [qIh n l he h.up]; exact h.1) (fun x hx=>by
  rcases qGq n l x hx with rfl | hx
  ·exact hn
  ·exact h.ok x hx) (qJo n l h.up)
theorem qEO(n:qA)(id:Int):∀(l:List qA),l.Pairwise (fun x y=>x.f0<y.f0)->(putN n l).find? (fun x=>decide (x.f0=id))=if n.f0=id then some n else l.find? (fun x=>decide (x.f0=id))
 | [],_=>by
  unfold putN
  rw [List.find?_cons]
  by_cases c:n.f0=id
  ·simp [c]
  ·simp [c]
 | y :: r,hp=>by
  obtain ⟨h1,h2⟩:=List.pairwise_cons.1 hp
  unfold putN
  by_cases c:y.f0<n.f0
  ·rw [if_pos c,List.find?_cons,List.find?_cons,qEO n id r h2]
   by_cases d:n.f0=id
   ·have:¬ y.f0=id:=by omega
    simp [d,this]
   ·simp [d]
  ·rw [if_neg c]
   by_cases c2:y.f0=n.f0
   ·rw [if_pos c2,List.find?_cons,List.find?_cons]
    by_cases d:n.f0=id
    ·simp [d]
    ·have:¬ y.f0=id:=by omega
     simp [d,this]
   ·rw [if_neg c2,List.find?_cons]
    by_cases d:n.f0=id
    ·simp [d]
    ·simp [d]
theorem qIi(i id:Int)(l:List qA)(h:id≠i):(dropN i l).find? (fun x=>decide (x.f0=id))=l.find? (fun x=>decide (x.f0=id)):=by
 unfold dropN
 rw [List.find?_filter]
 congr 1
 funext x
 by_cases c:x.f0=id
 ·simp [c,h]
 ·simp [c]
theorem qDK{l l':List qA}: ∀(ids met:List Int),(∀ id ∈ ids,∀ n,l.find? (fun x=>decide (x.f0=id))=some n->∃ n',l'.find? (fun x=>decide (x.f0=id))=some n'/\n'.f1=n.f1)->Topo.apartR l met ids=true->Topo.apartR l' met ids=true
 | [],_,_,_=>rfl
 | id :: r,met,h,ha=>by
  rw [Topo.apartR]at ha ⊢
  cases hf:l.find? (fun x=>decide (x.f0=id)) with
  | none=>rw [hf]at ha; cases ha
  | some n =>
   rw [hf]at ha
   obtain ⟨n',e1,e2⟩:=h id List.mem_cons_self n hf
   rw [e1]
   dsimp only at ha ⊢
   rw [Bool.and_eq_true]at ha ⊢
   rw [e2]
   exact ⟨ha.1,qDK r _ (fun i hi=>h i (List.mem_cons_of_mem _ hi)) ha.2⟩
theorem qCq(m:qD):∀(l:List qE)(p:Int),temps m p l=true↔(∀ t ∈ l,((0<=t.f0/\t.f0<m.f3)/\(1<=(t.f1.length:Int)/\(t.f1.length:Int)<=m.f1))/\Topo.apartR m.f4 [] t.f1=true)/\l.Pairwise (fun x y=>x.f0<y.f0)/\∀ t ∈ l,p<t.f0
 | [],p=>⟨fun _=>⟨(fun _ h=>nomatch h),List.Pairwise.nil,fun _ h=>nomatch h⟩,fun _=>rfl⟩
 | t :: l,p=>by
  rw [temps,Bool.and_eq_true,Bool.and_eq_true,decide_eq_true_eq,qCq m l t.f0,List.pairwise_cons]
  constructor
  ·rintro ⟨⟨h1,h2⟩,h3,h4,h5⟩
   refine ⟨fun x hx=>?_,⟨h5,h4⟩,fun x hx=>?_⟩
   ·rcases List.mem_cons.1 hx with rfl | hx
    ·exact ⟨⟨h1.1,h1.2.2⟩,h2⟩
    ·exact h3 x hx
   ·rcases List.mem_cons.1 hx with rfl | hx
    ·exact h1.2.1
    ·have:=h5 x hx; have:=h1.2.1; omega
  ·rintro ⟨h1,⟨h2,h3⟩,h4⟩
   have h0:=h1 t List.mem_cons_self
   exact ⟨⟨⟨h0.1.1,h4 t List.mem_cons_self,h0.1.2⟩,h0.2⟩,fun x hx=>h1 x (List.mem_cons_of_mem _ hx),h3,h2⟩
theorem qFi(g:Int)(ns:List Int):∀(l:List qE)(x:qE),x ∈ pinT g ns l->(x=⟨g,ns⟩/\ns≠[])\/x ∈ l
 | [],x,h=>by
  unfold pinT at h
  split at h
  ·cases h
  ·exact .inl ⟨List.mem_singleton.1 h,by assumption⟩
 | t :: r,x,h=>by
  unfold pinT at h
  split at h
  ·rcases List.mem_cons.1 h with rfl | h
   ·exact .inr List.mem_cons_self
   ·rcases qFi g ns r x h with e | e
    ·exact .inl e
    ·exact .inr (List.mem_cons_of_mem _ e)
  ·rcases List.mem_append.1 h with h | h
   ·split at h
    ·cases h
    ·exact .inl ⟨List.mem_singleton.1 h,by assumption⟩
   ·split at h
    ·exact .inr (List.mem_cons_of_mem _ h)
    ·exact .inr h
theorem qIj(g:Int)(ns:List Int):∀(l:List qE),l.Pairwise (fun x y=>x.f0<y.f0)->(pinT g ns l).Pairwise (fun x y=>x.f0<y.f0)
 | [],_=>by
  unfold pinT
  split
  ·exact List.Pairwise.nil
  ·exact List.pairwise_singleton _ _
 | t :: r,hp=>by
  obtain ⟨h1,h2⟩:=List.pairwise_cons.1 hp
  unfold pinT
  by_cases c:t.f0<g
  ·rw [if_pos c]
   refine List.pairwise_cons.2 ⟨fun x hx=>?_,qIj g ns r h2⟩
   rcases qFi g ns r x hx with ⟨rfl,_⟩ | hx
   ·exact c
   ·exact h1 x hx
  ·rw [if_neg c]
   have hr:(if t.f0=g then r else t :: r).Pairwise (fun x y=>x.f0<y.f0):=by split <;> assumption
   have hg:∀ x ∈ (if t.f0=g then r else t :: r),g<x.f0:=by
    intro x hx
    split at hx
    ·have:=h1 x hx; omega
    ·rcases List.mem_cons.1 hx with rfl | hx
     ·omega
     ·have:=h1 x hx; omega
   split
   ·exact hr
   ·exact List.pairwise_cons.2 ⟨hg,hr⟩
theorem qCY(m:qD)(since:Int):∀(l seen:List qG)(p:Int),past m since p seen l=true↔(∀ s ∈ l,((0<=s.f0/\s.f0<since)/\m.f2<=(s.f1.length:Int)/\(s.f1.length:Int)<=m.f1)/\riseI 0 s.f1=true)/\(l.Pairwise (fun x y=>x.f0<y.f0/\x.f1≠y.f1)/\∀ s ∈ l,p<s.f0)/\∀ s ∈ l,∀ x ∈ seen,x.f1≠s.f1
 | [],seen,p=>⟨fun _=>⟨(fun _ h=>nomatch h),⟨List.Pairwise.nil,fun _ h=>nomatch h⟩,fun _ h=>nomatch h⟩,fun _=>rfl⟩
 | s :: l,seen,p=>by
  rw [past,Bool.and_eq_true,Bool.and_eq_true,Bool.and_eq_true,decide_eq_true_eq,Bool.not_eq_true',decide_eq_false_iff_not,qCY m since l (seen++[s]) s.f0,List.pairwise_cons]
  constructor
  ·rintro ⟨⟨⟨h1,h2⟩,h3⟩,h4,⟨h5,h6⟩,h7⟩
   refine ⟨fun x hx=>?_,⟨⟨fun x hx=>⟨h6 x hx,h7 x hx s (by simp)⟩,h5⟩,fun x hx=>?_⟩,fun x hx y hy=>?_⟩
   ·rcases List.mem_cons.1 hx with rfl | hx
    ·exact ⟨⟨h1.1,h1.2.2⟩,h2⟩
    ·exact h4 x hx
   ·rcases List.mem_cons.1 hx with rfl | hx
    ·exact h1.2.1
    ·have:=h6 x hx; have:=h1.2.1; omega
   ·rcases List.mem_cons.1 hx with rfl | hx
    ·exact fun e=>h3 ⟨y,hy,e⟩
    ·exact h7 x hx y (List.mem_append.2 (.inl hy))
  ·rintro ⟨h1,⟨⟨h2,h3⟩,h4⟩,h5⟩
   have h0:=h1 s List.mem_cons_self
   refine ⟨⟨⟨⟨h0.1.1,h4 s List.mem_cons_self,h0.1.2⟩,h0.2⟩,fun ⟨x,hx,e⟩=>h5 s List.mem_cons_self x hx e⟩,fun x hx=>h1 x (List.mem_cons_of_mem _ hx),⟨h3,fun x hx=>(h2 x hx).1⟩,fun x hx y hy=>?_⟩
   rcases List.mem_append.1 hy with hy | hy
   ·exact h5 x (List.mem_cons_of_mem _ hx) y hy
   ·rw [List.mem_singleton.1 hy]
    exact (h2 x hx).2
theorem qCv(m:qD):∀ l:List qC,trails m l=true↔∀ t ∈ l,(0<=t.f0/\t.f0<=m.f0)/\past m t.f0 (-1) [] t.f1=true
 | []=>⟨fun _ _ h=>(nomatch h),fun _=>rfl⟩
 | t :: l=>by
  rw [trails,Bool.and_eq_true,Bool.and_eq_true,decide_eq_true_eq,qCv m l]
  simp only [List.mem_cons,forall_eq_or_imp]
theorem qDa{m m':qD}(h1:m'.f1=m.f1)(h3:m'.f3=m.f3)(l:List qE)(p:Int)(h4:∀ t ∈ l,Topo.apartR m.f4 [] t.f1=true->Topo.apartR m'.f4 [] t.f1=true)(h:temps m p l=true):temps m' p l=true:=by
 rw [qCq]at h ⊢
 rw [h1,h3]
 exact ⟨fun t ht=>⟨(h.1 t ht).1,h4 t ht (h.1 t ht).2⟩,h.2⟩
theorem qCa{m m':qD}(h1:m'.f1=m.f1)(h2:m'.f2=m.f2)(since:Int)(l seen:List qG)(p:Int):past m' since p seen l=past m since p seen l:=by
 rw [Bool.eq_iff_iff,qCY,qCY,h1,h2]
theorem qED{m m':qD}(h0:m'.f0=m.f0)(h1:m'.f1=m.f1)(h2:m'.f2=m.f2)(l:List qC):trails m' l=trails m l:=by
 rw [Bool.eq_iff_iff,qCv,qCv,h0]
 simp only [qCa h1 h2]
theorem qEh{m:qD}(h:May m){l:List qA}(hl:Topo.Nodes l)(ht:∀ t ∈ m.f5,Topo.apartR m.f4 [] t.f1=true->Topo.apartR l [] t.f1=true):May (withN m l) :=
 ⟨⟨h.1.1,h.1.2.1,h.1.2.2.1,h.1.2.2.2.1,hl⟩,qDa (m:=m) (m':=withN m l) rfl rfl _ _ ht h.2.1,h.2.2.1,(qED (m:=m) (m':=withN m l) rfl rfl rfl _).trans h.2.2.2⟩
theorem qCo{l:List qA}{id:Int}{n:qA}(h:l.find? (fun x=>decide (x.f0=id))=some n):n ∈ l/\n.f0=id:=⟨List.mem_of_find?_eq_some h,oT (List.find?_some (p:=fun x:qA=>decide (x.f0=id)) h)⟩
theorem qGr{m:qD}(h:May m){n n':qA}(hn:n ∈ m.f4)(h0:n'.f0=n.f0)(h1:n'.f1=n.f1)(hok:Topo.okN n'):May (withN m (putN n' m.f4)):=by
 have hN:=h.1.2.2.2.2
 refine qEh h (qEg hN hok ⟨n,hn,h0.symm⟩) fun t _ ha=>qDK _ _ (fun id _ x hx=>?_) ha
 rw [qEO _ _ _ hN.up]
 obtain ⟨q1,q2⟩:=qCo hx
 by_cases c:n'.f0=id
 ·rw [if_pos c]
  refine ⟨n',rfl,?_⟩
  rw [h1,Place.node_uniq hN hn q1 (by omega)]
 ·rw [if_neg c]
  exact ⟨x,hx,rfl⟩
theorem qIk{l:List qA}: ∀(ids met:List Int),Topo.apartR l met ids=true->∀ id ∈ ids,∃ n,l.find? (fun x=>decide (x.f0=id))=some n
 | [],_,_,_,h=>nomatch h
 | i :: r,met,h,id,hi=>by
  rw [Topo.apartR]at h
  cases hf:l.find? (fun x=>decide (x.f0=i)) with
  | none=>rw [hf]at h; cases h
  | some n =>
   rw [hf]at h
   dsimp only at h
   rw [Bool.and_eq_true]at h
   rcases List.mem_cons.1 hi with rfl | hi
   ·exact ⟨n,hf⟩
   ·exact qIk r _ h.2 id hi
theorem qJY{m:qD}(h:May m){n:qA}(hn:n ∈ m.f4){d:qF}(hd:d.f1=n.f0)(he:(nodeL m n d).2=0):May (nodeL m n d).1:=by
 have hok:=h.1.2.2.2.2.ok n hn
 unfold nodeL at he ⊢
 split at he
 ·rename_i c2
  rw [if_pos c2]
  split at he
  ·rename_i cw
   rw [if_pos cw]
   split at he
   ·cases he
   ·rename_i cn
    rw [if_neg cn]
    refine qGr h hn rfl rfl ?_
    unfold Topo.okN at hok ⊢
    exact ⟨hok.1,hok.2.1,hok.2.2.1,cw⟩
  ·cases he
 ·rename_i c2
  rw [if_neg c2]
  split at he
  ·rename_i c3
   rw [if_pos c3]
   split at he
   ·cases he
   ·rename_i cn
    rw [if_neg cn]
    exact qGr h hn rfl rfl hok
  ·rename_i c3
   rw [if_neg c3]
   split at he
   ·rename_i c4
    rw [if_pos c4]
    split at he
    ·cases he
    ·rename_i cn
     rw [if_neg cn]
     exact qGr h hn rfl rfl hok
   ·rename_i c4
    rw [if_neg c4]
    split at he
    ·cases he
    ·rename_i c5
     rw [if_neg c5]
     refine qEh h (qEC h.1.2.2.2.2 _) fun t ht ha=>qDK _ _ (fun id hid x hx=>⟨x,?_,rfl⟩) ha
     rw [qIi]
     ·exact hx
     ·rintro rfl
      refine c5 (.inr (.inr ?_))
      unfold held
      rw [Bool.or_eq_true,List.any_eq_true]
      exact .inl ⟨t,ht,dT hid⟩
theorem qKL{m:qD}(h:May m){d:qF}(he:(addL m d).2=0):May (addL m d).1:=by
 unfold addL at he ⊢
 split at he
 ·cases he
 ·rename_i c1
  rw [if_neg c1]
  split at he
  ·cases he
  ·rename_i c2
   rw [if_neg c2]
   split at he
   ·rename_i c3
    rw [if_pos c3]
    refine qEh h c3 fun t _ ha=>qDK _ _ (fun id _ x hx=>⟨x,?_,rfl⟩) ha
    rw [qEO _ _ _ h.1.2.2.2.2.up,if_neg]
    ·exact hx
    ·intro e
     refine c1 ?_
     unfold Topo.find
     rw [show d.f1=id from e,hx]
   ·cases he
theorem qIl{m:qD}(h:May m){l:List qE}(hl:temps m (-1) l=true):May (withT m l) :=
 ⟨h.1,qDa (m:=m) (m':=withT m l) rfl rfl _ _ (fun _ _ q=>q) hl,h.2.2.1,(qED (m:=m) (m':=withT m l) rfl rfl rfl _).trans h.2.2.2⟩
theorem qKM{m:qD}(h:May m){d:qF}(he:(pinL m d).2=0):May (pinL m d).1:=by
 unfold pinL at he ⊢
 split at he
 ·rename_i c1
  rw [if_pos c1]
  split at he
  ·cases he
  ·rename_i c2
   rw [if_neg c2]
   split at he
   ·rename_i c3
    rw [if_pos c3]
    have ht:=(qCq m _ _).1 h.2.1
    refine qIl h ((qCq m _ _).2 ⟨fun t hm=>?_,qIj _ _ _ ht.2.1,fun t hm=>?_⟩)
    ·rcases qFi _ _ _ _ hm with ⟨rfl,q⟩ | hm
     ·have:=List.length_pos_iff.2 q
      exact ⟨⟨⟨c1.1,c1.2.1⟩,by show 1<=(d.f6.length:Int); omega,c1.2.2⟩,c3⟩
     ·exact ht.1 t hm
    ·rcases qFi _ _ _ _ hm with ⟨rfl,q⟩ | hm
     ·show -1<d.f5
      have:=c1.1
      omega
     ·exact ht.2.2 t hm
   ·cases he
 ·cases he
theorem qIm{m:qD}(h:May m){l:List qC}(h1:l.length=m.f6.length)(h2:trails m l=true):May (withP m l) :=
 ⟨h.1,qDa (m:=m) (m':=withP m l) rfl rfl _ _ (fun _ _ q=>q) h.2.1,by show (l.length:Int)=m.f3; rw [h1]; exact h.2.2.1,(qED (m:=m) (m':=withP m l) rfl rfl rfl _).trans h2⟩
theorem qIn{m:qD}(h:May m){d:qF}(he:(cleanL m d).2=0):May (cleanL m d).1:=by
 unfold cleanL at he ⊢
 split at he
 ·rename_i c1
  rw [if_pos c1]
  split at he
  ·cases he
  ·rename_i c2
   rw [if_neg c2]
   split at he
   ·cases he
   ·rename_i c3
    rw [if_neg c3]
    have hlen:=h.2.2.1
    have hi:d.f5.toNat<m.f6.length:=by omega
    have ht:=(qCv m _).1 h.2.2.2
    refine qIm h (List.length_set ..) ((qCv m _).2 fun t hm=>?_)
    rcases List.mem_or_eq_of_mem_set hm with hm | rfl
    ·exact ht t hm
    ·have:=(ht _ (gM hi)).1
     have e:nth qC.z m.f6 d.f5=m.f6[d.f5.toNat]:=by
      unfold nth
      rw [List.getD_eq_getElem?_getD,List.getElem?_eq_getElem hi]
      rfl
     rw [e]
     exact ⟨this,rfl⟩
 ·cases he
theorem qEE{m:qD}(h:May m){d:qF}(he:(qKX m d).2=0):May (qKX m d).1:=by
 unfold qKX at he ⊢
 split at he
 ·rename_i c
  rw [if_pos c]
  exact qKL h he
 ·rename_i c
  rw [if_neg c]
  split at he
  ·rename_i c
   rw [if_pos c]
   exact qKM h he
  ·rename_i c
   rw [if_neg c]
   split at he
   ·rename_i c
    rw [if_pos c]
    exact h
   ·rename_i c
    rw [if_neg c]
    split at he
    ·rename_i c
     rw [if_pos c]
     exact qIn h he
    ·rename_i c
     rw [if_neg c]
     cases hf:m.f4.find? (fun n=>decide (n.f0=d.f1)) with
     | none=>rw [hf]at he; cases he
     | some n =>
      rw [hf]at he
      exact qJY h (qCo hf).1 (qCo hf).2.symm he
theorem qIo{m:qD}(h:May m)(g:Int):qKZ m g=[]\/((qKZ m g).length:Int)<=m.f1/\Topo.apartR m.f4 [] (qKZ m g)=true:=by
 unfold qKZ
 cases hf:m.f5.find? (fun t=>decide (t.f0=g)) with
 | none=>exact .inl rfl
 | some t =>
  have ht:=((qCq m _ _).1 h.2.1).1 t (List.mem_of_find?_eq_some hf)
  exact .inr ⟨ht.1.2.2,ht.2⟩
theorem qDm{l:List qA}: ∀(ids met:List Int),Topo.apartR l met ids=true->ids.Nodup/\∀ id ∈ ids,∃ n,l.find? (fun x=>decide (x.f0=id))=some n/\¬ n.f1 ∈ met
 | [],_,_=>⟨List.nodup_nil,fun _ h=>nomatch h⟩
 | i :: r,met,h=>by
  rw [Topo.apartR]at h
  cases hf:l.find? (fun x=>decide (x.f0=i)) with
  | none=>rw [hf]at h; cases h
  | some n =>
   rw [hf]at h
   dsimp only at h
   rw [Bool.and_eq_true,Bool.not_eq_true',decide_eq_false_iff_not]at h
   obtain ⟨h1,h2⟩:=qDm r _ h.2
   refine ⟨List.nodup_cons.2 ⟨fun hm=>?_,h1⟩,fun id hid=>?_⟩
   ·obtain ⟨n',e1,e2⟩:=h2 i hm
    rw [hf]at e1
    cases e1
    exact e2 (by simp)
   ·rcases List.mem_cons.1 hid with rfl | hid
    ·exact ⟨n,hf,h.1⟩
    ·obtain ⟨n',e1,e2⟩:=h2 id hid
     exact ⟨n',e1,fun c=>e2 (List.mem_append.2 (.inl c))⟩
theorem qFM{m:qD}(h:May m)(g:Int):(rawL m g).Nodup/\((rawL m g).length:Int)<=m.f1/\∀ id ∈ rawL m g,∃ n ∈ m.f4,n.f0=id:=by
 have h1:=h.1.2.1
 unfold rawL
 split
 ·unfold Place.ofCommon
  split
  ·rename_i hc
   refine ⟨?_,?_,?_⟩
   ·unfold List.Nodup
    rw [List.pairwise_map]
    refine List.Pairwise.imp_of_mem ?_ ((Place.zones_nodup hc.1 g).sublist (List.take_sublist m.f1.toNat _))
    intro a b ha hb hab e
    obtain ⟨n,hn,q1,_,q2,_⟩:=Place.zone_pk hc.1 g (List.mem_of_mem_take ha)
    obtain ⟨n',hn',q1',_,q2',_⟩:=Place.zone_pk hc.1 g (List.mem_of_mem_take hb)
    have:n=n':=Place.node_uniq hc.1 hn hn' (by omega)
    subst this
    exact hab (by omega)
   ·rw [List.length_map,List.length_take]
    omega
   ·intro id hid
    obtain ⟨z,hz,rfl⟩:=List.mem_map.1 hid
    obtain ⟨n,hn,_,_,q2,_⟩:=Place.zone_pk hc.1 g (List.mem_of_mem_take hz)
    exact ⟨n,hn,q2.symm⟩
  ·exact ⟨List.nodup_nil,by simp; omega,fun _ h=>nomatch h⟩
 ·rename_i c
  obtain ⟨q1,q2⟩:=(qIo h g).resolve_left c
  refine ⟨(qDm _ _ q2).1,q1,fun id hid=>?_⟩
  obtain ⟨n,e,_⟩:=(qDm _ _ q2).2 id hid
  exact ⟨n,qCo e⟩
theorem qGI{m:qD}(h:May m)(g:Int):(actL m g).Nodup/\((actL m g).length:Int)<=m.f1/\∀ id ∈ actL m g,∃ n ∈ m.f4,n.f0=id:=by
 obtain ⟨h1,h2,h3⟩:=qFM h g
 refine ⟨h1.sublist (List.filter_sublist ..),?_,fun id hid=>h3 id (List.mem_filter.1 hid).1⟩
 have:=List.length_filter_le (upN m.f4) (rawL m g)
 unfold actL
 omega
theorem qGs(l:List Int)(hn:l.Nodup)(hk:∀ x ∈ l,1<=x/\x<=999):riseI 0 (rising l)=true:=by
 have hs:(rising l).Pairwise (fun a b=>decide (b<a)=false):=qCx (ok:=fun _=>True) (lt:=fun a b:Int=>decide (a<b)) ⟨fun x _=>by simp,fun x y z _ _ _ a b=>by simp at a b ⊢; omega,fun x y z _ _ _ a b=>by simp at a b ⊢; omega⟩ l fun _ _=>trivial
 have hd:(rising l).Nodup:=(qCu _ l).nodup_iff.2 hn
 have hm:∀ x ∈ rising l,1<=x/\x<=999:=fun x hx=>hk x ((qDI _ l).1 hx)
 generalize rising l=r at hs hd hm
 have go:∀(r:List Int)(p:Int),r.Pairwise (fun a b=>decide (b<a)=false)->r.Nodup->(∀ x ∈ r,1<=x/\x<=999)->(∀ x ∈ r,p<x)->riseI p r=true:=by
  intro r
  induction r with
  | nil=>exact fun _ _ _ _ _=>rfl
  | cons x r ih =>
   intro p h1 h2 h3 h4
   obtain ⟨a1,a2⟩:=List.pairwise_cons.1 h1
   obtain ⟨b1,b2⟩:=List.nodup_cons.1 h2
   rw [riseI,dT ⟨h3 x List.mem_cons_self,h4 x List.mem_cons_self⟩,Bool.true_and]
   refine ih x a2 b2 (fun y hy=>h3 y (List.mem_cons_of_mem _ hy)) fun y hy=>?_
   have:=of_decide_eq_false (a1 y hy)
   have hne:x≠y:=fun e=>b1 (e ▸ hy)
   omega
 exact go r 0 hs hd hm fun x hx=>by have:=hm x hx; omega
theorem qGt{m m':qD}(h1:m'.f1=m.f1)(h2:m'.f2=m.f2)(h:May m){t:qC}(ht:(0<=t.f0/\t.f0<=m.f0)/\past m t.f0 (-1) [] t.f1=true)(g:Int)(now:List Int)(h0:m'.f0=m.f0+1):(0<=(followT t (actL m g) now m.f2 (m.f0+1)).f0/\(followT t (actL m g) now m.f2 (m.f0+1)).f0<=m'.f0)/\past m' (followT t (actL m g) now m.f2 (m.f0+1)).f0 (-1) [] (followT t (actL m g) now m.f2 (m.f0+1)).f1=true:=by
 have hm0:=h.1.1
 obtain ⟨a1,a2,a3⟩:=qGI h g
 unfold followT
 by_cases c:actL m g=now
 ·rw [if_pos c,qCa h1 h2]
  exact ⟨by omega,ht.2⟩
 ·rw [if_neg c,qCa h1 h2]
  refine ⟨by show 0<=m.f0+1/\m.f0+1<=m'.f0; omega,?_⟩
  obtain ⟨p1,⟨p2,p3⟩,p4⟩:=(qCY m _ _ _ _).1 ht.2
  have hw:∀ s ∈ t.f1,(0<=s.f0/\s.f0<m.f0+1):=fun s hs=>by have:=(p1 s hs).1.1; omega
  show past m (m.f0+1) (-1) [] (if m.f2<=((actL m g).length:Int) then t.f1.filter (fun s => !decide (s.f1=rising (actL m g)))++[⟨t.f0,rising (actL m g)⟩] else t.f1)=true
  by_cases c2:m.f2<=((actL m g).length:Int)
  ·rw [if_pos c2]
   have hrl:(rising (actL m g)).length=(actL m g).length:=qCz _ _
   refine (qCY m _ _ _ _).2 ⟨fun s hs=>?_,⟨?_,fun s hs=>?_⟩,fun _ _ _ hx=>nomatch hx⟩
   ·rcases List.mem_append.1 hs with hs | hs
    ·have hs:=(List.mem_filter.1 hs).1
     exact ⟨⟨hw s hs,(p1 s hs).1.2⟩,(p1 s hs).2⟩
    ·rw [List.mem_singleton.1 hs]
     refine ⟨⟨⟨ht.1.1,by show t.f0<m.f0+1; omega⟩,?_⟩,qGs _ a1 fun x hx=>?_⟩
     ·show m.f2<=((rising (actL m g)).length:Int)/\((rising (actL m g)).length:Int)<=m.f1
      rw [hrl]
      exact ⟨c2,a2⟩
     ·obtain ⟨n,hn,e⟩:=a3 x hx
      have:=h.1.2.2.2.2.ok n hn
      unfold Topo.okN at this
      omega
   ·refine List.pairwise_append.2 ⟨p2.filter _,List.pairwise_singleton _ _,fun x hx y hy=>?_⟩
    rw [List.mem_singleton.1 hy]
    obtain ⟨q1,q2⟩:=List.mem_filter.1 hx
    refine ⟨(p1 x q1).1.1.2,?_⟩
    simpa using q2
   ·rcases List.mem_append.1 hs with hs | hs
    ·exact p3 s (List.mem_filter.1 hs).1
    ·rw [List.mem_singleton.1 hs]
     show -1<t.f0
     omega
  ·rw [if_neg c2]
   exact (qCY m _ _ _ _).2 ⟨fun s hs=>⟨⟨hw s hs,(p1 s hs).1.2⟩,(p1 s hs).2⟩,⟨p2,p3⟩,p4⟩
theorem qDn{m:qD}{d:qF}: (qKX m d).1.f0=m.f0/\(qKX m d).1.f1=m.f1/\(qKX m d).1.f2=m.f2/\(qKX m d).1.f3=m.f3:=by
 unfold qKX addL pinL cleanL nodeL withN withT withP
 repeat' split
 all_goals exact ⟨rfl,rfl,rfl,rfl⟩
theorem qDC{m:qD}(h:May m)(d:qF):May (qKb m d).1:=by
 unfold qKb
 split
 ·split
  ·exact h
  ·rename_i c0
   split
   ·rename_i c1
    have hx:=qEE h c1
    obtain ⟨e0,e1,e2,e3⟩:=qDn (m:=m) (d:=d)
    have hm0:=h.1.1
    generalize (qKX m d).1=x at hx e0 e1 e2 e3
    refine ⟨⟨by show 0<=m.f0+1/\m.f0+1<=2147483647; omega,h.1.2.1,h.1.2.2.1,h.1.2.2.2.1,hx.1.2.2.2.2⟩,?_,?_,?_⟩
    ·exact qDa (m:=x) (m':=⟨m.f0+1,m.f1,m.f2,m.f3,x.f4,x.f5,qKY m x⟩) e1.symm e3.symm _ _ (fun _ _ q=>q) hx.2.1
    ·show ((qKY m x).length:Int)=m.f3
     unfold qKY
     rw [List.length_mapIdx]
     have:=hx.2.2.1
     omega
    ·refine (qCv _ _).2 (fun t ht=>?_)
     unfold qKY at ht
     obtain ⟨i,hi,rfl⟩:=List.mem_mapIdx.1 ht
     have hxt:=(qCv x _).1 hx.2.2.2 _ (gM hi)
     rw [e0,qCa e1 e2]at hxt
     exact qGt (m:=m) (m':=⟨m.f0+1,m.f1,m.f2,m.f3,x.f4,x.f5,qKY m x⟩) rfl rfl h hxt i _ rfl
   ·exact h
 ·exact h
theorem qJZ{m:qD}(h:May m)(d:qF):May (nextL m d):=by
 unfold nextL
 split
 ·rename_i c
  have hm0:=h.1.1
  refine ⟨⟨by show 0<=m.f0+1/\m.f0+1<=2147483647; omega,h.1.2⟩,h.2.1 ▸ qDa (m:=m) (m':=⟨m.f0+1,m.f1,m.f2,m.f3,m.f4,m.f5,m.f6⟩) rfl rfl _ _ (fun _ _ q=>q) h.2.1,h.2.2.1,(qCv _ _).2 fun t ht=>?_⟩
  have:=(qCv m _).1 h.2.2.2 t ht
  rw [qCa (m:=m) (m':=⟨m.f0+1,m.f1,m.f2,m.f3,m.f4,m.f5,m.f6⟩) rfl rfl]
  exact ⟨⟨this.1.1,by show t.f0<=m.f0+1; omega⟩,this.2⟩
 ·exact qDC h d
theorem tfind{l:List qA}(h:Topo.Nodes l)(id:Int):Ev (fun k=>qBN.f k l id) (Topo.find l id):=by
 have hl:=h.1
 have hs:Ev (fun k=>qP.f k l id) (qKa (fun n:qA=>n.f0) id l):=by
  unfold qP.f
  exact searchG qA.z (fun n=>n.f0) id qBp.f (fun a=>by unfold qBp.f; rw [cmpG]; rfl) l _ (fun k a b=>qP.l7_s k l id a b) (by omega) h.up l.length 0 l.length (by omega) (by omega) (qEB _ _ _) (Nat.le_refl _)
 unfold qBN.f
 refine .b hs ?_
 unfold Topo.find
 rcases qDP (fun n:qA=>n.f0) id l h.up with ⟨h1,q1,q2,q3⟩ | ⟨q2,q3⟩
 ·rw [q3]
  refine .t q2 (.b (Topo.chk h) (.s (qBN.j15_s · _ _ _) (.n (by decide) (.t ?_ (.cv ?_)))))
  ·show 0<=((posG (fun n:qA=>n.f0) id l:Nat):Int)/\((posG (fun n:qA=>n.f0) id l:Nat):Int)<_
   omega
  ·have q:nth qA.z l (qKa (fun n:qA=>n.f0) id l).1=_:=nth_get qA.z l _ h1
   rw [q]
 ·rw [q3]
  exact .n (by rw [q2]; decide) (.s (qBN.j15_s · _ _ _) (.t rfl (.c _)))
theorem indexG {α : Type} (z : α) (l:List α) (p : α->Bool) (pO:Nat->α->Option Bool) (hp:∀ x ∈ l,Ev (fun k=>pO k x) (p x)) (hl:l.length<1000000) (L:Nat->Int->Option Int)
  (hL:∀ k x,L (k+1) x=(if x<(l.length:Int) then (if 0<=x/\x<(l.length:Int) then ((pO k (nth z l x)).bind fun t21=>(if t21=true then (some x) else (L k (w64 (x+1))))) else (none)) else (some (-1)))) :
  ∀(d i:Nat),i+d=l.length->(l.take i).filter (fun x => !p x)=l.take i->(l.filter (fun x => !p x)=l/\Ev (fun k=>L k (i:Int)) (-1))\/∃ n:Nat,n<l.length/\(l.take n).filter (fun x => !p x)=l.take n/\(∀ h:n<l.length,p l[n]=true)/\Ev (fun k=>L k (i:Int)) (n:Int):=by
 intro d
 induction d with
 | zero =>
  intro i hi ht
  rw [List.take_of_length_le (by omega)]at ht
  exact .inl ⟨ht,.s (fun k=>hL k _) (.n (by omega) (.c _))⟩
 | succ d ih =>
  intro i hi ht
  have h1:i<l.length:=by omega
  have hx:=hp _ (gM h1)
  have go:∀ v,(∀ w,p l[i]=w->(w=true->v=(i:Int))/\(w=false->Ev (fun k=>L k ((i+1:Nat):Int)) v))->Ev (fun k=>L k (i:Int)) v:=by
   intro v hv
   refine .s (fun k=>hL k _) (.t (by omega) (.t (by omega) ?_))
   rw [nth_get _ _ _ h1,w64n i (by omega)]
   refine .b hx (.i (fun c=>.cv ((hv _ rfl).1 c).symm) fun c=>(hv _ rfl).2 (eq_false_of_ne_true c))
  by_cases h0:p l[i]=true
  ·exact .inr ⟨i,h1,ht,fun _=>h0,go _ fun w hw=>⟨fun _=>rfl,fun e=>absurd (hw.trans e) (by rw [h0]; decide)⟩⟩
  ·have ht':(l.take (i+1)).filter (fun x => !p x)=l.take (i+1):=by
    rw [← List.take_append_getElem h1,List.filter_append,ht]
    simp [h0]
   rcases ih (i+1) (by omega) ht' with ⟨a,b⟩ | ⟨n,a,b,c,e⟩
   ·exact .inl ⟨a,go _ fun w hw=>⟨fun q=>absurd (hw.trans q) h0,fun _=>b⟩⟩
   ·exact .inr ⟨n,a,b,c,go _ fun w hw=>⟨fun q=>absurd (hw.trans q) h0,fun _=>e⟩⟩
theorem deleteG {α : Type} (z : α) (l:List α) (p : α->Bool) (pO:Nat->α->Option Bool) (hp:∀ x ∈ l,Ev (fun k=>pO k x) (p x)) (hl:l.length<1000000) (L:Nat->List α->Int->Int->Option (List α))
  (hL:∀ k q n x,L (k+1) q n x=(if x<(l.length:Int) then (if 0<=x/\x<(l.length:Int) then ((pO k (nth z q x)).bind fun t33=>(if t33=true then (L k q n (w64 (x+1))) else (if 0<=n/\n<(l.length:Int) then (L k (q.set (n).toNat (nth z q x)) (w64 (n+1)) (w64 (x+1))) else (none)))) else (none)) else (if 0<=n/\n<=(l.length:Int) then (some (cutl (q.take (n).toNat++List.replicate (l.length - (n).toNat) z) 0 n)) else (none)))) :
  ∀(d i n:Nat)(q:List α),i+d=l.length->n<i->q.length=l.length->q.take n=(l.take i).filter (fun x => !p x)->q.drop i=l.drop i->Ev (fun k=>L k q (n:Int) (i:Int)) (l.filter fun x => !p x):=by
 intro d
 induction d with
 | zero =>
  intro i n q hi hn hq ht hd
  refine .s (fun k=>hL k _ _ _) (.n (by omega) (.t (by omega) (.cv ?_)))
  rw [List.take_of_length_le (by omega:l.length<=i)]at ht
  rw [← ht]
  have hlen:(q.take n).length=n:=by rw [List.length_take]; omega
  simp only [cutl,tN,Int.toNat_zero,List.drop_zero]
  rw [List.take_append_of_le_length (by omega),List.take_of_length_le (by omega)]
 | succ d ih =>
  intro i n q hi hn hq ht hd
  have h1:i<l.length:=by omega
  have h2:i<q.length:=by omega
  have hx:=hp _ (gM h1)
  have hd2:q[i]=l[i]/\q.drop (i+1)=l.drop (i+1):=by
   rw [List.drop_eq_getElem_cons h1,List.drop_eq_getElem_cons h2]at hd
   exact ⟨(List.cons.inj hd).1,(List.cons.inj hd).2⟩
  refine .s (fun k=>hL k _ _ _) (.t (by omega) (.t (by omega) ?_))
  rw [nth_get _ _ _ h2,hd2.1,w64n i (by omega),w64n n (by omega)]
  refine .b hx (.i (fun c=>ih (i+1) n q (by omega) (by omega) hq ?_ hd2.2) fun c=>.t (by omega) (ih (i+1) (n+1) _ (by omega) (by omega) (by rw [List.length_set]; exact hq) ?_ ?_))
  ·rw [← List.take_append_getElem h1,List.filter_append,ht]
   simp [c]
  ·rw [← List.take_append_getElem h1,List.filter_append,← ht,tN,List.take_add_one,List.take_set_of_le (by omega),List.getElem?_set_self (by omega)]
   simp [c]
  ·rw [tN,List.drop_set_of_lt (by omega)]
   exact hd2.2
theorem up{m:qD}(h:Topo.Nodes m.f4)(l:List Int)(hl:l.length<1000000):Ev (fun k=>qCR.f k m l) (l.filter (upN m.f4)):=by
 have hp:∀ x ∈ l,Ev (fun k=>qBx.f k x m) (!upN m.f4 x):=by
  intro x _
  unfold qBx.f
  exact .b (tfind h x) (.c _)
 have e:l.filter (upN m.f4)=l.filter (fun x => !(!upN m.f4 x)):=by
  congr 1
  funext x
  rw [Bool.not_not]
 unfold qCR.f qg.f qi.f
 rw [e]
 refine .b ?_ (.c _)
 rcases indexG 0 l (fun x => !upN m.f4 x) (fun k x=>qBx.f k x m) hp hl (fun k x=>qi.l5 k l m x) (fun k x=>qi.l5_s k l m x) l.length 0 (by omega) rfl with ⟨a,b⟩ | ⟨n,a,b,c,e⟩
 ·exact .b b (.t rfl (.cv a.symm))
 ·refine .b e (.n (by omega) ?_)
  rw [w64n n (by omega)]
  refine deleteG 0 l (fun x => !upN m.f4 x) (fun k x=>qBx.f k x m) hp hl (fun k q n x=>qg.l15 k l m q n x) (fun k q n x=>qg.l15_s k l m q n x) (l.length - (n+1)) (n+1) n l (by omega) (by omega) rfl ?_ rfl
  rw [← List.take_append_getElem a,List.filter_append,b]
  have ca:upN m.f4 l[n]=false:=by
   have:=c a
   revert this
   cases upN m.f4 l[n] <;> decide
  simp [ca]
theorem qDb{m:qD}(h:May m):m.f5.length<=8:=by
 have ht:=(qCq m _ _).1 h.2.1
 have h3:=h.1.2.2.2.1
 have go:∀(l:List qE)(p:Int),l.Pairwise (fun x y=>x.f0<y.f0)->(∀ t ∈ l,p<t.f0/\t.f0<m.f3)->p<m.f3->(l.length:Int)<=m.f3 - 1 - p:=by
  intro l
  induction l with
  | nil=>intro p _ _ hp; simp; omega
  | cons x r ih =>
   intro p hp hb _
   obtain ⟨h1,h2⟩:=List.pairwise_cons.1 hp
   have hx:=hb x List.mem_cons_self
   have:=ih x.f0 h2 (fun t htm=>⟨h1 t htm,(hb t (List.mem_cons_of_mem _ htm)).2⟩) hx.2
   rw [List.length_cons]
   omega
 have:=go m.f5 (-1) ht.2.1 (fun t hm=>⟨ht.2.2 t hm,(ht.1 t hm).1.1.2⟩) (by omega)
 omega
theorem temp{m:qD}(h:May m)(g:Int):Ev (fun k=>qCI.f k m g) (qKa (fun t:qE=>t.f0) g m.f5):=by
 have ht:=(qCq m _ _).1 h.2.1
 have hl:=qDb h
 unfold qCI.f qQ.f
 exact .b (searchG qE.z (fun n=>n.f0) g qBo.f (fun a=>by unfold qBo.f; rw [cmpG]; rfl) m.f5 _ (fun k a b=>qQ.l7_s k m.f5 g a b) (by omega) ht.2.1 m.f5.length 0 m.f5.length (by omega) (by omega) (qEB _ _ _) (Nat.le_refl _)) (.c _)
theorem clone(l:List Int)(hl:l.length<=1000000):qAP.f l=some l:=by
 unfold qAP.f
 rw [if_pos]
 ·rfl
 ·simp only [List.length_nil]
  omega
theorem raw{m:qD}(h:May m)(g:Int):Ev (fun k=>qCN.f k m g) (rawL m g):=by
 have ht:=(qCq m _ _).1 h.2.1
 have h1:=h.1.2.1
 unfold qCN.f
 refine .b (temp h g) ?_
 unfold rawL qKZ
 rcases qDP (fun n:qE=>n.f0) g m.f5 ht.2.1 with ⟨hp,q1,q2,q3⟩ | ⟨q2,q3⟩
 ·rw [q3]
  have hm:=ht.1 _ (gM hp)
  refine .t q2 (.t ?_ ?_)
  ·show 0<=((posG (fun n:qE=>n.f0) g m.f5:Nat):Int)/\((posG (fun n:qE=>n.f0) g m.f5:Nat):Int)<_
   omega
  ·show Ev (fun k=>(qAP.f ((nth qE.z m.f5 ((posG (fun n:qE=>n.f0) g m.f5:Nat):Int)).f1)).bind fun t21=>some t21) _
   rw [nth_get _ _ _ hp]
   refine .b0 (clone _ (by omega)) (.cv ?_)
   rw [if_neg]
   intro e
   rw [show m.f5[posG (fun n:qE=>n.f0) g m.f5].f1=[] from e]at hm
   have:=hm.1.2.1
   simp at this
 ·rw [q3,if_pos rfl]
  exact .n (by rw [q2]; decide) (.b (Place.of_ m.f4 g m.f1) (.c _))
def rawM(m:qD)(g:Int):List Int:=if May m/\0<=g/\g<m.f3 then rawL m g else []
def actM(m:qD)(g:Int):List Int:=if May m/\0<=g/\g<m.f3 then actL m g else []
theorem mRaw(m:qD)(hm:Small m)(g:Int):Ev (fun k=>qBY.f k m g) (rawM m g):=by
 unfold qBY.f rawM
 refine .b (check m hm) ?_
 by_cases h:May m
 ·have h3:=h.1.2.2.2.1
  rw [dT h]
  refine .t rfl (.b0 (min' g 0 (w64 (m.f3 - 1))) (.s (qBY.j14_s · _ _ _) ?_))
  rw [qCk (n:=m.f3 - 1) (by omega) (by omega)]
  by_cases c:0<=g/\g<m.f3
  ·rw [dT (by omega),if_pos ⟨h,c⟩]
   exact .n (by decide) (.b (raw h g) (.c _))
  ·rw [dF (by omega),if_neg (fun e=>c e.2)]
   exact .t rfl (.c _)
 ·rw [dF h,if_neg (fun e=>h e.1)]
  exact .n (by decide) (.s (qBY.j14_s · _ _ _) (.t rfl (.c _)))
theorem mActing(m:qD)(hm:Small m)(g:Int):Ev (fun k=>qBe.f k m g) (actM m g):=by
 unfold qBe.f
 refine .b (mRaw m hm g) ?_
 unfold rawM actM
 by_cases h:May m/\0<=g/\g<m.f3
 ·rw [if_pos h,if_pos h]
  have h2:=(qFM h.1 g).2.1
  have h1:=h.1.1.2.1
  exact .b (up h.1.1.2.2.2.2 _ (by omega)) (.c _)
 ·rw [if_neg h,if_neg h]
  have:Ev (fun k=>qCR.f k m []) ([]:List Int):=by
   unfold qCR.f qg.f qi.f
   exact .b (.b (.s (qi.l5_s · _ _ _) (.n (by decide) (.c _))) (.t rfl (.c _))) (.c _)
  exact .b this (.c _)
theorem rtemp(m:qD)(hm:Small m)(g:Int):Ev (fun k=>qAL.f k m g) (qKZ m g):=by
 have h5:=hm.h5
 have go:∀(d i:Nat),i+d=m.f5.length->Ev (fun k=>qAL.l7 k m g (i:Int)) (match (m.f5.drop i).find? (fun t=>decide (t.f0=g)) with
  | some t=>t.f1
  | none=>[]):=by
  intro d
  induction d with
  | zero =>
   intro i hi
   refine .s (qAL.l7_s · _ _ _) (.n (by omega) (.cv ?_))
   rw [List.drop_eq_nil_of_le (by omega)]
   rfl
  | succ d ih =>
   intro i hi
   have h1:i<m.f5.length:=by omega
   refine .s (qAL.l7_s · _ _ _) (.t (by omega) (.t (by omega) ?_))
   rw [nth_get _ _ _ h1,List.drop_eq_getElem_cons h1,w64n i (by omega)]
   refine .i (fun c=>.cv ?_) fun c=>(ih (i+1) (by omega)).v ?_
   ·rw [List.find?_cons_of_pos (by simpa using c)]
   ·rw [List.find?_cons_of_neg (by simpa using c)]
 exact go m.f5.length 0 (by omega)
theorem rRaw(m:qD)(hm:Small m)(g:Int):Ev (fun k=>qAe.f k m g) (rawM m g):=by
 have no:¬ (May m/\0<=g/\g<m.f3)->Ev (fun k=>qAe.j12 k m g true) (rawM m g):=by
  intro c
  unfold rawM
  rw [if_neg c]
  exact .s (qAe.j12_s · _ _ _) (.t rfl (.c _))
 unfold qAe.f
 refine .b (may m hm) ?_
 by_cases h:May m
 ·rw [dT h]
  refine .t rfl (.i (fun c=>no fun e=>by omega) fun c=>?_)
  by_cases c2:g>=m.f3
  ·rw [dT c2]
   exact no fun e=>by omega
  ·rw [dF c2]
   unfold rawM rawL
   rw [if_pos ⟨h,by omega,by omega⟩]
   refine .s (qAe.j12_s · _ _ _) (.n (by decide) (.b (rtemp m hm g) (.i (fun c3=>.cv ?_) fun c3=>.b (Place.rof m.f4 g m.f1 hm.h4) (.cv ?_))))
   ·rw [if_neg]
    intro e
    rw [e]at c3
    simp at c3
   ·rw [if_pos]
    exact List.length_eq_zero_iff.1 (by omega)
 ·rw [dF h]
  exact .n (by decide) (no fun e=>h e.1)
theorem rActing(m:qD)(hm:Small m)(g:Int):Ev (fun k=>qAI.f k m g) (actM m g):=by
 have hle:(rawM m g).length<=1000000:=by
  unfold rawM
  split
  ·rename_i h
   have h2:=(qFM h.1 g).2.1
   have h1:=h.1.1.2.1
   omega
  ·decide
 have go:∀(d i:Nat),i+d=(rawM m g).length->Ev (fun k=>qAI.l24 k m (rawM m g) (((rawM m g).take i).filter (upN m.f4)) (i:Int)) ((rawM m g).filter (upN m.f4)):=by
  intro d
  induction d with
  | zero =>
   intro i hi
   refine .s (qAI.l24_s · _ _ _ _) (.n (by omega) (.cv ?_))
   rw [List.take_of_length_le (by omega)]
  | succ d ih =>
   intro i hi
   have h1:i<(rawM m g).length:=by omega
   have ih:=ih (i+1) (by omega)
   have hlen:(((rawM m g).take i).filter (upN m.f4)).length<=i:=Nat.le_trans (List.length_filter_le _ _) (by rw [List.length_take]; omega)
   rw [← List.take_append_getElem h1,List.filter_append]at ih
   refine .s (qAI.l24_s · _ _ _ _) (.t (by omega) (.t (by omega) ?_))
   rw [nth_get _ _ _ h1,w64n i (by omega)]
   refine .b (Topo.reffind _ _ hm.h4) (.i (fun c=>.t (by omega) ?_) fun c=>?_)
   ·rw [show [(rawM m g)[i]].filter (upN m.f4)=[(rawM m g)[i]] from by unfold upN; simp [c]]at ih
    exact ih
   ·rw [show [(rawM m g)[i]].filter (upN m.f4)=[] from by unfold upN; simp [c],List.append_nil]at ih
    exact ih
 unfold qAI.f
 refine .b (rRaw m hm g) ((go _ 0 (Nat.zero_add _)).v ?_)
 unfold rawM actM actL
 split
 ·rfl
 ·rfl
structure Lit8 (m:qD):Prop where
 h4:m.f4.length<=30
 h5:m.f5.length<=20
 h6:m.f6.length<=20
 ht:∀ t ∈ m.f5,t.f1.length<=20
 hp:∀ t ∈ m.f6,t.f1.length<=20
 hs:∀ t ∈ m.f6,∀ s ∈ t.f1,s.f1.length<=20
theorem Lit8.small{m:qD}(h:Lit8 m):Small m:=by
 have h4:=h.h4
 have h5:=h.h5
 have h6:=h.h6
 exact ⟨by omega,by omega,by omega,fun t ht=>by have:=h.hp t ht; omega,fun t ht s hs=>by have:=h.hs t ht s hs; omega⟩
theorem light(m:qD):Ht (fun k=>qW.f k m) (fun b=>b=true->Lit8 m):=by
 have h65:∀(i:Nat)(hi:i<m.f6.length),m.f6[i].f1.length<=20->(∀ t ∈ m.f6.take i,t.f1.length<=20/\∀ s ∈ t.f1,s.f1.length<=20)->(∀ t ∈ m.f5.take 20,t.f1.length<=20) ->
   ((∀ t ∈ m.f6.take (i+1),t.f1.length<=20/\∀ s ∈ t.f1,s.f1.length<=20)->Ht (fun k=>qW.l36 k m ((i+1:Nat):Int)) fun b=>b=true->Lit8 m)->i<20 ->
   ∀(d j:Nat),j+d=m.f6[i].f1.length->(∀ s ∈ m.f6[i].f1.take j,s.f1.length<=20)->Ht (fun k=>qW.l65 k m (i:Int) (j:Int)) (fun b=>b=true->Lit8 m):=by
  intro i hi h20 hp ht hk hi20 d
  induction d with
  | zero =>
   intro j hj hs
   refine .s (qW.l65_s · _ _ _) ?_
   rw [nth_get _ _ _ hi,w64n i (by omega)]
   refine .n (by omega) (hk fun t hm=>?_)
   rw [← List.take_append_getElem hi]at hm
   rcases List.mem_append.1 hm with hm | hm
   ·exact hp t hm
   ·rw [List.mem_singleton.1 hm]
    exact ⟨h20,fun s hsm=>hs s (by rw [List.take_of_length_le (by omega)]; exact hsm)⟩
  | succ d ih =>
   intro j hj hs
   have h1:j<m.f6[i].f1.length:=by omega
   refine .s (qW.l65_s · _ _ _) ?_
   rw [nth_get _ _ _ hi]
   refine .t (by omega) (.t (by omega) ?_)
   rw [nth_get _ _ _ h1,w64n j (by omega)]
   refine .i (fun _=>.c fun e=>nomatch e) fun c=>ih (j+1) (by omega) fun s hsm=>?_
   rw [← List.take_append_getElem h1]at hsm
   rcases List.mem_append.1 hsm with hsm | hsm
   ·exact hs s hsm
   ·rw [List.mem_singleton.1 hsm]
    omega
 have h36:∀(d i:Nat),i+d=min 20 m.f6.length->(∀ t ∈ m.f6.take i,t.f1.length<=20/\∀ s ∈ t.f1,s.f1.length<=20)->(∀ t ∈ m.f5.take 20,t.f1.length<=20)->Ht (fun k=>qW.l36 k m (i:Int)) (fun b=>b=true->Lit8 m):=by
  intro d
  induction d with
  | zero =>
   intro i hi hp ht
   have fin:Ht (fun k=>qW.j44 k m (i:Int) false) (fun b=>b=true->Lit8 m):=by
    refine .s (qW.j44_s · _ _ _) (.n (by decide) (.i (fun c4=>.i (fun c5=>.c fun e=>?_) fun _=>.c fun e=>nomatch e) fun _=>.c fun e=>nomatch e))
    have c6:=oT e
    rw [List.take_of_length_le (by omega)]at hp
    rw [List.take_of_length_le (by omega)]at ht
    exact ⟨by omega,by omega,by omega,ht,fun t hm=>(hp t hm).1,fun t hm=>(hp t hm).2⟩
   refine .s (qW.l36_s · _ _) (.i (fun c=>?_) fun _=>fin)
   rw [dF (by omega)]
   exact fin
  | succ d ih =>
   intro i hi hp ht
   have h1:i<m.f6.length:=by omega
   refine .s (qW.l36_s · _ _) (.t (by omega) ?_)
   rw [dT (by omega)]
   refine .s (qW.j44_s · _ _ _) (.t rfl (.t (by omega) ?_))
   rw [nth_get _ _ _ h1]
   exact .i (fun _=>.c fun e=>nomatch e) fun c=>h65 i h1 (by omega) hp ht (fun q=>ih (i+1) (by omega) q ht) (by omega) m.f6[i].f1.length 0 (by omega) fun _ h=>nomatch h
 have h7:∀(d i:Nat),i+d=min 20 m.f5.length->(∀ t ∈ m.f5.take i,t.f1.length<=20)->Ht (fun k=>qW.l7 k m (i:Int)) (fun b=>b=true->Lit8 m):=by
  intro d
  induction d with
  | zero =>
   intro i hi ht
   have fin:Ht (fun k=>qW.j15 k m (i:Int) false) (fun b=>b=true->Lit8 m):=by
    refine .s (qW.j15_s · _ _ _) (.n (by decide) (h36 (min 20 m.f6.length) 0 (by omega) (fun _ h=>nomatch h) ?_))
    by_cases c:m.f5.length<=20
    ·rw [List.take_of_length_le (by omega)]at ht ⊢
     exact ht
    ·rwa [show i=20 by omega]at ht
   refine .s (qW.l7_s · _ _) (.i (fun c=>?_) fun _=>fin)
   rw [dF (by omega)]
   exact fin
  | succ d ih =>
   intro i hi ht
   have h1:i<m.f5.length:=by omega
   refine .s (qW.l7_s · _ _) (.t (by omega) ?_)
   rw [dT (by omega)]
   refine .s (qW.j15_s · _ _ _) (.t rfl (.t (by omega) ?_))
   rw [nth_get _ _ _ h1,w64n i (by omega)]
   refine .i (fun _=>.c fun e=>nomatch e) fun c=>ih (i+1) (by omega) fun t hm=>?_
   rw [← List.take_append_getElem h1]at hm
   rcases List.mem_append.1 hm with hm | hm
   ·exact ht t hm
   ·rw [List.mem_singleton.1 hm]
    omega
 exact h7 (min 20 m.f5.length) 0 (by omega) fun _ h=>nomatch h
theorem anyG {α : Type} (z : α) (l:List α) (p : α->Bool) (pO:Nat->α->Option Bool) (hp:∀ x ∈ l,Ev (fun k=>pO k x) (p x)) (hl:l.length<1000000) (L:Nat->Int->Option Int)
  (hL:∀ k x,L (k+1) x=(if x<(l.length:Int) then (if 0<=x/\x<(l.length:Int) then ((pO k (nth z l x)).bind fun t21=>(if t21=true then (some x) else (L k (w64 (x+1))))) else (none)) else (some (-1)))) :
  ∀(d i:Nat),i+d=l.length->∃ x,Ev (fun k=>L k (i:Int)) x/\decide (x>=0)=(l.drop i).any p:=by
 intro d
 induction d with
 | zero =>
  intro i hi
  refine ⟨-1,.s (fun k=>hL k _) (.n (by omega) (.c _)),?_⟩
  rw [List.drop_eq_nil_of_le (by omega)]
  rfl
 | succ d ih =>
  intro i hi
  have h1:i<l.length:=by omega
  have hx:=hp _ (gM h1)
  obtain ⟨x,he,hm⟩:=ih (i+1) (by omega)
  rw [List.drop_eq_getElem_cons h1,List.any_cons]
  cases h:p l[i] with
  | true =>
   rw [h]at hx
   refine ⟨i,.s (fun k=>hL k _) (.t (by omega) (.t (by omega) ?_)),?_⟩
   ·rw [nth_get _ _ _ h1]
    exact .b hx (.t rfl (.c _))
   ·rw [Bool.true_or]
    exact dT (by omega)
  | false =>
   rw [h]at hx
   refine ⟨x,.s (fun k=>hL k _) (.t (by omega) (.t (by omega) ?_)),?_⟩
   ·rw [nth_get _ _ _ h1,w64n i (by omega)]
    exact .b hx (.n nF he)
   ·rw [Bool.false_or]
    exact hm
theorem cloneN(l:List qA)(hl:l.length<=1000000):qAZ.f l=some l:=by
 unfold qAZ.f
 rw [if_pos (by simp only [List.length_nil]; omega)]
 rfl
theorem cloneT(l:List qE)(hl:l.length<=1000000):qAo.f l=some l:=by
 unfold qAo.f
 rw [if_pos (by simp only [List.length_nil]; omega)]
 rfl
theorem cloneP(l:List qC)(hl:l.length<=1000000):qAR.f l=some l:=by
 unfold qAR.f
 rw [if_pos (by simp only [List.length_nil]; omega)]
 rfl
theorem cloneS(l:List qG)(hl:l.length<=1000000):qAp.f l=some l:=by
 unfold qAp.f
 rw [if_pos (by simp only [List.length_nil]; omega)]
 rfl
theorem spansId(l:List qG)(hl:l.length<=1000000)(hs:∀ s ∈ l,s.f1.length<=1000000):Ev (fun k=>qBP.f k l) l:=by
 have go:∀(d i:Nat),i+d=l.length->Ev (fun k=>qBP.l16 k l l (i:Int)) l:=by
  intro d
  induction d with
  | zero=>exact fun i hi=>.s (qBP.l16_s · _ _ _) (.n (by omega) (.c _))
  | succ d ih =>
   intro i hi
   have h1:i<l.length:=by omega
   refine .s (qBP.l16_s · _ _ _) (.t (by omega) (.t (by omega) ?_))
   rw [nth_get _ _ _ h1,w64n i (by omega)]
   refine .b0 (clone _ (hs _ (gM h1))) ?_
   have e:l.set (i:Int).toNat (⟨l[i].f0,l[i].f1⟩:qG)=l:=by
    rw [tN]
    exact List.set_getElem_self h1
   rw [e]
   exact ih (i+1) (by omega)
 unfold qBP.f
 exact .b0 (cloneS l hl) (go l.length 0 (Nat.zero_add _))
def Pasts(b:Nat)(m:qD):Prop:=∀ t ∈ m.f6,t.f1.length<=b
theorem qDh{m:qD}(h:May m):m.f6.length<=8:=by
 have h3:=h.1.2.2.2.1
 have:=h.2.2.1
 omega
theorem qDw{m:qD}(h:May m):∀ t ∈ m.f5,t.f1.length<=3:=fun t ht=>by
 have:=((qCq m _ _).1 h.2.1).1 t ht
 have:=h.1.2.1
 omega
theorem qDR{m:qD}(h:May m):∀ t ∈ m.f6,∀ s ∈ t.f1,s.f1.length<=3:=fun t ht s hs=>by
 have:=((qCY m t.f0 t.f1 [] (-1)).1 ((qCv m m.f6).1 h.2.2.2 t ht).2).1 s hs
 have:=h.1.2.1
 omega
structure Sized (m:qD):Prop where
 h4:m.f4.length<1000000
 h5:m.f5.length<1000000
 h6:m.f6.length<1000000
 ht:∀ t ∈ m.f5,t.f1.length<1000000
 hp:∀ t ∈ m.f6,t.f1.length<1000000
 hs:∀ t ∈ m.f6,∀ s ∈ t.f1,s.f1.length<1000000
theorem May.sized{m:qD}(h:May m){b:Nat}(hb:b<=100000)(hP:Pasts b m):Sized m:=by
 have h4:m.f4.length<=12:=h.1.2.2.2.2.1
 have h5:=qDb h
 have h6:=qDh h
 exact ⟨by omega,by omega,by omega,fun t ht=>by have:=qDw h t ht; omega,fun t ht=>by have:=hP t ht; omega,fun t ht s hs=>by have:=qDR h t ht s hs; omega⟩
theorem own{m:qD}(hz:Sized m):Ev (fun k=>qBG.f k m) m:=by
 have h4:=hz.h4
 have h5:=hz.h5
 have h6:=hz.h6
 have l91:∀(d i:Nat),i+d=m.f6.length->Ev (fun k=>qBG.l91 k m m.f4 m.f5 m.f6 m.f6 (i:Int)) m:=by
  intro d
  induction d with
  | zero=>exact fun i hi=>.s (qBG.l91_s · _ _ _ _ _ _) (.n (by omega) (.c _))
  | succ d ih =>
   intro i hi
   have h1:i<m.f6.length:=by omega
   have hmem:=gM h1
   refine .s (qBG.l91_s · _ _ _ _ _ _) (.t (by omega) (.t (by omega) ?_))
   rw [nth_get _ _ _ h1,w64n i (by omega)]
   refine .b (spansId _ (Nat.le_of_lt (hz.hp _ hmem)) fun s hs=>Nat.le_of_lt (hz.hs _ hmem s hs)) ?_
   have e:m.f6.set (i:Int).toNat (⟨m.f6[i].f0,m.f6[i].f1⟩:qC)=m.f6:=by
    rw [tN]
    exact List.set_getElem_self h1
   rw [e]
   exact ih (i+1) (by omega)
 have l30:∀(d i:Nat),i+d=m.f5.length->Ev (fun k=>qBG.l30 k m m.f4 m.f5 m.f5 (i:Int)) m:=by
  intro d
  induction d with
  | zero=>exact fun i hi=>.s (qBG.l30_s · _ _ _ _ _) (.n (by omega) (.b0 (cloneP _ (by omega)) (l91 m.f6.length 0 (Nat.zero_add _))))
  | succ d ih =>
   intro i hi
   have h1:i<m.f5.length:=by omega
   refine .s (qBG.l30_s · _ _ _ _ _) (.t (by omega) (.t (by omega) ?_))
   rw [nth_get _ _ _ h1,w64n i (by omega)]
   refine .b0 (clone _ (Nat.le_of_lt (hz.ht _ (gM h1)))) ?_
   have e:m.f5.set (i:Int).toNat (⟨m.f5[i].f0,m.f5[i].f1⟩:qE)=m.f5:=by
    rw [tN]
    exact List.set_getElem_self h1
   rw [e]
   exact ih (i+1) (by omega)
 unfold qBG.f
 exact .b0 (cloneN _ (by omega)) (.b0 (cloneT _ (by omega)) (l30 m.f5.length 0 (Nat.zero_add _)))
theorem qIp{α : Type}(z : α)(a b:List α)(i:Nat)(ha:i<=a.length)(hb:i<b.length):nth z (a.take i++b.drop i) (i:Int)=b[i]:=by
 have hl:(a.take i).length=i:=by rw [List.length_take]; omega
 have h1:i<(a.take i++b.drop i).length:=by rw [lA,List.length_drop,hl]; omega
 rw [nth_get _ _ _ h1,List.getElem_append_right (by omega),List.getElem_drop]
 congr 1
 omega
theorem qHQ{α : Type}(a b:List α)(i:Nat)(ha:i<a.length)(hb:i<b.length)(h:a[i]=b[i]):a.take i++b.drop i=a.take (i+1)++b.drop (i+1):=by
 rw [List.drop_eq_getElem_cons hb,← List.take_append_getElem ha,List.append_assoc,h]
 rfl
theorem qIq{α : Type}(a b:List α)(i:Nat)(ha:i<a.length)(hb:i<b.length):(a.take i++b.drop i).set (i:Int).toNat a[i]=a.take (i+1)++b.drop (i+1):=by
 have hl:(a.take i).length=i:=by rw [List.length_take]; omega
 rw [tN,List.set_append,if_neg (by omega),hl,Nat.sub_self,List.drop_eq_getElem_cons hb,List.set_cons_zero,← List.take_append_getElem ha,List.append_assoc]
 rfl
theorem qKN(l:List Int)(hl:l.length<=1000000):qAB.f l=some (rising l):=by
 unfold qAB.f qAM.f qBZ.f sortI
 rw [if_pos hl,Option.bind_some,if_pos hl]
 rfl
theorem delSpan(l:List qG)(s:qG)(hl:l.length<1000000)(hs:∀ x ∈ l,x.f1.length<1000000):Ev (fun k=>qT.f k l s) (l.filter fun y => !decide (y.f1=s.f1)):=by
 have hp:∀ x ∈ l,Ev (fun k=>qBX.f k x s) (decide (x.f1=s.f1)):=by
  intro x hx
  unfold qBX.f
  exact .b (equal _ _ (by have:=hs x hx; omega)) (.c _)
 unfold qT.f qa.f
 rcases indexG qG.z l (fun x=>decide (x.f1=s.f1)) (fun k x=>qBX.f k x s) hp hl (fun k x=>qa.l5 k l s x) (fun k x=>qa.l5_s k l s x) l.length 0 (by omega) rfl with ⟨a,b⟩ | ⟨n,a,b,c,e⟩
 ·exact .b b (.t rfl (.cv a.symm))
 ·refine .b e (.n (by omega) ?_)
  rw [w64n n (by omega)]
  refine deleteG qG.z l (fun x=>decide (x.f1=s.f1)) (fun k x=>qBX.f k x s) hp hl (fun k q n x=>qT.l15 k l s q n x) (fun k q n x=>qT.l15_s k l s q n x) (l.length - (n+1)) (n+1) n l (by omega) (by omega) rfl ?_ rfl
  rw [← List.take_append_getElem a,List.filter_append,b]
  have ca:(decide (l[n].f1=s.f1))=true:=c a
  simp [ca]
theorem followed{m x:qD}(h:May m)(hx:May x)(he:m.f0<2147483647){b:Nat}(hb:b<=100000)(hP:Pasts b x):Ev (fun k=>qAu.f k m x) (qKY m x):=by
 have hf0:=h.1.1
 have h6:=qDh hx
 have hlen:(qKY m x).length=x.f6.length:=by unfold qKY; exact List.length_mapIdx
 have go:∀(d i:Nat),i+d=x.f6.length->Ev (fun k=>qAu.l20 k m x x.f6 ((qKY m x).take i++x.f6.drop i) (i:Int)) (qKY m x):=by
  intro d
  induction d with
  | zero =>
   intro i hi
   refine .s (qAu.l20_s · _ _ _ _ _) (.n (by omega) (.cv ?_))
   rw [List.take_of_length_le (by omega),List.drop_eq_nil_of_le (by omega),List.append_nil]
  | succ d ih =>
   intro i hi
   have h1:i<x.f6.length:=by omega
   have h2:i<(qKY m x).length:=by omega
   have hmem:=gM h1
   have hF:(qKY m x)[i]=followT x.f6[i] (actL m i) (actL x i) m.f2 (m.f0+1):=by
    simp only [qKY,List.getElem_mapIdx]
   have hr:=(qFM h i).2.1
   have hrx:=(qFM hx i).2.1
   have s1:=h.1.2.1
   have s2:=hx.1.2.1
   have ha:=(qGI h i).2.1
   have hax:=(qGI hx i).2.1
   refine .s (qAu.l20_s · _ _ _ _ _) (.t (by omega) (.t (by omega) ?_))
   rw [qIp _ _ _ _ (by omega) h1,w64n i (by omega)]
   refine .b (raw h i) (.b (up h.1.2.2.2.2 _ (by omega)) (.b (raw hx i) (.b (up hx.1.2.2.2.2 _ (by omega)) ?_)))
   refine .b (equal (actL m i) (actL x i) (by omega)) ?_
   have j144:∀ l141,(⟨m.f0+1,l141⟩:qC)=(qKY m x)[i]->Ev (fun k=>qAu.j144 k m x x.f6 ((qKY m x).take i++x.f6.drop i) (i:Int) l141) (qKY m x):=by
    intro l141 e
    refine .s (qAu.j144_s · _ _ _ _ _ _) ?_
    rw [w64n i (by omega),qCk (by omega) (by omega),e,qIq _ _ _ h2 h1]
    exact ih (i+1) (by omega)
   by_cases hw:actL m i=actL x i
   ·have e:(qKY m x)[i]=x.f6[i]:=by
     rw [hF]
     exact if_pos hw
    rw [qHQ _ _ _ h2 h1 e]
    exact .t (dT hw) (ih (i+1) (by omega))
   ·refine .n (fun e=>hw (oT e)) ?_
    rw [followT,if_neg hw]at hF
    by_cases hc:m.f2<=((actL m i).length:Int)
    ·rw [if_pos hc]at hF
     have hpl:=hP _ hmem
     have hfl:=List.length_filter_le (fun y:qG => !decide (y.f1=rising (actL m i))) x.f6[i].f1
     refine .t hc (.b0 (qKN _ (by show (actL m i).length<=_; omega)) (.b (spansId _ (by omega) fun s hs=>Nat.le_trans (qDR hx _ hmem s hs) (by decide)) (.b (delSpan _ _ (by omega) fun s hs=>Nat.lt_of_le_of_lt (qDR hx _ hmem s hs) (by decide)) (.t ?_ (j144 _ hF.symm)))))
     show ((((x.f6[i].f1.filter fun y:qG => !decide (y.f1=rising (actL m i))).length:Nat):Int)+((1:Nat):Int)) * 32<=140737488355328
     omega
    ·rw [if_neg hc]at hF
     exact .n hc (j144 _ hF.symm)
 unfold qAu.f
 refine .b0 (cloneP _ (by omega)) ?_
 have h0:=go x.f6.length 0 (Nat.zero_add _)
 rw [List.take_zero,List.drop_zero,List.nil_append]at h0
 exact h0
theorem bare(d:qF):qCS.f d=some (decide (bareD d)):=by
 have hlen:((d.f6.length:Int) == 0)=decide (d.f6=[]):=by
  cases d.f6 with
  | nil=>rfl
  | cons x r=>rw [dF (by simp)]; exact beq_eq_false_iff_ne.2 (by simp only [List.length_cons]; omega)
 have hl0:((d.f6.length:Int)=0)↔d.f6=[]:=by
  cases d.f6 with
  | nil=>exact ⟨fun _=>rfl,fun _=>rfl⟩
  | cons x r=>exact ⟨fun e=>absurd e (by simp only [List.length_cons]; omega),fun e=>(nomatch e)⟩
 have hz:∀ z:Int,(z == 0)=decide (z=0):=fun z=>by rw [Bool.eq_iff_iff,beq_iff_eq,decide_eq_true_eq]
 unfold qCS.f bareD
 rw [hlen]
 by_cases h1:d.f0=1
 ·rw [if_pos h1]
  simp only [if_pos h1]
  by_cases a:d.f5=0 <;> simp [a]
 ·rw [if_neg h1]
  simp only [if_neg h1]
  by_cases h2:d.f0=2
  ·rw [if_pos h2]
   simp only [if_pos h2]
   by_cases a:d.f2=0 <;> by_cases b:d.f3=0 <;> by_cases c:d.f5=0 <;> simp [a,b,c]
  ·rw [if_neg h2]
   simp only [if_neg h2]
   by_cases h10:d.f0=10
   ·rw [if_pos h10]
    simp only [if_pos h10]
    by_cases a:d.f1=0 <;> by_cases b:d.f2=0 <;> by_cases c:d.f3=0 <;> simp [a,b,c]
   ·rw [if_neg h10]
    simp only [if_neg h10]
    by_cases h8:d.f0=8
    ·rw [if_pos h8]
     simp only [if_pos h8]
     by_cases a:d.f1=0 <;> by_cases b:d.f2=0 <;> by_cases c:d.f3=0 <;> simp [a,b,c,hz]
    ·rw [if_neg h8]
     simp only [if_neg h8]
     by_cases a:d.f2=0 <;> by_cases b:d.f3=0 <;> by_cases c:d.f4=0 <;> by_cases e:d.f5=0 <;> by_cases f:d.f6=[] <;> by_cases g:d.f0=9 <;> simp [a,b,c,e,f,g,hl0,hz]
def Same2(R T:qD × Int):Prop:=R.2=T.2/\(T.2=0->R.1=T.1)
theorem err2(a b:qD)(c:Int)(hc:c≠0):Same2 (a,c) (b,c):=⟨rfl,fun e=>absurd e hc⟩
theorem Same2.refl(R:qD × Int):Same2 R R:=⟨rfl,fun _=>rfl⟩
theorem qIr(n:qA):∀(l:List qA),l.Pairwise (fun x y=>x.f0<y.f0)->((∃ h:posG (fun c:qA=>c.f0) n.f0 l<l.length,l[posG (fun c:qA=>c.f0) n.f0 l].f0=n.f0)->putN n l=l.set (posG (fun c:qA=>c.f0) n.f0 l) n)/\(l.find? (fun c=>decide (c.f0=n.f0))=none->putN n l=l.take (posG (fun c:qA=>c.f0) n.f0 l)++n :: l.drop (posG (fun c:qA=>c.f0) n.f0 l))
 | [],_=>⟨fun ⟨h,_⟩=>absurd h (by simp),fun _=>rfl⟩
 | c :: r,hp=>by
  obtain ⟨h1,h2⟩:=List.pairwise_cons.1 hp
  obtain ⟨i1,i2⟩:=qIr n r h2
  by_cases hc:c.f0<n.f0
  ·have e:posG (fun c:qA=>c.f0) n.f0 (c :: r)=posG (fun c:qA=>c.f0) n.f0 r+1:=by rw [posG,if_pos hc]
   rw [e,putN,if_pos hc]
   refine ⟨fun ⟨h,q⟩=>?_,fun q=>?_⟩
   ·rw [List.set_cons_succ,i1 ⟨by rw [List.length_cons]at h; omega,by rw [List.getElem_cons_succ]at q; exact q⟩]
   ·rw [List.find?_cons_of_neg (by simp; omega)]at q
    rw [i2 q]
    rfl
  ·have e:posG (fun c:qA=>c.f0) n.f0 (c :: r)=0:=by rw [posG,if_neg hc]
   rw [e,putN,if_neg hc]
   refine ⟨fun ⟨h,q⟩=>?_,fun q=>?_⟩
   ·rw [List.getElem_cons_zero]at q
    rw [if_pos q]
    rfl
   ·by_cases hx:c.f0=n.f0
    ·rw [List.find?_cons_of_pos (by simpa using hx)]at q
     cases q
    ·rw [if_neg hx]
     rfl
theorem qIs(x:Int):∀(l:List qA),l.Pairwise (fun x y=>x.f0<y.f0)->(∃ h:posG (fun c:qA=>c.f0) x l<l.length,l[posG (fun c:qA=>c.f0) x l].f0=x)->dropN x l=l.take (posG (fun c:qA=>c.f0) x l)++l.drop (posG (fun c:qA=>c.f0) x l+1)
 | [],_,⟨h,_⟩=>absurd h (by simp)
 | c :: r,hp,⟨h,q⟩=>by
  obtain ⟨h1,h2⟩:=List.pairwise_cons.1 hp
  unfold dropN
  by_cases hc:c.f0<x
  ·have e:posG (fun c:qA=>c.f0) x (c :: r)=posG (fun c:qA=>c.f0) x r+1:=by rw [posG,if_pos hc]
   simp only [e,List.getElem_cons_succ]at q
   rw [e,List.filter_cons_of_pos (by simp; omega)]
   have:=qIs x r h2 ⟨by rw [e,List.length_cons]at h; omega,q⟩
   unfold dropN at this
   rw [this]
   rfl
  ·have e:posG (fun c:qA=>c.f0) x (c :: r)=0:=by rw [posG,if_neg hc]
   simp only [e,List.getElem_cons_zero]at q
   rw [e,List.filter_cons_of_neg (by simpa using q),List.filter_eq_self.2 (fun y hy=>by have:=h1 y hy; simp; omega)]
   rfl
theorem qIt(g:Int)(ns:List Int):∀(l:List qE),l.Pairwise (fun x y=>x.f0<y.f0)->((∃ h:posG (fun c:qE=>c.f0) g l<l.length,l[posG (fun c:qE=>c.f0) g l].f0=g)->pinT g ns l=l.take (posG (fun c:qE=>c.f0) g l)++(if ns=[] then [] else [(⟨g,ns⟩:qE)])++l.drop (posG (fun c:qE=>c.f0) g l+1))/\(l.find? (fun c=>decide (c.f0=g))=none->pinT g ns l=l.take (posG (fun c:qE=>c.f0) g l)++(if ns=[] then [] else [(⟨g,ns⟩:qE)])++l.drop (posG (fun c:qE=>c.f0) g l))
 | [],_=>⟨fun ⟨h,_⟩=>absurd h (by simp),fun _=>by
  unfold pinT posG
  rw [List.take_nil,List.drop_nil,List.append_nil,List.nil_append]⟩
 | c :: r,hp=>by
  obtain ⟨h1,h2⟩:=List.pairwise_cons.1 hp
  obtain ⟨i1,i2⟩:=qIt g ns r h2
  by_cases hc:c.f0<g
  ·have e:posG (fun c:qE=>c.f0) g (c :: r)=posG (fun c:qE=>c.f0) g r+1:=by rw [posG,if_pos hc]
   rw [e,pinT,if_pos hc]
   refine ⟨fun ⟨h,q⟩=>?_,fun q=>?_⟩
   ·rw [i1 ⟨by rw [List.length_cons]at h; omega,by rw [List.getElem_cons_succ]at q; exact q⟩]
    rfl
   ·rw [List.find?_cons_of_neg (by simp; omega)]at q
    rw [i2 q]
    rfl
  ·have e:posG (fun c:qE=>c.f0) g (c :: r)=0:=by rw [posG,if_neg hc]
   rw [e,pinT,if_neg hc]
   refine ⟨fun ⟨h,q⟩=>?_,fun q=>?_⟩
   ·rw [List.getElem_cons_zero]at q
    rw [if_pos q]
    rfl
   ·by_cases hx:c.f0=g
    ·rw [List.find?_cons_of_pos (by simpa using hx)]at q
     cases q
    ·rw [if_neg hx]
     rfl
theorem at_{m:qD}(h:May m)(x:Int):Ev (fun k=>qCW.f k m x) (qKa (fun n:qA=>n.f0) x m.f4):=by
 have hn:=h.1.2.2.2.2
 have hl:=hn.1
 unfold qCW.f qS.f
 exact .b (searchG qA.z (fun n=>n.f0) x qCH.f (fun a=>by unfold qCH.f; rw [cmpG]; rfl) m.f4 _ (fun k a b=>qS.l7_s k m.f4 x a b) (by omega) hn.up m.f4.length 0 m.f4.length (by omega) (by omega) (qEB _ _ _) (Nat.le_refl _)) (.c _)
theorem foundAt{m:qD}(h:May m)(x:Int):(∃ hp:posG (fun n:qA=>n.f0) x m.f4<m.f4.length,m.f4[posG (fun n:qA=>n.f0) x m.f4].f0=x/\(qKa (fun n:qA=>n.f0) x m.f4).2=true/\m.f4.find? (fun c=>decide (c.f0=x))=some m.f4[posG (fun n:qA=>n.f0) x m.f4])\/((qKa (fun n:qA=>n.f0) x m.f4).2=false/\m.f4.find? (fun c=>decide (c.f0=x))=none):=qDP (fun n:qA=>n.f0) x m.f4 h.1.2.2.2.2.up
theorem add{m:qD}(h:May m)(d:qF):Ht (fun k=>qCV.f k m d) (fun R=>Same2 R (addL m d)):=by
 have hn:=h.1.2.2.2.2
 have hl:m.f4.length<=12:=hn.1
 unfold qCV.f
 refine .e (at_ h d.f1) ?_
 unfold addL Topo.find
 rcases foundAt h d.f1 with ⟨hp,q1,q2,q3⟩ | ⟨q2,q3⟩
 ·rw [q3]
  exact .t q2 (.c (err2 _ _ _ (by decide)))
 ·rw [q3]
  refine .n (by rw [q2]; decide) ?_
  rw [if_neg (by decide)]
  by_cases h12:m.f4.length=12
  ·rw [if_pos h12]
   exact .t (by omega) (.c (err2 _ _ _ (by decide)))
  ·rw [if_neg h12]
   have hle:=qEB (fun n:qA=>n.f0) d.f1 m.f4
   have ep:putN (addN d) m.f4=m.f4.take (posG (fun n:qA=>n.f0) d.f1 m.f4)++addN d :: m.f4.drop (posG (fun n:qA=>n.f0) d.f1 m.f4):=(qIr (addN d) m.f4 hn.up).2 q3
   have ei:qAg.f m.f4 (qKa (fun n:qA=>n.f0) d.f1 m.f4).1 [(⟨d.f1,d.f2,d.f3,d.f4,false,true⟩:qA)]=some (putN (addN d) m.f4):=by
    unfold qAg.f
    show (if 0<=((posG (fun n:qA=>n.f0) d.f1 m.f4:Nat):Int)/\((posG (fun n:qA=>n.f0) d.f1 m.f4:Nat):Int)<=(m.f4.length:Int)/\m.f4.length<=1000000 then some (m.f4.take ((posG (fun n:qA=>n.f0) d.f1 m.f4:Nat):Int).toNat++(⟨d.f1,d.f2,d.f3,d.f4,false,true⟩:qA) :: m.f4.drop ((posG (fun n:qA=>n.f0) d.f1 m.f4:Nat):Int).toNat) else none)=_
    rw [if_pos (by omega),tN,ep]
    rfl
   refine .n (by omega) (.o ei (.e (Topo.check' _) (.c ?_)))
   by_cases hm:Topo.Nodes (putN (addN d) m.f4)
   ·rw [if_pos hm,dT hm]
    exact ⟨rfl,fun _=>rfl⟩
   ·rw [if_neg hm,dF hm]
    exact err2 _ _ _ (by decide)
theorem foundTemp{m:qD}(h:May m)(x:Int):(∃ hp:posG (fun n:qE=>n.f0) x m.f5<m.f5.length,m.f5[posG (fun n:qE=>n.f0) x m.f5].f0=x/\(qKa (fun n:qE=>n.f0) x m.f5).2=true/\m.f5.find? (fun c=>decide (c.f0=x))=some m.f5[posG (fun n:qE=>n.f0) x m.f5])\/((qKa (fun n:qE=>n.f0) x m.f5).2=false/\m.f5.find? (fun c=>decide (c.f0=x))=none):=qDP (fun n:qE=>n.f0) x m.f5 ((qCq m _ _).1 h.2.1).2.1
theorem pin{m:qD}(h:May m)(d:qF):Ht (fun k=>qAs.f k m d) (fun R=>Same2 R (pinL m d)):=by
 have hf:=h.1
 have h1:=h.1.2.1
 have h3:=h.1.2.2.2.1
 have hl:=qDb h
 have hsort:=((qCq m _ _).1 h.2.1).2.1
 have no:Ht (fun k=>qAs.j15 k m d true) (fun R=>Same2 R ((m,1):qD × Int)):=.s (qAs.j15_s · _ _ _) (.t rfl (.c (err2 _ _ _ (by decide))))
 unfold qAs.f pinL
 refine .o (min' d.f5 0 _) ?_
 rw [qCk (by omega) (by omega)]
 by_cases hg:0<=d.f5/\d.f5<=m.f3 - 1
 ·refine .t (dT hg) ?_
  by_cases hs:(d.f6.length:Int)>m.f1
  ·rw [if_neg (by omega),dT hs]
   exact no
  rw [if_pos ⟨hg.1,by omega,by omega⟩,dF hs]
  have hd6:d.f6.length<=3:=by omega
  have hle:=qEB (fun n:qE=>n.f0) d.f5 m.f5
  have rest:∀ there:Bool,(there=true->∃ hp:posG (fun n:qE=>n.f0) d.f5 m.f5<m.f5.length,m.f5[posG (fun n:qE=>n.f0) d.f5 m.f5].f0=d.f5)->(there=false->m.f5.find? (fun c=>decide (c.f0=d.f5))=none)->∀ same:Bool,(same=true↔qKZ m d.f5=d.f6) ->
    Ht (fun k=>qAs.j45 k m d (qKa (fun t:qE=>t.f0) d.f5 m.f5) there same) (fun R=>Same2 R (if qKZ m d.f5=d.f6 then (m,7) else if Topo.apartR m.f4 [] d.f6=true then (withT m (pinT d.f5 d.f6 m.f5),0) else (m,12))):=by
   intro there ht hf' same hsame
   refine .s (qAs.j45_s · _ _ _ _ _) ?_
   cases same with
   | true =>
    rw [if_pos (hsame.1 rfl)]
    exact .t rfl (.c (err2 _ _ _ (by decide)))
   | false =>
    rw [if_neg (fun e=>Bool.noConfusion (hsame.2 e))]
    refine .n nF (.e (Topo.apart m.f4 d.f6 (by have:=h.1.2.2.2.2.1; omega) (by omega)) ?_)
    rw [dT h.1.2.2.2.2,Bool.true_and]
    by_cases ha:Topo.apartR m.f4 [] d.f6=true
    ·rw [if_pos ha]
     have j113:∀ l,l=pinT d.f5 d.f6 m.f5->Ht (fun k=>qAs.j113 k m l) (fun R=>Same2 R (withT m (pinT d.f5 d.f6 m.f5),0)):=by
      intro l hl
      rw [hl]
      exact .s (qAs.j113_s · _ _) (.c (Same2.refl _))
     have j77:∀ l,l.length<=8->posG (fun n:qE=>n.f0) d.f5 m.f5<=l.length->(l.take (posG (fun n:qE=>n.f0) d.f5 m.f5)++(if d.f6=[] then [] else [(⟨d.f5,d.f6⟩:qE)])++l.drop (posG (fun n:qE=>n.f0) d.f5 m.f5))=pinT d.f5 d.f6 m.f5->Ht (fun k=>qAs.j77 k m d (qKa (fun t:qE=>t.f0) d.f5 m.f5) l) (fun R=>Same2 R (withT m (pinT d.f5 d.f6 m.f5),0)):=by
      intro l hl8 hpl he
      refine .s (qAs.j77_s · _ _ _ _) ?_
      by_cases h6:d.f6=[]
      ·rw [if_pos h6,List.append_nil,List.take_append_drop]at he
       refine .n (by rw [h6]; decide) (j113 _ he)
      ·rw [if_neg h6]at he
       have hpos:0<d.f6.length:=List.length_pos_iff.2 h6
       have ei:qAi.f l (qKa (fun n:qE=>n.f0) d.f5 m.f5).1 [(⟨d.f5,d.f6⟩:qE)]=some (pinT d.f5 d.f6 m.f5):=by
        unfold qAi.f
        show (if 0<=((posG (fun n:qE=>n.f0) d.f5 m.f5:Nat):Int)/\((posG (fun n:qE=>n.f0) d.f5 m.f5:Nat):Int)<=(l.length:Int)/\l.length<=1000000 then some (l.take ((posG (fun n:qE=>n.f0) d.f5 m.f5:Nat):Int).toNat++(⟨d.f5,d.f6⟩:qE) :: l.drop ((posG (fun n:qE=>n.f0) d.f5 m.f5:Nat):Int).toNat) else none)=_
        rw [if_pos (by omega),tN,← he,List.append_assoc]
        rfl
       exact .t (by omega) (.o (clone _ (by omega)) (.o ei (j113 _ rfl)))
     refine .t ha ?_
     cases there with
     | true =>
      obtain ⟨hp,hq⟩:=ht rfl
      have ed:qAh.f m.f5 (qKa (fun n:qE=>n.f0) d.f5 m.f5).1 (w64 ((qKa (fun n:qE=>n.f0) d.f5 m.f5).1+1))=some (m.f5.take (posG (fun n:qE=>n.f0) d.f5 m.f5)++m.f5.drop (posG (fun n:qE=>n.f0) d.f5 m.f5+1)):=by
       unfold qAh.f
       show (if 0<=((posG (fun n:qE=>n.f0) d.f5 m.f5:Nat):Int)/\((posG (fun n:qE=>n.f0) d.f5 m.f5:Nat):Int)<=w64 (((posG (fun n:qE=>n.f0) d.f5 m.f5:Nat):Int)+1)/\w64 (((posG (fun n:qE=>n.f0) d.f5 m.f5:Nat):Int)+1)<=(m.f5.length:Int)/\m.f5.length<=1000000 then some (m.f5.take ((posG (fun n:qE=>n.f0) d.f5 m.f5:Nat):Int).toNat++m.f5.drop (w64 (((posG (fun n:qE=>n.f0) d.f5 m.f5:Nat):Int)+1)).toNat) else none)=_
       rw [w64n _ (by omega),if_pos (by omega),tN,tN]
      have hlen:(m.f5.take (posG (fun n:qE=>n.f0) d.f5 m.f5)).length=posG (fun n:qE=>n.f0) d.f5 m.f5:=by rw [List.length_take]; omega
      refine .t rfl (.o ed (j77 _ ?_ ?_ ?_))
      ·rw [lA,hlen,List.length_drop]; omega
      ·rw [lA,hlen]; omega
      ·rw [(qIt d.f5 d.f6 m.f5 hsort).1 ⟨hp,hq⟩,List.take_append_of_le_length (by omega),List.take_of_length_le (by omega),List.drop_append_of_le_length (by omega),List.drop_of_length_le (by omega),List.nil_append]
     | false=>exact .n nF (j77 _ hl hle ((qIt d.f5 d.f6 m.f5 hsort).2 (hf' rfl)).symm)
    ·rw [if_neg ha]
     exact .n ha (.c (err2 _ _ _ (by decide)))
  refine .s (qAs.j15_s · _ _ _) (.n nF (.e (temp h d.f5) ?_))
  rcases foundTemp h d.f5 with ⟨hp,q1,q2,q3⟩ | ⟨q2,q3⟩
  ·have hto:qKZ m d.f5=m.f5[posG (fun n:qE=>n.f0) d.f5 m.f5].f1:=by unfold qKZ; rw [q3]
   refine .t q2 (.t ?_ ?_)
   ·show 0<=((posG (fun n:qE=>n.f0) d.f5 m.f5:Nat):Int)/\((posG (fun n:qE=>n.f0) d.f5 m.f5:Nat):Int)<_
    omega
   ·have q:nth qE.z m.f5 (qKa (fun n:qE=>n.f0) d.f5 m.f5).1=_:=nth_get qE.z m.f5 _ hp
    rw [q]
    have htl:=qDw h _ (gM hp)
    refine .e (equal _ _ (by omega)) (rest true (fun _=>⟨hp,q1⟩) (fun e=>Bool.noConfusion e) _ ?_)
    rw [decide_eq_true_eq,hto]
  ·have hto:qKZ m d.f5=[]:=by unfold qKZ; rw [q3]
   refine .n (by rw [q2]; decide) ?_
   by_cases h0:(d.f6.length:Int)=0
   ·exact .t h0 (rest false (fun e=>Bool.noConfusion e) (fun _=>q3) true ⟨fun _=>by rw [hto]; exact (List.eq_nil_of_length_eq_zero (by omega)).symm,fun _=>rfl⟩)
   ·exact .n h0 (rest false (fun e=>Bool.noConfusion e) (fun _=>q3) false ⟨fun e=>Bool.noConfusion e,fun e=>absurd (by rw [← e,hto]; rfl) h0⟩)
 ·rw [if_neg (fun e=>hg ⟨e.1,by omega⟩)]
  exact .n (fun e=>hg (oT e)) no
theorem cleaned{m:qD}(h:May m)(d:qF):qCK.f m d=some (cleanL m d):=by
 have hf:=h.1
 have h3:=h.1.2.2.2.1
 have hlen:m.f6.length=m.f3:=h.2.2.1
 unfold qCK.f cleanL
 rw [min' d.f5 0 _,Option.bind_some,qCk (by omega) (by omega)]
 by_cases hg:0<=d.f5/\d.f5<m.f3
 ·rw [if_pos hg,if_pos (dT (by omega)),if_pos (by omega)]
  by_cases hs:(nth qC.z m.f6 d.f5).f0=d.f4
  ·rw [if_pos hs,if_neg (show ¬ (nth qC.z m.f6 d.f5).f0≠d.f4 from fun e=>e hs)]
   by_cases hp:(nth qC.z m.f6 d.f5).f1=[]
   ·rw [if_pos hp,if_pos (show (((nth qC.z m.f6 d.f5).f1).length:Int)=0 by rw [hp]; rfl)]
   ·rw [if_neg hp,if_neg (show ¬ (((nth qC.z m.f6 d.f5).f1).length:Int)=0 from fun e=>hp (List.eq_nil_of_length_eq_zero (by omega)))]
    rfl
  ·rw [if_neg hs,if_pos (show (nth qC.z m.f6 d.f5).f0≠d.f4 from hs)]
 ·rw [if_neg hg,if_neg (fun e=>hg ⟨(oT e).1,by have:=(oT e).2; omega⟩)]
theorem heldT(m:qD)(h:May m)(d:qF):Ev (fun k=>qv.f k m.f5 d) (m.f5.any fun t=>decide (d.f1 ∈ t.f1)):=by
 obtain ⟨x,hx,hm⟩:=anyG qE.z m.f5 (fun t=>decide (d.f1 ∈ t.f1)) (fun k t=>qCD.f k t d) (fun t ht=>by
  unfold qCD.f
  exact .b (Topo.contains t.f1 d.f1 (by have:=qDw h t ht; omega)) (.c _)) (by have:=qDb h; omega) (fun k x=>qc.l5 k m.f5 d x) (fun k x=>qc.l5_s k m.f5 d x) m.f5.length 0 (by omega)
 unfold qv.f qc.f
 exact .b hx (.cv hm)
theorem acted{m:qD}(h:May m){b:Nat}(hb:b<=100000)(hP:Pasts b m)(id:Int):Ev (fun k=>qBs.f k m id) (m.f6.any fun t=>t.f1.any fun s=>decide (id ∈ s.f1)):=by
 have hin:∀ t ∈ m.f6,Ev (fun k=>qBk.f k t id) (t.f1.any fun s=>decide (id ∈ s.f1)):=by
  intro t ht
  obtain ⟨x,hx,hm⟩:=anyG qG.z t.f1 (fun s=>decide (id ∈ s.f1)) (fun k s=>qBf.f k s id) (fun s hs=>by
   unfold qBf.f
   exact .b (Topo.contains s.f1 id (by have:=qDR h t ht s hs; omega)) (.c _)) (by have:=hP t ht; omega) (fun k x=>qY.l5 k t.f1 id x) (fun k x=>qY.l5_s k t.f1 id x) t.f1.length 0 (by omega)
  unfold qBk.f qx.f qY.f
  exact .b (.b hx (.cv hm)) (.c _)
 obtain ⟨x,hx,hm⟩:=anyG qC.z m.f6 (fun t=>t.f1.any fun s=>decide (id ∈ s.f1)) (fun k t=>qBk.f k t id) hin (by have:=qDh h; omega) (fun k x=>qZ.l5 k m.f6 id x) (fun k x=>qZ.l5_s k m.f6 id x) m.f6.length 0 (by omega)
 unfold qBs.f qy.f qZ.f
 exact .b (.b hx (.cv hm)) (.c _)
theorem node{m:qD}(h:May m){b:Nat}(hb:b<=100000)(hP:Pasts b m)(d:qF)(hd:2<=d.f0/\d.f0<=7)(hp:posG (fun n:qA=>n.f0) d.f1 m.f4<m.f4.length)(hq:m.f4[posG (fun n:qA=>n.f0) d.f1 m.f4].f0=d.f1):Ht (fun k=>qAq.f k m ((posG (fun n:qA=>n.f0) d.f1 m.f4:Nat):Int) d) (fun R=>Same2 R (nodeL m m.f4[posG (fun n:qA=>n.f0) d.f1 m.f4] d)):=by
 have hn:=h.1.2.2.2.2
 have hl:m.f4.length<=12:=hn.1
 obtain ⟨p,hpe⟩:∃ p,posG (fun n:qA=>n.f0) d.f1 m.f4=p:=⟨_,rfl⟩
 have hput:∀ n:qA,n.f0=d.f1->putN n m.f4=m.f4.set p n:=fun n e=>by
  have:=(qIr n m.f4 hn.up).1
  rw [e,hpe]at this
  simp only [hpe]at hp hq
  exact this ⟨hp,hq⟩
 have hdrop:=qIs d.f1 m.f4 hn.up ⟨hp,hq⟩
 simp only [hpe]at hp hq hdrop ⊢
 have same:∀(b:Bool)(l:List qA),l=putN (if b then m.f4[p] else m.f4[p]) m.f4->True:=fun _ _ _=>trivial
 unfold qAq.f nodeL
 rw [nth_get _ _ _ hp,tN]
 refine .t (by omega) ?_
 by_cases h2:d.f0=2
 ·rw [if_pos h2]
  refine .t h2 (.o (min' d.f4 0 65536) ?_)
  by_cases hw:0<=d.f4/\d.f4<=65536
  ·rw [if_pos hw]
   refine .t (dT hw) ?_
   by_cases he:m.f4[p].f3=d.f4
   ·simp only [if_pos he]
    exact .c (err2 m m 7 (by decide))
   ·simp only [if_neg he]
    refine .c ?_
    rw [hput ⟨m.f4[p].f0,m.f4[p].f1,m.f4[p].f2,d.f4,m.f4[p].f4,m.f4[p].f5⟩ hq]
    exact Same2.refl _
  ·rw [if_neg hw]
   exact .n (fun e=>hw (oT e)) (.c (err2 m m 1 (by decide)))
 ·rw [if_neg h2]
  refine .n h2 ?_
  have e3:(d.f0 == 3)=decide (d.f0=3):=by rw [Bool.eq_iff_iff,beq_iff_eq,decide_eq_true_eq]
  have e4:(d.f0 == 4)=decide (d.f0=4):=by rw [Bool.eq_iff_iff,beq_iff_eq,decide_eq_true_eq]
  have e6:(d.f0 == 6)=decide (d.f0=6):=by rw [Bool.eq_iff_iff,beq_iff_eq,decide_eq_true_eq]
  have j103:∀ y:Bool,y=decide (m.f4[p].f4=true\/(m.f4[p].f5=true/\m.f4[p].f3>0)\/held m d.f1=true)->Ht (fun k=>qAq.j103 k m (p:Int) y) (fun R=>Same2 R (if m.f4[p].f4=true\/(m.f4[p].f5=true/\m.f4[p].f3>0)\/held m d.f1=true then (m,11) else (withN m (dropN d.f1 m.f4),0))):=by
   intro y hy
   refine .s (qAq.j103_s · _ _ _) ?_
   by_cases hc:m.f4[p].f4=true\/(m.f4[p].f5=true/\m.f4[p].f3>0)\/held m d.f1=true
   ·rw [if_pos hc]
    exact .t (hy.trans (dT hc)) (.c (err2 m m 11 (by decide)))
   ·rw [if_neg hc]
    have ed:qAj.f m.f4 (p:Int) (w64 ((p:Int)+1))=some (dropN d.f1 m.f4):=by
     unfold qAj.f
     rw [w64n _ (by omega),if_pos (by omega),tN,tN,hdrop]
    exact .n (by rw [hy,dF hc]; decide) (.o ed (.c (Same2.refl _)))
  have j64:∀ y:Bool,y=decide (d.f0=5\/d.f0=6)->¬ (d.f0=3\/d.f0=4)->Ht (fun k=>qAq.j64 k m (p:Int) d y) (fun R=>Same2 R (if d.f0=5\/d.f0=6 then (if m.f4[p].f5=decide (d.f0=6) then (m,7) else (withN m (putN ⟨m.f4[p].f0,m.f4[p].f1,m.f4[p].f2,m.f4[p].f3,m.f4[p].f4,decide (d.f0=6)⟩ m.f4),0)) else if m.f4[p].f4=true\/(m.f4[p].f5=true/\m.f4[p].f3>0)\/held m d.f1=true then (m,11) else (withN m (dropN d.f1 m.f4),0))):=by
   intro y hy h34
   refine .s (qAq.j64_s · _ _ _ _) ?_
   rw [nth_get _ _ _ hp,tN,e6]
   by_cases h56:d.f0=5\/d.f0=6
   ·rw [if_pos h56]
    refine .t (hy.trans (dT h56)) ?_
    by_cases he:m.f4[p].f5=decide (d.f0=6)
    ·simp only [if_pos he]
     exact .c (err2 m m 7 (by decide))
    ·simp only [if_neg he]
     refine .c ?_
     rw [hput ⟨m.f4[p].f0,m.f4[p].f1,m.f4[p].f2,m.f4[p].f3,m.f4[p].f4,decide (d.f0=6)⟩ hq]
     exact Same2.refl _
   ·rw [if_neg h56]
    refine .n (by rw [hy,dF h56]; decide) (.e (heldT m h d) ?_)
    by_cases c4:m.f4[p].f4=true
    ·exact .t c4 (j103 true (dT (.inl c4)).symm)
    ·refine .n c4 ?_
     have hrest:∀ y:Bool,(¬ (m.f4[p].f5=true/\m.f4[p].f3>0))->y=held m d.f1->y=decide (m.f4[p].f4=true\/(m.f4[p].f5=true/\m.f4[p].f3>0)\/held m d.f1=true):=by
      intro y h1 h2
      rw [h2,Bool.eq_iff_iff,decide_eq_true_eq]
      exact ⟨fun q=>.inr (.inr q),fun q=>(q.resolve_left c4).resolve_left h1⟩
     have hlast:(¬ (m.f4[p].f5=true/\m.f4[p].f3>0))->Ht (fun k=>if m.f5.any (fun t=>decide (d.f1 ∈ t.f1))=true then qAq.j103 k m (p:Int) true else (qBs.f k m d.f1).bind fun t96=>qAq.j103 k m (p:Int) t96) (fun R=>Same2 R (if m.f4[p].f4=true\/(m.f4[p].f5=true/\m.f4[p].f3>0)\/held m d.f1=true then (m,11) else (withN m (dropN d.f1 m.f4),0))):=by
      intro h1
      by_cases ht:m.f5.any (fun t=>decide (d.f1 ∈ t.f1))=true
      ·refine .t ht (j103 true (hrest true h1 ?_))
       unfold held
       rw [ht]
       rfl
      ·refine .n ht (.e (acted h hb hP d.f1) (j103 _ (hrest _ h1 ?_)))
       unfold held
       rw [eq_false_of_ne_true ht]
       rfl
     by_cases c5:m.f4[p].f5=true
     ·refine .t c5 ?_
      by_cases c3:m.f4[p].f3>0
      ·exact .t c3 (j103 true (dT (.inr (.inl ⟨c5,c3⟩))).symm)
      ·exact .n c3 (hlast fun e=>c3 e.2)
     ·exact .n c5 (hlast fun e=>c5 e.1)
  have j45:∀ y:Bool,y=decide (d.f0=3\/d.f0=4)->Ht (fun k=>qAq.j45 k m (p:Int) d y) (fun R=>Same2 R (if d.f0=3\/d.f0=4 then (if m.f4[p].f4=decide (d.f0=3) then (m,7) else (withN m (putN ⟨m.f4[p].f0,m.f4[p].f1,m.f4[p].f2,m.f4[p].f3,decide (d.f0=3),m.f4[p].f5⟩ m.f4),0)) else if d.f0=5\/d.f0=6 then (if m.f4[p].f5=decide (d.f0=6) then (m,7) else (withN m (putN ⟨m.f4[p].f0,m.f4[p].f1,m.f4[p].f2,m.f4[p].f3,m.f4[p].f4,decide (d.f0=6)⟩ m.f4),0)) else if m.f4[p].f4=true\/(m.f4[p].f5=true/\m.f4[p].f3>0)\/held m d.f1=true then (m,11) else (withN m (dropN d.f1 m.f4),0))):=by
   intro y hy
   refine .s (qAq.j45_s · _ _ _ _) ?_
   rw [nth_get _ _ _ hp,tN,e3]
   by_cases h34:d.f0=3\/d.f0=4
   ·rw [if_pos h34]
    refine .t (hy.trans (dT h34)) ?_
    by_cases he:m.f4[p].f4=decide (d.f0=3)
    ·simp only [if_pos he]
     exact .c (err2 m m 7 (by decide))
    ·simp only [if_neg he]
     refine .c ?_
     rw [hput ⟨m.f4[p].f0,m.f4[p].f1,m.f4[p].f2,m.f4[p].f3,decide (d.f0=3),m.f4[p].f5⟩ hq]
     exact Same2.refl _
   ·rw [if_neg h34]
    refine .n (by rw [hy,dF h34]; decide) ?_
    by_cases h5:d.f0=5
    ·exact .t h5 (j64 true (dT (.inl h5)).symm h34)
    ·refine .n h5 (j64 _ ?_ h34)
     rw [e6,decide_eq_decide]
     exact ⟨.inr,fun q=>q.resolve_left h5⟩
  by_cases h3:d.f0=3
  ·exact .t h3 (j45 true (dT (.inl h3)).symm)
  ·refine .n h3 (j45 _ ?_)
   rw [e4,decide_eq_decide]
   exact ⟨.inr,fun q=>q.resolve_left h3⟩
theorem turned{m:qD}(h:May m){b:Nat}(hb:b<=100000)(hP:Pasts b m)(d:qF)(hd:1<=d.f0/\d.f0<=10):Ht (fun k=>qBv.f k m d) (fun R=>Same2 R (qKX m d)):=by
 unfold qBv.f qKX
 by_cases h1:d.f0=1
 ·rw [if_pos h1]
  exact .t h1 (.b (add h d) fun a q=>.c q)
 ·rw [if_neg h1]
  refine .n h1 ?_
  by_cases h8:d.f0=8
  ·rw [if_pos h8]
   exact .t h8 (.b (pin h d) fun a q=>.c q)
  ·rw [if_neg h8]
   refine .n h8 ?_
   by_cases h9:d.f0=9
   ·simp only [if_pos h9]
    exact .c (Same2.refl _)
   ·simp only [if_neg h9]
    by_cases h10:d.f0=10
    ·rw [if_pos h10]
     exact .t h10 (.o (cleaned h d) (.c (Same2.refl _)))
    ·rw [if_neg h10]
     refine .n h10 (.e (at_ h d.f1) ?_)
     rcases foundAt h d.f1 with ⟨hp,q1,q2,q3⟩ | ⟨q2,q3⟩
     ·rw [q3]
      exact .t q2 (.b (node h hb hP d (by omega) hp q1) fun a q=>.c q)
     ·rw [q3]
      exact .n (by rw [q2]; decide) (.c (err2 m m 5 (by decide)))
theorem qDc{m:qD}{b:Nat}(hP:Pasts b m)(d:qF):Pasts b (qKX m d).1:=by
 have key:∀ x:qD,x.f6=m.f6->Pasts b x:=fun x e t ht=>hP t (e ▸ ht)
 unfold qKX
 split
 ·unfold addL
  split
  ·exact hP
  ·split
   ·exact hP
   ·split
    ·exact key _ rfl
    ·exact hP
 ·split
  ·unfold pinL
   split
   ·split
    ·exact hP
    ·split
     ·exact key _ rfl
     ·exact hP
   ·exact hP
  ·split
   ·exact hP
   ·split
    ·unfold cleanL
     split
     ·split
      ·exact hP
      ·split
       ·exact hP
       ·intro t ht
        rcases List.mem_or_eq_of_mem_set ht with ht | rfl
        ·exact hP t ht
        ·exact Nat.zero_le _
     ·exact hP
    ·split
     ·unfold nodeL
      repeat' split
      all_goals first | exact hP | exact key _ rfl
     ·exact hP
theorem qDS{m:qD}{b:Nat}(hP:Pasts b m)(d:qF):Pasts (b+1) (qKb m d).1:=by
 have hw:Pasts (b+1) m:=fun t ht=>Nat.le_succ_of_le (hP t ht)
 unfold qKb
 split
 ·split
  ·exact hw
  ·split
   ·intro t ht
    have ht:t ∈ qKY m (qKX m d).1:=ht
    unfold qKY at ht
    obtain ⟨i,hi,rfl⟩:=List.mem_mapIdx.1 ht
    have hT:=qDc hP d _ (gM hi)
    unfold followT
    split
    ·omega
    ·show (if m.f2<=((actL m i).length:Int) then _ else _:List qG).length<=_
     split
     ·rw [lA]
      have:=List.length_filter_le (fun s:qG => !decide (s.f1=rising (actL m i))) (qKX m d).1.f6[i].f1
      show _+1<=_
      omega
     ·omega
   ·exact hw
 ·exact hw
def noMap:qD:=⟨0,0,0,0,[],[],[]⟩
theorem apply(m:qD)(hm:Small m)(d:qF){b:Nat}(hb:b<=100000)(hP:Pasts b m):Ev (fun k=>qAz.f k m d) (if May m then qKb m d else (noMap,1)):=by
 unfold qAz.f
 refine .b (check m hm) ?_
 by_cases h:May m
 ·rw [if_pos h,dT h]
  have ho:=own (h.sized hb hP)
  have hf0:=h.1.1
  have j21:∀ y:Bool,(y=true↔¬ ((1<=d.f0/\d.f0<=10)/\bareD d))->Ev (fun k=>qAz.j21 k m d y) (qKb m d):=by
   intro y hy
   refine .s (qAz.j21_s · _ _ _) ?_
   unfold qKb
   by_cases hc:(1<=d.f0/\d.f0<=10)/\bareD d
   ·rw [if_pos hc]
    refine .n (fun e=>hy.1 e hc) ?_
    by_cases he:m.f0=2147483647
    ·rw [if_pos he]
     exact .t he (.b ho (.c _))
    ·rw [if_neg he]
     obtain ⟨R,hR,hs⟩:=turned h hb hP d hc.1
     refine .n he (.b ho (.b hR ?_))
     by_cases h0:(qKX m d).2=0
     ·rw [if_pos h0]
      refine .t (hs.1.trans h0) ?_
      rw [hs.2 h0]
      have hT:=qDn (m:=m) (d:=d)
      refine .b (followed h (qEE h h0) (by omega) hb (qDc hP d)) (.cv ?_)
      rw [hT.1,hT.2.1,hT.2.2.1,hT.2.2.2,qCk (by omega) (by omega)]
     ·rw [if_neg h0]
      exact .n (fun e=>h0 (hs.1.symm.trans e)) (.b ho (.cv (by rw [hs.1])))
   ·rw [if_neg hc]
    exact .t (hy.2 hc) (.b ho (.c _))
  refine .t rfl ?_
  by_cases c1:d.f0<1
  ·exact .t c1 (j21 true ⟨fun _ q=>by omega,fun _=>rfl⟩)
  ·refine .n c1 ?_
   by_cases c2:d.f0>=11
   ·exact .t c2 (j21 true ⟨fun _ q=>by omega,fun _=>rfl⟩)
   ·refine .n c2 (.b0 (bare d) (j21 _ ?_))
    by_cases hb:bareD d
    ·rw [dT hb]
     exact ⟨fun e=>Bool.noConfusion e,fun q=>absurd ⟨⟨by omega,by omega⟩,hb⟩ q⟩
    ·rw [dF hb]
     exact ⟨fun _ q=>hb q.2,fun _=>rfl⟩
 ·rw [if_neg h,dF h]
  exact .n (by decide) (.c _)
def bareOf(d:qF):qF :=
 if d.f0=1 then ⟨d.f0,d.f1,d.f2,d.f3,d.f4,0,[]⟩ else if d.f0=2 then ⟨d.f0,d.f1,0,0,d.f4,0,[]⟩ else if d.f0=8 then ⟨d.f0,0,0,0,0,d.f5,d.f6⟩ else if d.f0=9 then ⟨d.f0,0,0,0,0,0,[]⟩ else if d.f0=10 then ⟨d.f0,0,0,0,d.f4,d.f5,[]⟩ else ⟨d.f0,d.f1,0,0,0,0,[]⟩
theorem rbare(d:qF):qBU.f d=some (bareOf d):=by
 unfold qBU.f bareOf
 repeat' split
 all_goals rfl
theorem qHR(a b:qF):a=b↔(a.f0=b.f0/\a.f1=b.f1/\a.f2=b.f2/\a.f3=b.f3/\a.f4=b.f4/\a.f5=b.f5/\a.f6=b.f6):=by
 cases a; cases b
 simp only [qF.mk.injEq]
theorem qFN(d:qF):d=bareOf d↔bareD d:=by
 rw [qHR]
 unfold bareOf bareD
 by_cases h1:d.f0=1
 ·simp only [if_pos h1]; simp
 ·simp only [if_neg h1]
  by_cases h2:d.f0=2
  ·simp only [if_pos h2]; simp
  ·simp only [if_neg h2]
   by_cases h8:d.f0=8
   ·rw [if_pos h8,if_neg (show ¬ d.f0=10 by omega),if_pos h8]; simp
   ·rw [if_neg h8]
    by_cases h10:d.f0=10
    ·rw [if_neg (show ¬ d.f0=9 by omega),if_pos h10,if_pos h10]; simp
    ·rw [if_neg h10,if_neg h10,if_neg h8]
     by_cases h9:d.f0=9
     ·rw [if_pos h9]
      simp only [h9,true_and,forall_const]
      constructor
      ·rintro ⟨a,b,c,e,f,g⟩
       exact ⟨⟨b,c,e,f,g⟩,a⟩
      ·rintro ⟨⟨b,c,e,f,g⟩,a⟩
       exact ⟨a,b,c,e,f,g⟩
     ·rw [if_neg h9]
      simp [h9]
theorem rdeltas(a b:qF)(ha:a.f6.length<4611686018427387904):Ev (fun k=>qBM.f k a b) (decide (a=b)):=by
 have no:¬ a=b->∀ f:Nat->Option Bool,Ev f false->Ev f (decide (a=b)):=fun h f hf=>hf.v (dF h).symm
 unfold qBM.f
 refine .i (fun c0=>.i (fun c1=>.i (fun c2=>.i (fun c3=>.i (fun c4=>.i (fun c5=>.b (ints _ _ ha) (.cv ?_)) fun c=>.cv ?_) fun c=>.cv ?_) fun c=>.cv ?_) fun c=>.cv ?_) fun c=>.cv ?_) fun c=>.cv ?_
 ·rw [decide_eq_decide,qHR]
  exact ⟨fun e=>⟨c0,c1,c2,c3,c4,c5,e⟩,fun e=>e.2.2.2.2.2.2⟩
 all_goals exact (dF fun e=>c (by rw [e])).symm
theorem qIu{a b:List Int}(ha:a.Pairwise fun x y=>x<=y)(hb:b.Pairwise fun x y=>x<=y)(h:a.Perm b):a=b:=List.Perm.eq_of_pairwise (le:=fun x y:Int=>x<=y) (fun x y _ _ h1 h2=>Int.le_antisymm h1 h2) ha hb h
theorem qIv(xs:List Int):(rising xs).Pairwise (fun a b=>a<=b):=(qCx swI xs fun _ _=>trivial).imp fun h=>by
 have:=of_decide_eq_false h
 omega
theorem rrising(l:List Int)(hl:l.length<=1000000):Ev (fun k=>qf.f k l) (rising l):=by
 have go:∀(d i:Nat)(q:List Int),i+d=l.length->q.length=i->q.Pairwise (fun a b=>a<=b)->q.Perm (l.take i)->Ev (fun k=>qf.l15 k l q (i:Int)) (rising l):=by
  intro d
  induction d with
  | zero =>
   intro i q hi hq hs hp
   refine .s (qf.l15_s · _ _ _) (.n (by omega) (.cv ?_))
   rw [List.take_of_length_le (by omega)]at hp
   exact qIu hs (qIv l) (hp.trans (qCu _ l).symm)
  | succ d ih =>
   intro i q hi hq hs hp
   have h1:i<l.length:=by omega
   have j45:∀(n:Nat),n<=q.length->(∀ j (hj:j<q.length),n<=j->l[i] < q[j])->(∀ j (hj:j<q.length),j<n->q[j]<=l[i])->Ev (fun k=>qf.j45 k l q (i:Int) (n:Int) false) (rising l):=by
    intro n hn ha hb
    refine .s (qf.j45_s · _ _ _ _ _) (.n nF (.t (by omega) (.t (by omega) ?_)))
    have hc1:cutl q 0 (n:Int)=q.take n:=by unfold cutl; rw [tN]; rfl
    have hc2:cutl q (n:Int) (q.length:Int)=q.drop n:=by unfold cutl; rw [tN,tN,List.take_of_length_le (Nat.le_refl _)]
    have e1:(q.take n).length=n:=by rw [List.length_take]; omega
    have e2:(q.drop n).length=q.length - n:=List.length_drop
    rw [hc1,hc2,nth_get _ _ _ h1,w64n i (by omega),List.nil_append]
    refine .t ?_ (.t ?_ (.t ?_ ?_))
    ·rw [e1]
     show (((0:Nat):Int)+(n:Int)) * 8<=140737488355328
     omega
    ·rw [e1]
     omega
    ·rw [lA,e1,e2]
     show (((n+1:Nat):Int)+((q.length - n:Nat):Int)) * 8<=140737488355328
     omega
    refine ih (i+1) _ (by omega) ?_ ?_ ?_
    ·rw [lA,lA,e1,e2]
     show n+1+_=_
     omega
    ·have hs':=hs
     rw [← List.take_append_drop n q]at hs'
     obtain ⟨p1,p2,p3⟩:=List.pairwise_append.1 hs'
     have mt:∀ x ∈ q.take n,x<=l[i]:=fun x hx=>by
      obtain ⟨j,hj,rfl⟩:=List.getElem_of_mem hx
      rw [List.getElem_take]
      exact hb j (by omega) (by omega)
     have md:∀ x ∈ q.drop n,l[i] < x:=fun x hx=>by
      obtain ⟨j,hj,rfl⟩:=List.getElem_of_mem hx
      rw [List.getElem_drop]
      exact ha (n+j) (by rw [e2]at hj; omega) (by omega)
     refine List.pairwise_append.2 ⟨List.pairwise_append.2 ⟨p1,List.pairwise_singleton _ _,fun x hx y hy=>?_⟩,p2,fun x hx y hy=>?_⟩
     ·rw [List.mem_singleton.1 hy]
      exact mt x hx
     ·rcases List.mem_append.1 hx with hx | hx
      ·exact p3 x hx y hy
      ·rw [List.mem_singleton.1 hx]
       exact Int.le_of_lt (md y hy)
    ·rw [← List.take_append_getElem h1,List.append_assoc]
     have:(q.take n++([l[i]]++q.drop n)).Perm (q++[l[i]]):=by
      refine ((List.perm_append_comm).append_left _).trans ?_
      rw [← List.append_assoc,List.take_append_drop]
     exact this.trans (hp.append_right _)
   have l26:∀(n:Nat),n<=q.length->(∀ j (hj:j<q.length),n<=j->l[i] < q[j])->Ev (fun k=>qf.l26 k l q (i:Int) (n:Int)) (rising l):=by
    intro n
    induction n with
    | zero =>
     intro hn ha
     exact .s (qf.l26_s · _ _ _ _) (.n (by omega) (j45 0 hn ha fun j _ h=>absurd h (by omega)))
    | succ n ihn =>
     intro hn ha
     have hq1:n<q.length:=by omega
     refine .s (qf.l26_s · _ _ _ _) (.t (by omega) ?_)
     rw [w64p (n+1) (by omega) (by omega),show n+1 - 1=n by omega]
     refine .t (by omega) (.t (by omega) ?_)
     rw [nth_get _ _ _ hq1,nth_get _ _ _ h1]
     by_cases hc:q[n] > l[i]
     ·rw [dT hc]
      refine .s (qf.j45_s · _ _ _ _ _) (.t rfl ?_)
      rw [w64p (n+1) (by omega) (by omega),show n+1 - 1=n by omega]
      refine ihn (by omega) fun j hj hnj=>?_
      rcases Nat.eq_or_lt_of_le hnj with rfl | h
      ·exact hc
      ·exact ha j hj h
     ·rw [dF hc]
      refine j45 (n+1) hn ha fun j hj hjn=>?_
      rcases Nat.eq_or_lt_of_le (Nat.le_of_lt_succ hjn) with rfl | h
      ·omega
      ·have:=List.pairwise_iff_getElem.1 hs j n hj hq1 h
       omega
   refine .s (qf.l15_s · _ _ _) (.t (by omega) ?_)
   exact l26 q.length (Nat.le_refl _) fun j hj h=>absurd hj (by omega)
 unfold qf.f
 exact go l.length 0 [] (Nat.zero_add _) rfl List.Pairwise.nil (List.Perm.refl _)
theorem rfollow(t:qC)(was now:List Int)(least epoch:Int)(hw:was.length<=1000)(ht:t.f1.length<=1000000)(hs:∀ s ∈ t.f1,s.f1.length<=1000):Ev (fun k=>qh.f k t was now least epoch) (followT t was now least epoch):=by
 have go:∀(d i:Nat)(acc:List qG),i+d=t.f1.length->acc.length<=i->¬ was=now ->
   Ev (fun k=>qh.l27 k t was least epoch acc (i:Int)) (⟨epoch,if least<=(was.length:Int) then (acc++(t.f1.drop i).filter fun s => !decide (s.f1=rising was))++[⟨t.f0,rising was⟩] else acc++t.f1.drop i⟩:qC):=by
  intro d
  induction d with
  | zero =>
   intro i acc hi ha hne
   rw [List.drop_eq_nil_of_le (by omega),List.filter_nil,List.append_nil]
   refine .s (qh.l27_s · _ _ _ _ _ _) (.n (by omega) ?_)
   by_cases hc:least<=(was.length:Int)
   ·rw [if_pos hc]
    exact .t hc (.b (rrising was (by omega)) (.t (by omega) (.s (qh.j106_s · _ _) (.c _))))
   ·rw [if_neg hc]
    exact .n hc (.s (qh.j106_s · _ _) (.c _))
  | succ d ih =>
   intro i acc hi ha hne
   have h1:i<t.f1.length:=by omega
   refine .s (qh.l27_s · _ _ _ _ _ _) (.t (by omega) ?_)
   have keep:∀ v,Ev (fun k=>qh.l27 k t was least epoch (acc++[t.f1[i]]) ((i+1:Nat):Int)) v->Ev (fun k=>qh.j58 k t was least epoch acc (i:Int) true) v:=by
    intro v hv
    refine .s (qh.j58_s · _ _ _ _ _ _ _) (.t rfl (.t (by omega) (.t (by omega) ?_)))
    rw [nth_get _ _ _ h1,w64n i (by omega)]
    exact hv
   have hnx:=ih (i+1) (acc++[t.f1[i]]) (by omega) (by rw [lA]; show acc.length+1<=_; omega) hne
   by_cases hc:least<=(was.length:Int)
   ·rw [if_pos hc,List.drop_eq_getElem_cons h1]at *
    refine .n (by omega) (.t (by omega) (.b (rrising was (by omega)) ?_))
    rw [nth_get _ _ _ h1]
    refine .b (ints _ _ (by have:=hs _ (gM h1); omega)) ?_
    by_cases he:t.f1[i].f1=rising was
    ·rw [dT he,List.filter_cons_of_neg (by simp [he])]
     refine .s (qh.j58_s · _ _ _ _ _ _ _) (.n nF ?_)
     rw [w64n i (by omega)]
     have:=ih (i+1) acc (by omega) (by omega) hne
     rw [if_pos hc]at this
     exact this
    ·rw [dF he,List.filter_cons_of_pos (by simp [he])]
     refine keep _ (hnx.v ?_)
     rw [List.append_assoc acc]
     rfl
   ·rw [if_neg hc]at *
    refine .t (by omega) (keep _ (hnx.v ?_))
    rw [List.drop_eq_getElem_cons h1,List.append_assoc]
    rfl
 unfold qh.f followT
 refine .b (ints _ _ (by omega)) ?_
 by_cases he:was=now
 ·rw [if_pos he]
  exact .t (dT he) (.c _)
 ·rw [if_neg he]
  refine .n (fun e=>he (oT e)) ((go t.f1.length 0 [] (Nat.zero_add _) (Nat.le_refl _) he).v ?_)
  rw [List.drop_zero,List.nil_append,List.nil_append]
theorem qGJ{id:Int}{r:List qA}(h:∀ y ∈ r,y.f0≠id):dropN id r=r:=List.filter_eq_self.2 fun y hy=>by simpa using h y hy
theorem rput(l:List qA)(n:qA)(hl:l.length<=1000)(hp:l.Pairwise fun x y=>x.f0<y.f0)(drop:Bool):Ev (fun k=>qk.f k l n drop) (if drop=true then dropN n.f0 l else putN n l):=by
 have j56:∀(i:Nat)(hi:i<l.length)(acc:List qA)(y:Bool)(v:List qA),acc.length<=3 * i+1 ->
   (l[i].f0=n.f0->Ev (fun k=>qk.l18 k l n acc y ((i+1:Nat):Int)) v)->(l[i].f0≠n.f0->Ev (fun k=>qk.l18 k l n (acc++[l[i]]) y ((i+1:Nat):Int)) v)->Ev (fun k=>qk.j56 k l n (i:Int) acc y) v:=by
  intro i hi acc y v ha h1 h2
  refine .s (qk.j56_s · _ _ _ _ _) (.t (by omega) ?_)
  rw [nth_get _ _ _ hi,w64n i (by omega)]
  exact .i (fun c=>h1 c) fun c=>.t (by omega) (h2 c)
 have go:∀(d i:Nat)(acc:List qA)(y:Bool),i+d=l.length->acc.length<=3 * i->Ev (fun k=>qk.l18 k l n acc y (i:Int)) (acc++if y=true then dropN n.f0 (l.drop i) else putN n (l.drop i)):=by
  intro d
  induction d with
  | zero =>
   intro i acc y hi ha
   rw [List.drop_eq_nil_of_le (by omega)]
   refine .s (qk.l18_s · _ _ _ _ _) (.n (by omega) ?_)
   cases y with
   | true=>exact .t rfl (.cv (List.append_nil _).symm)
   | false=>exact .n nF (.t (by omega) (.c _))
  | succ d ih =>
   intro i acc y hi ha
   have h1:i<l.length:=by omega
   have hd:=List.drop_eq_getElem_cons h1
   have hup:∀ x ∈ l.drop (i+1),l[i].f0<x.f0:=fun x hx=>by
    obtain ⟨j,hj,rfl⟩:=List.getElem_of_mem hx
    rw [List.getElem_drop]
    exact List.pairwise_iff_getElem.1 hp i (i+1+j) h1 (by rw [List.length_drop]at hj; omega) (by omega)
   refine .s (qk.l18_s · _ _ _ _ _) (.t (by omega) ?_)
   cases y with
   | true =>
    refine .t rfl (.s (qk.j36_s · _ _ _ _ _ _) (.n nF (j56 i h1 acc true _ (by omega) (fun c=>(ih (i+1) acc true (by omega) (by omega)).v ?_) fun c=>(ih (i+1) (acc++[l[i]]) true (by omega) (by rw [lA]; show acc.length+1<=_; omega)).v ?_)))
    ·rw [if_pos rfl,if_pos rfl,hd]
     unfold dropN
     rw [List.filter_cons_of_neg (by simp [c])]
    ·rw [if_pos rfl,if_pos rfl,hd]
     unfold dropN
     rw [List.filter_cons_of_pos (by simp [c]),List.append_assoc]
     rfl
   | false =>
    refine .n nF (.t (by omega) ?_)
    rw [nth_get _ _ _ h1]
    by_cases hc:l[i].f0>=n.f0
    ·rw [dT hc]
     refine .s (qk.j36_s · _ _ _ _ _ _) (.t rfl (.t (by omega) (j56 i h1 (acc++[n]) true _ (by rw [lA]; show acc.length+1<=_; omega) (fun c=>(ih (i+1) (acc++[n]) true (by omega) (by rw [lA]; show acc.length+1<=_; omega)).v ?_) fun c=>(ih (i+1) (acc++[n]++[l[i]]) true (by omega) (by rw [lA,lA]; show acc.length+1+1<=_; omega)).v ?_)))
     ·rw [if_pos rfl,if_neg nF,hd,putN,if_neg (by omega),if_pos c,qGJ (fun y hy=>by have:=hup y hy; omega),List.append_assoc]
      rfl
     ·rw [if_pos rfl,if_neg nF,hd,putN,if_neg (by omega),if_neg c,qGJ (fun y hy=>by have:=hup y hy; omega),List.append_assoc,List.append_assoc]
      rfl
    ·rw [dF hc]
     refine .s (qk.j36_s · _ _ _ _ _ _) (.n nF (j56 i h1 acc false _ (by omega) (fun c=>absurd c (by omega)) fun c=>(ih (i+1) (acc++[l[i]]) false (by omega) (by rw [lA]; show acc.length+1<=_; omega)).v ?_))
     rw [if_neg nF,if_neg nF,hd,putN,if_pos (by omega),List.append_assoc]
     rfl
 unfold qk.f
 refine (go l.length 0 [] drop (Nat.zero_add _) (Nat.le_refl _)).v ?_
 rw [List.drop_zero,List.nil_append]
theorem qGK{m:qD}(h:May m){t:qE}(ht:t ∈ m.f5):qKZ m t.f0=t.f1:=by
 have hs:=((qCq m _ _).1 h.2.1).2.1
 unfold qKZ
 cases hf:m.f5.find? (fun c=>decide (c.f0=t.f0)) with
 | none =>
  have:=List.find?_eq_none.1 hf t ht
  simp at this
 | some c =>
  have h1:=List.mem_of_find?_eq_some hf
  have h2:=oT (List.find?_some (p:=fun c:qE=>decide (c.f0=t.f0)) hf)
  obtain ⟨i,hi,rfl⟩:=List.getElem_of_mem h1
  obtain ⟨j,hj,rfl⟩:=List.getElem_of_mem ht
  rw [List.pairwise_iff_getElem]at hs
  rcases Nat.lt_trichotomy i j with q | q | q
  ·have:=hs i j hi hj q
   omega
  ·subst q
   rfl
  ·have:=hs j i hj hi q
   omega
theorem qEP{m:qD}{g:Int}(hg:qKZ m g≠[]):(⟨g,qKZ m g⟩:qE) ∈ m.f5:=by
 unfold qKZ at hg ⊢
 cases hf:m.f5.find? (fun c=>decide (c.f0=g)) with
 | none=>rw [hf]at hg; exact absurd rfl hg
 | some c =>
  have h1:=List.mem_of_find?_eq_some hf
  have h2:=oT (List.find?_some (p:=fun c:qE=>decide (c.f0=g)) hf)
  subst h2
  exact h1
def pinG(m:qD)(d:qF)(g:Int):List Int:=if g=d.f5 then d.f6 else qKZ m g
def pinR(m:qD)(d:qF):Nat->Nat->List qE
 | _,0=>[]
 | g,n+1=>(if pinG m d g=[] then [] else [(⟨g,pinG m d g⟩:qE)])++pinR m d (g+1) n
theorem qHS(m:qD)(d:qF):∀(n g:Nat)(x:qE),x ∈ pinR m d g n↔((g:Int)<=x.f0/\x.f0<((g+n:Nat):Int))/\x.f1=pinG m d x.f0/\x.f1≠[]:=by
 intro n
 induction n with
 | zero=>exact fun g x=>⟨fun h=>(nomatch h),fun h=>absurd h.1 (by omega)⟩
 | succ n ih =>
  intro g x
  have e:x ∈ pinR m d g (n+1)↔x ∈ (if pinG m d g=[] then [] else [(⟨g,pinG m d g⟩:qE)])\/x ∈ pinR m d (g+1) n:=List.mem_append
  rw [e,ih (g+1) x]
  by_cases hx:x.f0=g
  ·by_cases hc:pinG m d g=[]
   ·rw [if_pos hc,hx]
    exact ⟨fun h=>(h.resolve_left fun h=>(nomatch h)).elim (fun a b=>absurd a (by omega)),fun h=>absurd (h.2.1.trans hc) h.2.2⟩
   ·rw [if_neg hc,List.mem_singleton]
    constructor
    ·rintro (rfl | h)
     ·exact ⟨⟨Int.le_refl _,by show (g:Int)<_; omega⟩,rfl,hc⟩
     ·exact absurd h.1 (by omega)
    ·intro h
     refine .inl ?_
     obtain ⟨a,b⟩:=x
     obtain rfl:a=g:=hx
     rw [show b=pinG m d g from h.2.1]
  ·have hn:x ∉ (if pinG m d g=[] then [] else [(⟨g,pinG m d g⟩:qE)]):=by
    split
    ·exact fun h=>(nomatch h)
    ·intro h
     rw [List.mem_singleton]at h
     exact hx (by rw [h])
   constructor
   ·rintro (h | h)
    ·exact absurd h hn
    ·exact ⟨by omega,h.2⟩
   ·intro h
    exact .inr ⟨by omega,h.2⟩
theorem qKO(m:qD)(d:qF):∀(n g:Nat),(pinR m d g n).Pairwise (fun x y=>x.f0<y.f0):=by
 intro n
 induction n with
 | zero=>exact fun g=>List.Pairwise.nil
 | succ n ih =>
  intro g
  unfold pinR
  refine List.pairwise_append.2 ⟨?_,ih (g+1),fun x hx y hy=>?_⟩
  ·split
   ·exact List.Pairwise.nil
   ·exact List.pairwise_singleton _ _
  ·have:=((qHS m d n (g+1) y).1 hy).1
   split at hx
   ·nomatch hx
   ·rw [List.mem_singleton.1 hx]
    show (g:Int)<_
    omega
theorem qHT(g:Int)(ns:List Int):∀(l:List qE),l.Pairwise (fun x y=>x.f0<y.f0)->∀(x:qE),x ∈ pinT g ns l↔(x=⟨g,ns⟩/\ns≠[])\/(x ∈ l/\x.f0≠g)
 | [],_,x=>by
  unfold pinT
  split
  ·rename_i h; simp [h]
  ·rename_i h; simp [h]
 | t :: r,hp,x=>by
  obtain ⟨h1,h2⟩:=List.pairwise_cons.1 hp
  unfold pinT
  by_cases hc:t.f0<g
  ·rw [if_pos hc,List.mem_cons,qHT g ns r h2 x,List.mem_cons]
   constructor
   ·rintro (rfl | h | h)
    ·exact .inr ⟨.inl rfl,by omega⟩
    ·exact .inl h
    ·exact .inr ⟨.inr h.1,h.2⟩
   ·rintro (h | ⟨rfl | h,h3⟩)
    ·exact .inr (.inl h)
    ·exact .inl rfl
    ·exact .inr (.inr ⟨h,h3⟩)
  ·rw [if_neg hc,List.mem_append]
   have e1:x ∈ (if ns=[] then [] else [(⟨g,ns⟩:qE)])↔(x=⟨g,ns⟩/\ns≠[]):=by
    split
    ·rename_i h; simp [h]
    ·rename_i h; simp [h]
   have e2:x ∈ (if t.f0=g then r else t :: r)↔(x ∈ t :: r/\x.f0≠g):=by
    by_cases hg:t.f0=g
    ·rw [if_pos hg,List.mem_cons]
     constructor
     ·intro h
      exact ⟨.inr h,by have:=h1 x h; omega⟩
     ·rintro ⟨rfl | h,h3⟩
      ·exact absurd hg h3
      ·exact h
    ·rw [if_neg hg]
     constructor
     ·intro h
      refine ⟨h,?_⟩
      rcases List.mem_cons.1 h with rfl | h
      ·exact hg
      ·have:=h1 x h; omega
     ·exact fun h=>h.1
   rw [e1,e2]
theorem qGL{a b:List qE}(ha:a.Pairwise fun x y=>x.f0<y.f0)(hb:b.Pairwise fun x y=>x.f0<y.f0)(h:∀ x,x ∈ a↔x ∈ b):a=b:=by
 have nd:∀ {l:List qE},l.Pairwise (fun x y=>x.f0<y.f0)->l.Nodup:=fun hl=>hl.imp fun h e=>by rw [e]at h; omega
 refine List.Perm.eq_of_pairwise (le:=fun x y:qE=>x.f0<=y.f0) (fun x y hx hy h1 h2=>?_) (ha.imp Int.le_of_lt) (hb.imp Int.le_of_lt) ((List.perm_ext_iff_of_nodup (nd ha) (nd hb)).2 h)
 have hy:=(h y).2 hy
 obtain ⟨i,hi,rfl⟩:=List.getElem_of_mem hx
 obtain ⟨j,hj,rfl⟩:=List.getElem_of_mem hy
 rw [List.pairwise_iff_getElem]at ha
 rcases Nat.lt_trichotomy i j with q | q | q
 ·have:=ha i j hi hj q
  omega
 ·subst q
  rfl
 ·have:=ha j i hj hi q
  omega
theorem qKP{m:qD}(h:May m)(d:qF)(hd:0<=d.f5/\d.f5<m.f3){n:Nat}(hn:(n:Int)=m.f3):pinR m d 0 n=pinT d.f5 d.f6 m.f5:=by
 have ht:=(qCq m _ _).1 h.2.1
 refine qGL (qKO m d n 0) (qIj _ _ _ ht.2.1) fun x=>?_
 rw [qHS,qHT _ _ _ ht.2.1]
 unfold pinG
 constructor
 ·rintro ⟨hx,h1,h2⟩
  by_cases hg:x.f0=d.f5
  ·rw [if_pos hg]at h1
   obtain ⟨a,b⟩:=x
   exact .inl ⟨by rw [show b=d.f6 from h1,show a=d.f5 from hg],fun e=>h2 (h1.trans e)⟩
  ·rw [if_neg hg]at h1
   refine .inr ⟨?_,hg⟩
   have:=qEP (m:=m) (g:=x.f0) fun e=>h2 (h1.trans e)
   rw [← h1]at this
   exact this
 ·rintro (⟨rfl,h2⟩ | ⟨hx,hg⟩)
  ·exact ⟨by show (0:Int)<=d.f5/\d.f5<_; omega,(if_pos rfl).symm,h2⟩
  ·have h1:=(ht.1 x hx).1
   rw [if_neg hg]
   exact ⟨by omega,(qGK h hx).symm,fun e=>by rw [e]at h1; exact absurd h1.2.1 (by decide)⟩
theorem rpin{m:qD}(h:May m)(hm:Small m)(d:qF):Ev (fun k=>qo.f k m d) (pinL m d):=by
 have h1:=h.1.2.1
 have h3:=h.1.2.2.2.1
 obtain ⟨N,hN⟩:∃ N:Nat,(N:Int)=m.f3:=⟨m.f3.toNat,by omega⟩
 have hT:∀ g,(qKZ m g).length<=3:=fun g=>by
  by_cases e:qKZ m g=[]
  ·rw [e]; exact Nat.zero_le _
  ·exact qDw h _ (qEP e)
 have no:Ev (fun k=>qo.j13 k m d true) ((m,1):qD × Int):=.s (qo.j13_s · _ _ _) (.t rfl (.c _))
 unfold qo.f pinL
 by_cases hg:0<=d.f5/\d.f5<m.f3
 ·refine .n (by omega) (.n (by omega) ?_)
  by_cases hs:(d.f6.length:Int)>m.f1
  ·rw [if_neg (by omega),dT hs]
   exact no
  rw [if_pos ⟨hg.1,hg.2,by omega⟩,dF hs]
  refine .s (qo.j13_s · _ _ _) (.n nF (.b (rtemp m hm d.f5) (.b (ints _ _ (by have:=hT d.f5; omega)) ?_)))
  by_cases he:qKZ m d.f5=d.f6
  ·rw [if_pos he]
   exact .t (dT he) (.c _)
  ·rw [if_neg he]
   refine .n (fun e=>he (oT e)) (.b (Topo.refapart m.f4 d.f6 hm.h4 (by omega)) ?_)
   by_cases ha:Topo.apartR m.f4 [] d.f6=true
   ·rw [if_pos ha]
    refine .t ha ?_
    have go:∀(n g:Nat)(acc:List qE),g+n=N->acc.length<=g->Ev (fun k=>qo.l57 k m d acc (g:Int)) ((⟨m.f0,m.f1,m.f2,m.f3,m.f4,acc++pinR m d g n,m.f6⟩:qD),0):=by
     intro n
     induction n with
     | zero =>
      intro g acc hgn hacc
      refine .s (qo.l57_s · _ _ _ _) (.n (by omega) (.cv ?_))
      rw [show pinR m d g 0=[] from rfl,List.append_nil]
     | succ n ih =>
      intro g acc hgn hacc
      refine .s (qo.l57_s · _ _ _ _) (.t (by omega) (.b (rtemp m hm g) ?_))
      have j80:Ev (fun k=>qo.j80 k m d acc (g:Int) (pinG m d g)) ((⟨m.f0,m.f1,m.f2,m.f3,m.f4,acc++pinR m d g (n+1),m.f6⟩:qD),0):=by
       refine .s (qo.j80_s · _ _ _ _ _) ?_
       rw [w64n g (by omega),show pinR m d g (n+1)=(if pinG m d g=[] then [] else [(⟨g,pinG m d g⟩:qE)])++pinR m d (g+1) n from rfl]
       by_cases hc:pinG m d g=[]
       ·rw [if_pos hc]
        exact .n (by rw [hc]; decide) (ih (g+1) acc (by omega) (by omega))
       ·rw [if_neg hc]
        have hpos:0<(pinG m d g).length:=List.length_pos_iff.2 hc
        refine .t (by omega) (.t (by omega) ((ih (g+1) (acc++[⟨g,pinG m d g⟩]) (by omega) (by rw [lA]; show acc.length+1<=_; omega)).v ?_))
        rw [List.append_assoc]
      by_cases hgd:(g:Int)=d.f5
      ·have e:pinG m d g=d.f6:=if_pos hgd
       rw [e]at j80
       exact .t hgd j80
      ·have e:pinG m d g=qKZ m g:=if_neg hgd
       rw [e]at j80
       exact .n hgd j80
    refine (go N 0 [] (Nat.zero_add _) (Nat.le_refl _)).v ?_
    rw [List.nil_append,qKP h d hg hN]
    rfl
   ·rw [if_neg ha]
    exact .n ha (.c _)
 ·rw [if_neg (fun e=>hg ⟨e.1,e.2.1⟩)]
  by_cases c:d.f5<0
  ·exact .t c no
  ·exact .n c (.t (by omega) no)
def heldG(m:qD)(id:Int)(g:Nat):Bool:=(qKZ m g).any (fun x=>x == id)||(nth qC.z m.f6 g).f1.any fun s=>s.f1.any fun x=>x == id
theorem qFj(l:List Int)(id:Int):l.any (fun x=>x == id)=decide (id ∈ l):=by
 rw [Bool.eq_iff_iff,List.any_eq_true,decide_eq_true_eq]
 exact ⟨fun ⟨x,hx,e⟩=>(beq_iff_eq.1 e) ▸ hx,fun h=>⟨id,h,beq_self_eq_true _⟩⟩
theorem qJa{m:qD}(h:May m)(id:Int){N:Nat}(hN:(N:Int)=m.f3):(∃ g,g<N/\heldG m id g=true)↔held m id=true:=by
 have hl:m.f6.length=N:=by have:=h.2.2.1; omega
 have ht:=(qCq m _ _).1 h.2.1
 unfold heldG held
 rw [Bool.or_eq_true,List.any_eq_true,List.any_eq_true]
 constructor
 ·rintro ⟨g,hg,e⟩
  rw [Bool.or_eq_true]at e
  rcases e with e | e
  ·rw [qFj,decide_eq_true_eq]at e
   exact .inl ⟨_,qEP (m:=m) (g:=g) (fun q=>by rw [q]at e; exact (nomatch e)),by rw [decide_eq_true_eq]; exact e⟩
  ·have hg':g<m.f6.length:=by omega
   rw [nth_get _ _ _ hg',List.any_eq_true]at e
   obtain ⟨s,hs,e⟩:=e
   rw [qFj]at e
   exact .inr ⟨_,gM hg',List.any_eq_true.2 ⟨s,hs,e⟩⟩
 ·rintro (⟨t,htm,e⟩ | ⟨t,htm,e⟩)
  ·have hr:=(ht.1 t htm).1.1
   refine ⟨t.f0.toNat,by omega,?_⟩
   rw [Bool.or_eq_true]
   left
   rw [show ((t.f0.toNat:Nat):Int)=t.f0 by omega,qGK h htm,qFj]
   exact e
  ·obtain ⟨g,hg,rfl⟩:=List.getElem_of_mem htm
   refine ⟨g,by omega,?_⟩
   rw [Bool.or_eq_true]
   right
   rw [nth_get _ _ _ hg,List.any_eq_true]
   obtain ⟨s,hs,e⟩:=List.any_eq_true.1 e
   exact ⟨s,hs,by rw [qFj]; exact e⟩
theorem rheld {m:qD} (h:May m) (hm:Small m) {b:Nat} (hb:b<=100000) (hP:Pasts b m) (t:qA × Bool) (v:qD × Int) {N:Nat} (hN:(N:Int)=m.f3)
  (hv:Ev (fun k=>qH.j283 k m t (held m t.1.f0||(t.1.f4||(t.1.f5&&decide (t.1.f3>0))))) v):Ev (fun k=>qH.l187 k m t false 0) v:=by
 have hl:m.f6.length=N:=by have:=h.2.2.1; omega
 have h3:=h.1.2.2.2.1
 have hT:∀ g,(qKZ m g).length<=3:=fun g=>by
  by_cases e:qKZ m g=[]
  ·rw [e]; exact Nat.zero_le _
  ·exact qDw h _ (qEP e)
 have l187:∀(n g:Nat)(y:Bool),g+n=N->(y=true↔∃ q,q<g/\heldG m t.1.f0 q=true)->Ev (fun k=>qH.l187 k m t y (g:Int)) v:=by
  intro n
  induction n with
  | zero =>
   intro g y hg hy
   obtain rfl:g=N:=by omega
   have e:y=held m t.1.f0:=by rw [Bool.eq_iff_iff,hy,qJa h t.1.f0 hN]
   refine .s (qH.l187_s · _ _ _ _) (.n (by omega) ?_)
   rw [← e]at hv
   cases y with
   | true=>exact .t rfl hv
   | false =>
    rw [Bool.false_or]at hv
    refine .n nF ?_
    cases h4:t.1.f4 with
    | true =>
     rw [h4]at hv
     exact .t rfl hv
    | false =>
     rw [h4,Bool.false_or]at hv
     refine .n nF ?_
     cases h5:t.1.f5 with
     | true =>
      rw [h5,Bool.true_and]at hv
      exact .t rfl hv
     | false =>
      rw [h5,Bool.false_and]at hv
      exact .n nF hv
  | succ n ih =>
   intro g y hg hy
   have hg1:g<m.f6.length:=by omega
   have hmem:=gM hg1
   have hpl:=hP _ hmem
   have l224:∀(d i:Nat)(z:Bool),i+d=m.f6[g].f1.length->Ev (fun k=>qH.l187 k m t (z||(m.f6[g].f1.drop i).any fun s=>s.f1.any fun x=>x == t.1.f0) ((g+1:Nat):Int)) v->Ev (fun k=>qH.l224 k m t (g:Int) z (i:Int)) v:=by
    intro d
    induction d with
    | zero =>
     intro i z hi hz
     rw [List.drop_eq_nil_of_le (by omega),List.any_nil,Bool.or_false]at hz
     refine .s (qH.l224_s · _ _ _ _ _) (.t (by omega) ?_)
     rw [nth_get _ _ _ hg1,w64n g (by omega)]
     exact .n (by omega) hz
    | succ d ihd =>
     intro i z hi hz
     have h1:i<m.f6[g].f1.length:=by omega
     have hsl:=qDR h _ hmem _ (gM h1)
     rw [List.drop_eq_getElem_cons h1,List.any_cons,← Bool.or_assoc]at hz
     have l243:∀(e j:Nat)(z:Bool),j+e=m.f6[g].f1[i].f1.length->Ev (fun k=>qH.l224 k m t (g:Int) (z||(m.f6[g].f1[i].f1.drop j).any fun x=>x == t.1.f0) ((i+1:Nat):Int)) v->Ev (fun k=>qH.l243 k m t (g:Int) (i:Int) z (j:Int)) v:=by
      intro e
      induction e with
      | zero =>
       intro j z hj hz
       rw [List.drop_eq_nil_of_le (by omega),List.any_nil,Bool.or_false]at hz
       refine .s (qH.l243_s · _ _ _ _ _ _) ?_
       rw [nth_get _ _ _ hg1,nth_get _ _ _ h1,w64n i (by omega)]
       exact .t (by omega) (.n (by omega) hz)
      | succ e ihe =>
       intro j z hj hz
       have hj1:j<m.f6[g].f1[i].f1.length:=by omega
       rw [List.drop_eq_getElem_cons hj1,List.any_cons,← Bool.or_assoc]at hz
       refine .s (qH.l243_s · _ _ _ _ _ _) ?_
       rw [nth_get _ _ _ hg1,nth_get _ _ _ h1,w64n j (by omega)]
       refine .t (by omega) (.t (by omega) ?_)
       cases z with
       | true=>exact .t rfl (ihe (j+1) true (by omega) hz)
       | false =>
        refine .n nF (.t (by omega) ?_)
        rw [nth_get _ _ _ hj1]
        exact ihe (j+1) _ (by omega) hz
     refine .s (qH.l224_s · _ _ _ _ _) (.t (by omega) ?_)
     rw [nth_get _ _ _ hg1]
     refine .t (by omega) (l243 _ 0 z (Nat.zero_add _) ?_)
     rw [List.drop_zero]
     exact ihd (i+1) _ (by omega) hz
   have l207:∀(d j:Nat)(z:Bool),j+d=(qKZ m g).length->Ev (fun k=>qH.l224 k m t (g:Int) (z||((qKZ m g).drop j).any fun x=>x == t.1.f0) 0) v->Ev (fun k=>qH.l207 k m t (g:Int) (qKZ m g) z (j:Int)) v:=by
    intro d
    induction d with
    | zero =>
     intro j z hj hz
     rw [List.drop_eq_nil_of_le (by omega),List.any_nil,Bool.or_false]at hz
     exact .s (qH.l207_s · _ _ _ _ _ _) (.n (by omega) hz)
    | succ d ihd =>
     intro j z hj hz
     have h1:j<(qKZ m g).length:=by omega
     have:=hT g
     rw [List.drop_eq_getElem_cons h1,List.any_cons,← Bool.or_assoc]at hz
     refine .s (qH.l207_s · _ _ _ _ _ _) (.t (by omega) ?_)
     rw [w64n j (by omega)]
     cases z with
     | true=>exact .t rfl (ihd (j+1) true (by omega) hz)
     | false =>
      refine .n nF (.t (by omega) ?_)
      rw [nth_get _ _ _ h1]
      exact ihd (j+1) _ (by omega) hz
   refine .s (qH.l187_s · _ _ _ _) (.t (by omega) (.b (rtemp m hm g) (l207 _ 0 y (Nat.zero_add _) ?_)))
   rw [List.drop_zero]
   refine l224 _ 0 _ (Nat.zero_add _) ?_
   rw [List.drop_zero]
   refine ih (g+1) _ (by omega) ?_
   rw [Bool.or_assoc,Bool.or_eq_true,hy,show ((qKZ m g).any (fun x=>x == t.1.f0)||m.f6[g].f1.any fun s=>s.f1.any fun x=>x == t.1.f0)=heldG m t.1.f0 g by unfold heldG; rw [nth_get _ _ _ hg1]]
   constructor
   ·rintro (⟨q,h1,h2⟩ | h2)
    ·exact ⟨q,by omega,h2⟩
    ·exact ⟨g,Nat.lt_succ_self g,h2⟩
   ·rintro ⟨q,h1,h2⟩
    rcases Nat.lt_or_ge q g with h3 | h3
    ·exact .inl ⟨q,h3,h2⟩
    ·obtain rfl:q=g:=by omega
     exact .inr h2
 exact l187 N 0 false (Nat.zero_add _) ⟨fun e=>Bool.noConfusion e,fun ⟨q,h1,_⟩=>absurd h1 (by omega)⟩
theorem qKQ(a b:qA):a=b↔(a.f0=b.f0/\a.f1=b.f1/\a.f2=b.f2/\a.f3=b.f3/\a.f4=b.f4/\a.f5=b.f5):=by
 cases a; cases b
 simp only [qA.mk.injEq]
theorem May.small{m:qD}(h:May m){b:Nat}(hb:b<=1000000)(hP:Pasts b m):Small m:=by
 have h4:m.f4.length<=12:=h.1.2.2.2.2.1
 have h5:=qDb h
 have h6:=qDh h
 exact ⟨by omega,by omega,by omega,fun t ht=>by have:=hP t ht; omega,fun t ht s hs=>by have:=qDR h t ht s hs; omega⟩
theorem rturned{m:qD}(h:May m){b:Nat}(hb:b<=100000)(hP:Pasts b m)(d:qF)(hd:1<=d.f0/\d.f0<=10):Ev (fun k=>qH.f k m d) (qKX m d):=by
 have hm:=h.small (by omega) hP
 have h3:=h.1.2.2.2.1
 have hn:=h.1.2.2.2.2
 have hl:m.f4.length<=12:=hn.1
 have hlen:(m.f6.length:Int)=m.f3:=h.2.2.1
 obtain ⟨N,hN⟩:∃ N:Nat,(N:Int)=m.f3:=⟨m.f3.toNat,by omega⟩
 unfold qH.f qKX
 refine .b (Topo.reffind m.f4 d.f1 hm.h4) ?_
 by_cases h9:d.f0=9
 ·rw [if_neg (by omega),if_neg (by omega),if_pos h9]
  exact .t h9 (.c _)
 refine .n h9 ?_
 by_cases h8:d.f0=8
 ·rw [if_neg (by omega),if_pos h8]
  exact .t h8 (.b (rpin h hm d) (.c _))
 refine .n h8 ?_
 by_cases h10:d.f0=10
 ·rw [if_neg (by omega),if_neg h8,if_neg h9,if_pos h10]
  refine .t h10 ?_
  unfold cleanL
  by_cases hg:0<=d.f5/\d.f5<m.f3
  ·rw [if_pos hg,dF (by omega)]
   refine .n (by omega) (.s (qH.j48_s · _ _ _) (.n nF (.t (by omega) ?_)))
   by_cases hs:(nth qC.z m.f6 d.f5).f0=d.f4
   ·rw [if_neg (show ¬ (nth qC.z m.f6 d.f5).f0≠d.f4 from fun e=>e hs)]
    refine .t hs ?_
    by_cases hp:(nth qC.z m.f6 d.f5).f1=[]
    ·rw [if_pos hp]
     exact .t (show (((nth qC.z m.f6 d.f5).f1).length:Int)=0 by rw [hp]; rfl) (.c _)
    ·rw [if_neg hp]
     refine .n (show ¬ (((nth qC.z m.f6 d.f5).f1).length:Int)=0 from fun e=>hp (List.eq_nil_of_length_eq_zero (by omega))) (.t ?_ (.t ?_ (.c _)))
     ·show (((0:Nat):Int)+(m.f6.length:Int)) * 32<=140737488355328
      omega
     ·rw [List.nil_append]
      omega
   ·rw [if_pos (show (nth qC.z m.f6 d.f5).f0≠d.f4 from hs)]
    exact .n hs (.c _)
  ·rw [if_neg hg]
   by_cases c:d.f5<0
   ·exact .t c (.s (qH.j48_s · _ _ _) (.t rfl (.c _)))
   ·rw [dT (show d.f5>=m.f3 by omega)]
    exact .n c (.s (qH.j48_s · _ _ _) (.t rfl (.c _)))
 refine .n h10 ?_
 by_cases h1:d.f0=1
 ·rw [if_pos h1]
  refine .t h1 ?_
  unfold addL
  by_cases ht:(Topo.find m.f4 d.f1).2=true
  ·rw [if_pos ht]
   exact .t ht (.c _)
  ·rw [if_neg ht]
   refine .n ht ?_
   by_cases h12:m.f4.length=12
   ·rw [if_pos h12]
    exact .t (by omega) (.c _)
   ·rw [if_neg h12]
    refine .n (by omega) (.b (rput m.f4 (addN d) (by omega) hn.up false) ?_)
    rw [if_neg nF]
    have hpl:(putN (addN d) m.f4).length<=1000:=by
     have:=(List.Perm.length_eq (l₁:=putN (addN d) m.f4) (l₂:=putN (addN d) m.f4) (List.Perm.refl _))
     have key:∀ l:List qA,(putN (addN d) l).length<=l.length+1:=by
      intro l
      induction l with
      | nil=>exact Nat.le_refl _
      | cons c r ih =>
       unfold putN
       split
       ·rw [List.length_cons,List.length_cons]; omega
       ·split
        ·rw [List.length_cons,List.length_cons]; omega
        ·rw [List.length_cons,List.length_cons]; omega
     have:=key m.f4
     omega
    refine .b (Topo.may _ (by omega)) ?_
    by_cases hN:Topo.Nodes (putN (addN d) m.f4)
    ·rw [if_pos hN]
     exact .t (dT hN) (.c _)
    ·rw [if_neg hN]
     exact .n (fun e=>hN (oT e)) (.c _)
 rw [if_neg h1,if_neg h8,if_neg h9,if_neg h10]
 refine .n h1 ?_
 unfold Topo.find
 cases hf:m.f4.find? (fun n=>decide (n.f0=d.f1)) with
 | none=>exact .n nF (.c _)
 | some n =>
  have hid:n.f0=d.f1:=oT (List.find?_some (p:=fun c:qA=>decide (c.f0=d.f1)) hf)
  have j306:∀(x:Int)(y z:Bool)(drop same:Bool)(w:qD × Int),(same=true->w=(m,7))->(same=false->w=((withN m (if drop=true then dropN n.f0 m.f4 else putN ⟨n.f0,n.f1,n.f2,x,y,z⟩ m.f4),0):qD × Int))->Ev (fun k=>qH.j306 k m (n,true) x y z drop same) w:=by
   intro x y z drop same w e1 e2
   refine .s (qH.j306_s · _ _ _ _ _ _ _) ?_
   cases same with
   | true =>
    rw [e1 rfl]
    exact .t rfl (.c _)
   | false =>
    rw [e2 rfl]
    exact .n nF (.b (rput m.f4 (⟨n.f0,n.f1,n.f2,x,y,z⟩:qA) (by omega) hn.up drop) (.c _))
  have j296:∀(x:Int)(y z:Bool)(w:qD × Int),((x=n.f3/\y=n.f4/\z=n.f5)->w=(m,7))->(¬ (x=n.f3/\y=n.f4/\z=n.f5)->w=((withN m (putN ⟨n.f0,n.f1,n.f2,x,y,z⟩ m.f4),0):qD × Int))->Ev (fun k=>qH.j296 k m (n,true) false x y z) w:=by
   intro x y z w e1 e2
   have hiff:((⟨n.f0,n.f1,n.f2,x,y,z⟩:qA)=n)↔(x=n.f3/\y=n.f4/\z=n.f5):=by
    rw [qKQ]
    exact ⟨fun q=>q.2.2.2,fun q=>⟨rfl,rfl,rfl,q⟩⟩
   refine .s (qH.j296_s · _ _ _ _ _ _) (.n nF (j306 x y z false _ w (fun q=>e1 (hiff.1 (oT q))) fun q=>?_))
   rw [if_neg nF]
   exact e2 fun r=>of_decide_eq_false q (hiff.2 r)
  have bd:∀(p:Prop)[Decidable p](x:Bool),(x=decide p)↔(decide p=x):=fun _ _ _=>⟨Eq.symm,Eq.symm⟩
  dsimp only
  refine .t rfl ?_
  unfold nodeL
  by_cases h2:d.f0=2
  ·rw [if_pos h2]
   refine .t h2 ?_
   by_cases hw:0<=d.f4/\d.f4<=65536
   ·rw [if_pos hw,dF (by omega)]
    refine .n (by omega) (.s (qH.j161_s · _ _ _ _) (.n nF (j296 _ _ _ _ (fun q=>if_pos q.1.symm) fun q=>if_neg fun e=>q ⟨e.symm,rfl,rfl⟩)))
   ·rw [if_neg hw]
    by_cases c:d.f4<0
    ·exact .t c (.s (qH.j161_s · _ _ _ _) (.t rfl (.c _)))
    ·rw [dT (show d.f4>65536 by omega)]
     exact .n c (.s (qH.j161_s · _ _ _ _) (.t rfl (.c _)))
  rw [if_neg h2]
  refine .n h2 ?_
  by_cases h3':d.f0=3
  ·rw [if_pos (.inl h3'),dT h3']
   exact .t h3' (j296 _ _ _ _ (fun q=>if_pos q.2.1.symm) fun q=>if_neg fun e=>q ⟨rfl,e.symm,rfl⟩)
  refine .n h3' ?_
  by_cases h4':d.f0=4
  ·rw [if_pos (.inr h4'),dF h3']
   exact .t h4' (j296 _ _ _ _ (fun q=>if_pos q.2.1.symm) fun q=>if_neg fun e=>q ⟨rfl,e.symm,rfl⟩)
  refine .n h4' ?_
  rw [if_neg (show ¬ (d.f0=3\/d.f0=4) by omega)]
  by_cases h5':d.f0=5
  ·rw [if_pos (.inl h5'),dF (show ¬ d.f0=6 by omega)]
   exact .t h5' (j296 _ _ _ _ (fun q=>if_pos q.2.2.symm) fun q=>if_neg fun e=>q ⟨rfl,rfl,e.symm⟩)
  refine .n h5' ?_
  by_cases h6':d.f0=6
  ·rw [if_pos (.inr h6'),dT h6']
   exact .t h6' (j296 _ _ _ _ (fun q=>if_pos q.2.2.symm) fun q=>if_neg fun e=>q ⟨rfl,rfl,e.symm⟩)
  refine .n h6' ?_
  rw [if_neg (show ¬ (d.f0=5\/d.f0=6) by omega)]
  refine rheld h hm hb hP (n,true) _ hN (.s (qH.j283_s · _ _ _) ?_)
  have hc:(held m n.f0||(n.f4||(n.f5&&decide (n.f3>0))))=true↔(n.f4=true\/(n.f5=true/\n.f3>0)\/held m d.f1=true):=by
   rw [Bool.or_eq_true,Bool.or_eq_true,Bool.and_eq_true,decide_eq_true_eq,hid]
   constructor
   ·rintro (a | a | a)
    ·exact .inr (.inr a)
    ·exact .inl a
    ·exact .inr (.inl a)
   ·rintro (a | a | a)
    ·exact .inr (.inl a)
    ·exact .inr (.inr a)
    ·exact .inl a
  by_cases hq:n.f4=true\/(n.f5=true/\n.f3>0)\/held m d.f1=true
  ·rw [if_pos hq]
   exact .t (hc.2 hq) (.c _)
  ·rw [if_neg hq]
   refine .n (fun e=>hq (hc.1 e)) (.s (qH.j296_s · _ _ _ _ _ _) (.t rfl (j306 _ _ _ true false _ (fun e=>Bool.noConfusion e) fun _=>?_)))
   rw [if_pos rfl,hid]
theorem rapply{m:qD}(h:May m)(d:qF)(hd6:d.f6.length<4611686018427387904){b:Nat}(hb:b<=100000)(hP:Pasts b m):Ev (fun k=>qt.f k m d) (qKb m d):=by
 have hf:=h.1.1
 have h3:=h.1.2.2.2.1
 have hm:=h.small (by omega) hP
 have j24:∀ y:Bool,(y=true↔¬ ((1<=d.f0/\d.f0<=10)/\bareD d))->Ev (fun k=>qt.j24 k m d y) (qKb m d):=by
  intro y hy
  refine .s (qt.j24_s · _ _ _) ?_
  unfold qKb
  by_cases hc:(1<=d.f0/\d.f0<=10)/\bareD d
  ·rw [if_pos hc]
   refine .n (fun e=>hy.1 e hc) ?_
   by_cases he:m.f0=2147483647
   ·rw [if_pos he]
    exact .t he (.c _)
   ·rw [if_neg he]
    refine .n he (.b (rturned h hb hP d hc.1) ?_)
    by_cases h0:(qKX m d).2=0
    ·rw [if_pos h0]
     refine .t h0 ?_
     have hx:=qEE h h0
     have hT:=qDn (m:=m) (d:=d)
     have hPx:=qDc hP d
     have hmx:=hx.small (by omega) hPx
     have hlen:((qKX m d).1.f6.length:Int)=m.f3:=by rw [hx.2.2.1,hT.2.2.2]
     have hFl:(qKY m (qKX m d).1).length=(qKX m d).1.f6.length:=by unfold qKY; exact List.length_mapIdx
     have go:∀(n i:Nat)(acc:List qC),i+n=(qKX m d).1.f6.length->acc=(qKY m (qKX m d).1).take i->Ev (fun k=>qt.l72 k m (qKX m d) acc (i:Int)) ((⟨m.f0+1,m.f1,m.f2,m.f3,(qKX m d).1.f4,(qKX m d).1.f5,qKY m (qKX m d).1⟩:qD),0):=by
      intro n
      induction n with
      | zero =>
       intro i acc hi ha
       refine .s (qt.l72_s · _ _ _ _) (.n (by omega) (.cv ?_))
       rw [ha,List.take_of_length_le (by omega),hT.1,hT.2.1,hT.2.2.1,hT.2.2.2,qCk (by omega) (by omega)]
      | succ n ih =>
       intro i acc hi ha
       have h1:i<(qKX m d).1.f6.length:=by omega
       have h2:i<(qKY m (qKX m d).1).length:=by omega
       have hmem:=gM h1
       have hF:(qKY m (qKX m d).1)[i]=followT (qKX m d).1.f6[i] (actL m i) (actL (qKX m d).1 i) m.f2 (m.f0+1):=by
        simp only [qKY,List.getElem_mapIdx]
       have ea:actM m i=actL m i:=if_pos ⟨h,by omega,by omega⟩
       have eb:actM (qKX m d).1 i=actL (qKX m d).1 i:=if_pos ⟨hx,by omega,by rw [hT.2.2.2]; omega⟩
       have hal:=(qGI h i).2.1
       have s1:=h.1.2.1
       have hacc:acc.length<=i:=by rw [ha,List.length_take]; omega
       refine .s (qt.l72_s · _ _ _ _) (.t (by omega) (.t (by omega) (.b (rActing m hm i) (.b (rActing _ hmx i) ?_))))
       rw [ea,eb,nth_get _ _ _ h1,w64n i (by omega),qCk (by omega) (by omega)]
       refine .b (rfollow (qKX m d).1.f6[i] _ _ _ _ (by omega) (by have:=hPx _ hmem; omega) fun s hs=>Nat.le_trans (qDR hx _ hmem s hs) (by decide)) (.t (by omega) (ih (i+1) _ (by omega) ?_))
       rw [ha,← hF,List.take_append_getElem h2]
     exact go _ 0 [] (Nat.zero_add _) rfl
    ·rw [if_neg h0]
     exact .n h0 (.c _)
  ·rw [if_neg hc]
   exact .t (hy.2 hc) (.c _)
 unfold qt.f
 by_cases c1:d.f0<1
 ·exact .t c1 (j24 true ⟨fun _ q=>by omega,fun _=>rfl⟩)
 ·refine .n c1 ?_
  by_cases c2:d.f0>10
  ·exact .t c2 (j24 true ⟨fun _ q=>by omega,fun _=>rfl⟩)
  ·refine .n c2 (.b0 (rbare d) (.b (rdeltas d (bareOf d) hd6) (j24 _ ?_)))
   by_cases hbd:bareD d
   ·rw [dT ((qFN d).2 hbd)]
    exact ⟨fun e=>Bool.noConfusion e,fun q=>absurd ⟨⟨by omega,by omega⟩,hbd⟩ q⟩
   ·rw [dF (fun e=>hbd ((qFN d).1 e))]
    exact ⟨fun _ q=>hbd q.2,fun _=>rfl⟩
theorem qEi{m:qD}{d:qF}(h:(qKb m d).2≠0):(qKb m d).1=m:=by
 unfold qKb at h ⊢
 split
 ·rename_i c1
  rw [if_pos c1]at h
  split
  ·rfl
  ·rename_i c2
   rw [if_neg c2]at h
   split
   ·rename_i c3
    rw [if_pos c3]at h
    exact absurd rfl h
   ·rfl
 ·rfl
theorem Lit8.pasts{m:qD}(h:Lit8 m):Pasts 20 m:=h.hp
theorem qCt(is:qA->Bool)(of:qA->Int)(n:qA)(l:List qA)(id:Int):Topo.wSum is of (n :: l) id=(if is n=true/\of n=id then Topo.weight n else 0)+Topo.wSum is of l id:=by
 unfold Topo.wSum
 rw [List.filter_cons]
 by_cases h1:is n=true
 ·by_cases h2:of n=id
  ·simp [h1,h2]
  ·simp [h1,h2]
 ·simp [h1]
theorem qGM(is:qA->Bool)(of:qA->Int)(i:Int):∀(l:List qA),(∀ y ∈ l,y.f0=i->Topo.weight y=0)->∀ id,Topo.wSum is of (dropN i l) id=Topo.wSum is of l id
 | [],_,_=>rfl
 | x :: r,h,id=>by
  have ih:=qGM is of i r (fun y hy=>h y (List.mem_cons_of_mem _ hy)) id
  unfold dropN at ih ⊢
  by_cases hx:x.f0=i
  ·rw [List.filter_cons_of_neg (by simpa using hx),ih,qCt]
   have:=h x List.mem_cons_self hx
   split <;> omega
  ·rw [List.filter_cons_of_pos (by simpa using hx),qCt,qCt,ih]
theorem qHU(is:qA->Bool)(of:qA->Int)(n:qA):∀(l:List qA),l.Pairwise (fun x y=>x.f0<y.f0)->(∃ y ∈ l,y.f0=n.f0)->(∀ y ∈ l,y.f0=n.f0->is y=is n/\of y=of n/\Topo.weight y=Topo.weight n)->∀ id,Topo.wSum is of (putN n l) id=Topo.wSum is of l id
 | [],_,⟨_,h,_⟩,_,_=>nomatch h
 | x :: r,hp,he,h,id=>by
  obtain ⟨h1,h2⟩:=List.pairwise_cons.1 hp
  obtain ⟨y,hy,hye⟩:=he
  unfold putN
  by_cases hc:x.f0<n.f0
  ·have hyr:y ∈ r:=by
    rcases List.mem_cons.1 hy with rfl | hy
    ·omega
    ·exact hy
   rw [if_pos hc,qCt,qCt,qHU is of n r h2 ⟨y,hyr,hye⟩ (fun z hz=>h z (List.mem_cons_of_mem _ hz)) id]
  ·rw [if_neg hc]
   by_cases hx:x.f0=n.f0
   ·obtain ⟨q1,q2,q3⟩:=h x List.mem_cons_self hx
    rw [if_pos hx,qCt,qCt,q1,q2,q3]
   ·rcases List.mem_cons.1 hy with rfl | hy
    ·exact absurd hye hx
    ·have:=h1 y hy
     omega
theorem qFk{l l':List qA}(h:Topo.Nodes l)(h':Topo.Nodes l')(is:qA->Bool)(of:qA->Int)(hs:∀ id,Topo.wSum is of l id=Topo.wSum is of l' id):Draw.heavy (Topo.wL is of l)=Draw.heavy (Topo.wL is of l'):=by
 obtain ⟨hW,_⟩:=Topo.wL_full is of h
 obtain ⟨hW',_⟩:=Topo.wL_full is of h'
 unfold Draw.heavy
 refine Topo.up_ext (hW.up.filter _) (hW'.up.filter _) fun c=>?_
 have key:∀ {a b:List qA},(∀ id,Topo.wSum is of a id=Topo.wSum is of b id)->(Topo.wIs is of a c.f0/\c.f1=Topo.cap (Topo.wSum is of a c.f0))/\(!(c.f1 == 0))=true->(Topo.wIs is of b c.f0/\c.f1=Topo.cap (Topo.wSum is of b c.f0))/\(!(c.f1 == 0))=true:=by
  rintro a b hab ⟨⟨h1,h2⟩,h3⟩
  rw [hab]at h2
  refine ⟨⟨Classical.byContradiction fun hn=>?_,h2⟩,h3⟩
  rw [Topo.wSum_none hn]at h2
  rw [h2]at h3
  exact absurd h3 (by decide)
 rw [List.mem_filter,List.mem_filter,hW.mem,hW'.mem]
 exact ⟨key hs,key fun id=>(hs id).symm⟩
theorem qDT{l l':List qA}(h:Topo.Nodes l)(h':Topo.Nodes l')(hs:∀ is of,(is=Topo.isZ/\of=Topo.ofZ)\/(∃ z,is=Topo.isR z/\of=Topo.ofR)\/(∃ z r,is=Topo.isL z r/\of=Topo.ofL)->∀ id,Topo.wSum is of l id=Topo.wSum is of l' id)(g s:Int):Place.ofCommon l g s=Place.ofCommon l' g s:=by
 have hz:Draw.heavy (Topo.wL Topo.isZ Topo.ofZ l)=Draw.heavy (Topo.wL Topo.isZ Topo.ofZ l'):=qFk h h' _ _ (hs _ _ (.inl ⟨rfl,rfl⟩))
 have hr:∀ z,Draw.heavy (Topo.wL (Topo.isR z) Topo.ofR l)=Draw.heavy (Topo.wL (Topo.isR z) Topo.ofR l'):=fun z=>qFk h h' _ _ (hs _ _ (.inr (.inl ⟨z,rfl,rfl⟩)))
 have hl:∀ z r,Draw.heavy (Topo.wL (Topo.isL z r) Topo.ofL l)=Draw.heavy (Topo.wL (Topo.isL z r) Topo.ofL l'):=fun z r=>qFk h h' _ _ (hs _ _ (.inr (.inr ⟨z,r,rfl,rfl⟩)))
 have hk:∀ st z r,Place.kids l g st z r=Place.kids l' g st z r:=by
  intro st z r
  unfold Place.kids Draw.ord
  split
  ·rw [hz]
  ·split
   ·rw [hr]
   ·rw [hl]
 have hc:∀ st,Place.chooseL l g st=Place.chooseL l' g st:=by
  intro st
  funext x
  unfold Place.chooseL
  rw [hk]
 have hp:Place.pk l g=Place.pk l' g:=by
  funext z
  unfold Place.pk Place.pick
  rw [hc,hc]
 have hzo:Place.zonesOf l g=Place.zonesOf l' g:=by
  unfold Place.zonesOf Draw.ord
  rw [hz]
 unfold Place.ofCommon
 rw [hp,hzo]
 by_cases c:(0<=g/\g<8)/\1<=s/\s<=3
 ·rw [if_pos ⟨h,c⟩,if_pos ⟨h',c⟩]
 ·rw [if_neg fun e=>c e.2,if_neg (fun e=>c e.2)]
theorem qEQ{m:qD}{d:qF}(h:(qKb m d).2=0):(qKX m d).2=0/\(qKb m d).1=⟨m.f0+1,m.f1,m.f2,m.f3,(qKX m d).1.f4,(qKX m d).1.f5,qKY m (qKX m d).1⟩:=by
 unfold qKb at h ⊢
 split at h
 ·rename_i c1
  rw [if_pos c1]
  split at h
  ·exact absurd (show (6:Int)=0 from h) (by decide)
  ·rename_i c2
   rw [if_neg c2]
   split at h
   ·rename_i c3
    rw [if_pos c3]
    exact ⟨c3,rfl⟩
   ·rename_i c3
    exact absurd h c3
 ·exact absurd (show (1:Int)=0 from h) (by decide)
theorem qJb{m x:qD}(h:May m){d:qF}(hx:x.f5=pinT d.f5 d.f6 m.f5)(g:Int):qKZ x g=if g=d.f5 then d.f6 else qKZ m g:=by
 have hs:=((qCq m _ _).1 h.2.1).2.1
 have key:∀(l:List qE),l.Pairwise (fun x y=>x.f0<y.f0)->(match (pinT d.f5 d.f6 l).find? (fun t=>decide (t.f0=g)) with | some t=>t.f1 | none=>[])=if g=d.f5 then d.f6 else (match l.find? (fun t=>decide (t.f0=g)) with | some t=>t.f1 | none=>[]):=by
  intro l
  induction l with
  | nil =>
   intro _
   unfold pinT
   by_cases h6:d.f6=[]
   ·rw [if_pos h6]
    by_cases hg:g=d.f5
    ·rw [if_pos hg,h6]
     rfl
    ·rw [if_neg hg]
   ·rw [if_neg h6]
    by_cases hg:g=d.f5
    ·rw [if_pos hg,List.find?_cons_of_pos (by simp [hg])]
    ·rw [if_neg hg,List.find?_cons_of_neg (by simpa using fun e=>hg e.symm)]
  | cons t r ih =>
   intro hp
   obtain ⟨h1,h2⟩:=List.pairwise_cons.1 hp
   have ih:=ih h2
   unfold pinT
   by_cases hc:t.f0<d.f5
   ·rw [if_pos hc]
    by_cases ht:t.f0=g
    ·rw [List.find?_cons_of_pos (by simpa using ht),List.find?_cons_of_pos (by simpa using ht),if_neg (by omega)]
    ·rw [List.find?_cons_of_neg (by simpa using ht),List.find?_cons_of_neg (by simpa using ht)]
     exact ih
   ·rw [if_neg hc]
    have hnr:∀ q:List qE,(∀ y ∈ q,d.f5<y.f0)->g=d.f5->q.find? (fun t=>decide (t.f0=g))=none:=fun q hq hg=>List.find?_eq_none.2 fun y hy=>by have:=hq y hy; simp; omega
    by_cases h5:t.f0=d.f5
    ·rw [if_pos h5]
     by_cases hg:g=d.f5
     ·rw [if_pos hg]
      by_cases h6:d.f6=[]
      ·rw [if_pos h6,List.nil_append,hnr r (fun y hy=>by have:=h1 y hy; omega) hg,h6]
      ·rw [if_neg h6,List.singleton_append,List.find?_cons_of_pos (by simp [hg])]
     ·rw [if_neg hg,List.find?_cons_of_neg (by simp; omega)]
      by_cases h6:d.f6=[]
      ·rw [if_pos h6,List.nil_append]
      ·rw [if_neg h6,List.singleton_append,List.find?_cons_of_neg (by simpa using fun e=>hg e.symm)]
    ·rw [if_neg h5]
     by_cases hg:g=d.f5
     ·rw [if_pos hg]
      by_cases h6:d.f6=[]
      ·rw [if_pos h6,List.nil_append,hnr (t :: r) (fun y hy=>by
        rcases List.mem_cons.1 hy with rfl | hy
        ·omega
        ·have:=h1 y hy; omega) hg,h6]
      ·rw [if_neg h6,List.singleton_append,List.find?_cons_of_pos (by simp [hg])]
     ·rw [if_neg hg]
      by_cases h6:d.f6=[]
      ·rw [if_pos h6,List.nil_append]
      ·rw [if_neg h6,List.singleton_append,List.find?_cons_of_neg (by simpa using fun e=>hg e.symm)]
 unfold qKZ
 rw [hx]
 exact key m.f5 hs
theorem rnext{m:qD}(h:May m)(d:qF)(hd6:d.f6.length<4611686018427387904){b:Nat}(hb:b<=100000)(hP:Pasts b m):Ev (fun k=>qw.f k m d) (nextL m d):=by
 have j29:∀(t:qD × Int)(y:Bool)(v:qD),v=(if y=true then ⟨w64 (t.1.f0+1),t.1.f1,t.1.f2,t.1.f3,t.1.f4,t.1.f5,t.1.f6⟩ else t.1)->Ev (fun k=>qw.j29 k t y) v:=by
  intro t y v hv
  rw [hv]
  refine .s (qw.j29_s · _ _) ?_
  cases y with
  | true=>exact .t rfl (.s (qw.j37_s · _ _) (.c _))
  | false=>exact .n nF (.s (qw.j37_s · _ _) (.c _))
 have hf:=h.1.1
 unfold qw.f nextL
 refine .b (rapply h d hd6 hb hP) ?_
 by_cases h0:(qKb m d).2=0
 ·rw [if_neg (fun e=>e.1 h0)]
  exact .t h0 (j29 _ false _ (if_neg nF).symm)
 ·have he:=qEi h0
  refine .n h0 (j29 _ _ _ ?_)
  rw [he]
  by_cases hc:m.f0<2147483647
  ·rw [if_pos ⟨h0,hc⟩,dT hc,if_pos rfl,qCk (by omega) (by omega)]
  ·rw [if_neg fun e=>hc e.2,dF hc,if_neg nF]
theorem qEF{m:qD}{b:Nat}(hP:Pasts b m)(d:qF):Pasts (b+1) (nextL m d):=by
 unfold nextL
 split
 ·exact fun t ht=>Nat.le_succ_of_le (hP t ht)
 ·exact qDS hP d
theorem qKR(m:qD)(d:qF):(nextL m d).f0<=m.f0+1:=by
 unfold nextL
 split
 ·exact Int.le_refl _
 ·by_cases he:(qKb m d).2=0
  ·rw [(qEQ he).2]
   exact Int.le_refl _
  ·rw [qEi he]
   omega
def idsU(n:Nat):List Int:=(List.range n).map fun i:Nat=>(i:Int)
theorem qEj(n:Nat):idsU (n+1)=idsU n++[(n:Int)]:=by
 unfold idsU
 rw [List.range_succ,List.map_append]
 rfl
theorem qDU{n:Nat}{x:Int}: x ∈ idsU n↔0<=x/\x<(n:Int):=by
 unfold idsU
 rw [List.mem_map]
 constructor
 ·rintro ⟨i,hi,rfl⟩
  have:=List.mem_range.1 hi
  omega
 ·intro h
  exact ⟨x.toNat,List.mem_range.2 (by omega),Int.toNat_of_nonneg h.1⟩
theorem qHV(n:Nat):(idsU n).length=n:=by
 unfold idsU
 rw [List.length_map,List.length_range]
theorem qDi(n:Nat)(p:Int->Bool):((idsU n).filter p).length<=n:=Nat.le_trans (List.length_filter_le _ _) (Nat.le_of_eq (qHV n))
theorem sieve (n:Nat) (p:Int->Bool) (L:Nat->List Int->Int->Option (List Int)) (he:∀ acc,Ev (fun k=>L k acc (n:Int)) acc)
  (hs:∀ i,i<n->∀ acc:List Int,acc.length<=i->∀ v,Ev (fun k=>L k (if p (i:Int)=true then acc++[(i:Int)] else acc) ((i+1:Nat):Int)) v->Ev (fun k=>L k acc (i:Int)) v):Ev (fun k=>L k [] 0) ((idsU n).filter p):=by
 have go:∀ d i,i+d=n->Ev (fun k=>L k ((idsU i).filter p) (i:Int)) ((idsU n).filter p):=by
  intro d
  induction d with
  | zero =>
   intro i hi
   obtain rfl:i=n:=by omega
   exact he _
  | succ d ih =>
   intro i hi
   refine hs i (by omega) _ (qDi i p) _ ?_
   have ih:=ih (i+1) (by omega)
   rw [qEj,List.filter_append]at ih
   by_cases c:p (i:Int)=true
   ·rw [if_pos c]
    rwa [List.filter_cons_of_pos c]at ih
   ·rw [if_neg c]
    rwa [List.filter_cons_of_neg c,List.filter_nil,List.append_nil]at ih
 exact go n 0 (Nat.zero_add _)
def restB(m:qD)(c:List Bool)(g:Int):Bool:=nth false c g&&(((nth qC.z m.f6 g).f1.length:Int) == 0)
def SoundC(m:qD)(c:List Bool):Prop:=May m/\(c.length:Int)=m.f3
instance (m:qD) (c:List Bool):Decidable (SoundC m c):=inferInstanceAs (Decidable (_/\_))
def turnsB(m x:qD)(g:Int):Bool := !(decide (rawM m g=rawM x g)&&decide (actM m g=actM x g))
def touchL(m x:qD):List Int:=(idsU m.f3.toNat).filter (turnsB m x)
def restL(m:qD)(c:List Bool):List Int:=(idsU m.f3.toNat).filter (restB m c)
def zonesB(f2:Int)(x:qD)(g:Int):Bool:=decide (f2<=((actM x g).length:Int))&&Topo.apartR x.f4 [] (actM x g)
def gateL(m:qD)(d:qF)(c:List Bool)(most:Int):Int :=
 if SoundC m c/\1<=most/\most<=8 then
  (if (qKb m d).2=0 then
   (if touchL m (qKb m d).1=[] then 0
    else if (touchL m (qKb m d).1).any (fun g => !restB m c g)=true\/m.f3 - ((restL m c).length:Int)+((touchL m (qKb m d).1).length:Int)>most then 11
    else if (touchL m (qKb m d).1).all (zonesB m.f2 (qKb m d).1)=true then 0 else 12)
  else (qKb m d).2)
 else 1
theorem groupsN{m:qD}(h:May m):∃ N:Nat,m.f3=(N:Int)/\N<=8/\m.f3.toNat=N:=⟨m.f3.toNat,by have:=h.1.2.2.2.1; omega,by have:=h.1.2.2.2.1; omega,rfl⟩
theorem qGN{m:qD}(g:Int):(actM m g).length<=3:=by
 unfold actM
 split
 ·rename_i h
  have h2:=(qGI h.1 g).2.1
  have h1:=h.1.1.2.1
  omega
 ·exact Nat.zero_le _
theorem qGO{m:qD}(g:Int):(rawM m g).length<=3:=by
 unfold rawM
 split
 ·rename_i h
  have h2:=(qFM h.1 g).2.1
  have h1:=h.1.1.2.1
  omega
 ·exact Nat.zero_le _
theorem qHW{m x:qD}{N:Nat}(hN:m.f3.toNat=N):∀ g ∈ touchL m x,0<=g/\g<(N:Int):=fun g hg=>by
 unfold touchL at hg
 rw [hN]at hg
 exact qDU.1 (List.mem_filter.1 hg).1
theorem qKS{m:qD}(h:May m){c:List Bool}(hc:(c.length:Int)=m.f3){g:Int}(hg:0<=g/\g<m.f3):(if 0<=g/\g<(c.length:Int) then (if (nth false c g)=true then (if 0<=g/\g<(m.f6.length:Int) then (some ((((nth qC.z m.f6 g).f1).length:Int) == 0)) else (none)) else (some false)) else (none))=some (restB m c g):=by
 have h6:=h.2.2.1
 unfold restB
 rw [if_pos ⟨hg.1,by omega⟩,if_pos (⟨hg.1,by omega⟩:0<=g/\g<(m.f6.length:Int))]
 by_cases q:nth false c g=true
 ·rw [if_pos q,q]
  rfl
 ·rw [if_neg q,eq_false_of_ne_true q]
  rfl
theorem gsound(m:qD)(hm:Small m)(c:List Bool):Ev (fun k=>qBn.f k m c) (decide (SoundC m c)):=by
 unfold qBn.f
 refine .b (check m hm) ?_
 by_cases h:May m
 ·rw [dT h]
  refine .t rfl (.cv ?_)
  rw [Bool.eq_iff_iff,beq_iff_eq,decide_eq_true_eq]
  exact ⟨fun e=>⟨h,e⟩,fun e=>e.2⟩
 ·rw [dF h]
  refine .n (by decide) (.cv ?_)
  rw [dF (fun e:SoundC m c=>h e.1)]
theorem grest{m:qD}(h:May m){c:List Bool}(hc:(c.length:Int)=m.f3){g:Int}(hg:0<=g/\g<m.f3):qBw.f m c g=some (restB m c g):=by
 unfold qBw.f
 exact qKS h hc hg
theorem grests(m:qD)(hm:Small m)(c:List Bool):Ev (fun k=>qBS.f k m c) (if SoundC m c then restL m c else []):=by
 unfold qBS.f
 refine .b (gsound m hm c) ?_
 by_cases h:SoundC m c
 ·rw [dT h,if_pos h]
  obtain ⟨N,e3,h8,eN⟩:=groupsN h.1
  refine .t rfl ?_
  unfold restL
  rw [eN]
  refine sieve N (restB m c) (fun k acc x=>qBS.l20 k m c acc x) (fun acc=>.s (qBS.l20_s · _ _ _ _) (.n (by omega) (.c _))) fun i hi acc ha v hv=>.s (qBS.l20_s · _ _ _ _) (.t (by omega) (.b0 (grest h.1 h.2 ⟨by omega,by omega⟩) ?_))
  rw [w64n i (by omega)]
  refine .i (fun q=>?_) fun q=>?_
  ·rw [if_pos q]at hv
   exact .t (by omega) hv
  ·rw [if_neg q]at hv
   exact hv
 ·rw [dF h,if_neg h]
  exact .n (by decide) (.c _)
theorem gtouched(m x:qD)(h:May m)(hm:Small m)(hx:Small x):Ev (fun k=>qAl.f k m x) (touchL m x):=by
 obtain ⟨N,e3,h8,eN⟩:=groupsN h
 unfold qAl.f touchL
 rw [eN]
 refine sieve N (turnsB m x) (fun k acc y=>qAl.l15 k m x acc y) (fun acc=>.s (qAl.l15_s · _ _ _ _) (.n (by omega) (.c _))) fun i hi acc ha v hv=>?_
 have j:∀ b,turnsB m x (i:Int)=b->Ev (fun k=>qAl.j66 k m x acc (i:Int) b) v:=by
  intro b hb
  rw [hb]at hv
  refine .s (qAl.j66_s · _ _ _ _ _) ?_
  rw [w64n i (by omega)]
  cases b with
  | true=>exact .t rfl (.t (by omega) hv)
  | false=>exact .n (by decide) hv
 have r1:=qGO (m:=m) (i:Int)
 have r2:=qGN (m:=m) (i:Int)
 refine .s (qAl.l15_s · _ _ _ _) (.t (by omega) (.b (mRaw m hm _) (.b (mRaw x hx _) (.b (equal _ _ (by omega)) (.i (fun q=>.b (mActing m hm _) (.b (mActing x hx _) (.b (equal _ _ (by omega)) (j _ ?_)))) fun q=>j _ ?_)))))
 ·unfold turnsB
  rw [q,Bool.true_and]
 ·unfold turnsB
  rw [eq_false_of_ne_true q]
  rfl
theorem qGP{m:qD}(h:May m){c:List Bool}(hc:(c.length:Int)=m.f3)(l:List Int)(hl:l.length<1000000)(hg:∀ g ∈ l,0<=g/\g<m.f3):Ev (fun k=>qAK.f k l m c) (l.any fun g => !restB m c g):=by
 obtain ⟨x,hx,hm⟩:=anyG 0 l (fun g => !restB m c g) (fun _ g=>qCO.f g m c) (fun g hgl=>by
  unfold qCO.f
  exact .b0 (grest h hc (hg g hgl)) (.c _)) hl (fun k x=>qj.l5 k l m c x) (fun k x=>qj.l5_s k l m c x) l.length 0 (by omega)
 unfold qAK.f qj.f
 exact .b hx (.cv hm)
theorem gmay(m:qD)(hm:Small m)(d:qF)(c:List Bool)(most:Int){b:Nat}(hb:b<=90000)(hP:Pasts b m):Ev (fun k=>qAn.f k m d c most) (gateL m d c most):=by
 have no:¬ (SoundC m c/\1<=most/\most<=8)->Ev (fun k=>qAn.j16 k m d c most true) (gateL m d c most):=by
  intro q
  unfold gateL
  rw [if_neg q]
  exact .s (qAn.j16_s · _ _ _ _ _) (.t rfl (.c _))
 unfold qAn.f
 refine .b (gsound m hm c) ?_
 by_cases h:SoundC m c
 rotate_left
 ·rw [dF h]
  exact .n (by decide) (no fun q=>h q.1)
 rw [dT h]
 refine .t rfl (.i (fun q=>no (by omega)) fun q=>?_)
 by_cases q8:most>8
 ·rw [dT q8]
  exact no (by omega)
 rw [dF q8]
 refine .s (qAn.j16_s · _ _ _ _ _) (.n (by decide) (.b (apply m hm d (by omega) hP) ?_))
 unfold gateL
 rw [if_pos h.1,if_pos ⟨h,by omega,by omega⟩]
 by_cases e:(qKb m d).2=0
 rotate_left
 ·rw [if_neg e]
  exact .n e (.c _)
 have hx:=qDC h.1 d
 have hsx:=hx.small (by omega) (qDS hP d)
 have hf2:(qKb m d).1.f2=m.f2:=by rw [(qEQ e).2]
 obtain ⟨N,e3,h8,eN⟩:=groupsN h.1
 have hlt:=qHW (x:=(qKb m d).1) eN
 have hlen:(touchL m (qKb m d).1).length<=8:=Nat.le_trans (by unfold touchL; rw [eN]; exact qDi _ _) h8
 have hr:(restL m c).length<=N:=by unfold restL; rw [eN]; exact qDi _ _
 rw [if_pos e]
 refine .t e (.b (gtouched m _ h.1 hm hsx) ?_)
 generalize touchL m (qKb m d).1=l at hlt hlen ⊢
 by_cases hl:l=[]
 ·rw [if_pos hl,hl]
  exact .t rfl (.c _)
 rw [if_neg hl]
 have loop:∀(D i:Nat),i+D=l.length->Ev (fun k=>qAn.l88 k (qKb m d) l (i:Int)) (if (l.drop i).all (zonesB m.f2 (qKb m d).1)=true then 0 else 12):=by
  intro D
  induction D with
  | zero =>
   intro i hi
   refine .s (qAn.l88_s · _ _ _) (.n (by omega) (.cv ?_))
   rw [List.drop_eq_nil_of_le (by omega)]
   rfl
  | succ D ih =>
   intro i hi
   have h1:i<l.length:=by omega
   have ih:=ih (i+1) (by omega)
   have a3:=qGN (m:=(qKb m d).1) l[i]
   rw [List.drop_eq_getElem_cons h1,List.all_cons]
   have j:∀ b,zonesB m.f2 (qKb m d).1 l[i] = !b->Ev (fun k=>qAn.j118 k (qKb m d) l (i:Int) b) (if (zonesB m.f2 (qKb m d).1 l[i]&&(l.drop (i+1)).all (zonesB m.f2 (qKb m d).1))=true then 0 else 12):=by
    intro b hb
    rw [hb]
    refine .s (qAn.j118_s · _ _ _ _) ?_
    rw [w64n i (by omega)]
    cases b with
    | true=>exact .t rfl (.c _)
    | false=>exact .n (by decide) ih
   refine .s (qAn.l88_s · _ _ _) (.t (by omega) (.t (by omega) ?_))
   rw [nth_get _ _ _ h1]
   refine .b (mActing _ hsx _) (.i (fun q=>j true ?_) fun q=>.b (Topo.apart _ _ (by have:=hsx.h4; omega) (by omega)) (j _ ?_))
   ·unfold zonesB
    rw [dF (by omega)]
    rfl
   ·unfold zonesB
    rw [dT (by omega),dT hx.1.2.2.2.2,Bool.not_not]
 refine .n (fun q=>hl (List.length_eq_zero_iff.1 (by omega))) (.b (qGP h.1 h.2 l (by omega) fun g hg=>by have:=hlt g hg; omega) (.i (fun q=>?_) fun q=>.b (grests m hm c) ?_))
 ·rw [if_pos (.inl q)]
  exact .s (qAn.j77_s · _ _ _) (.t rfl (.c _))
 ·rw [if_pos h]
  have ew:w64 ((w64 (m.f3 - ((restL m c).length:Int)))+(l.length:Int))=m.f3 - ((restL m c).length:Int)+(l.length:Int):=by rw [qCk (n:=m.f3 - ((restL m c).length:Int)) (by omega) (by omega),qCk (by omega) (by omega)]
  rw [ew]
  refine .s (qAn.j77_s · _ _ _) ?_
  by_cases q2:m.f3 - ((restL m c).length:Int)+(l.length:Int)>most
  ·rw [dT q2,if_pos (.inr q2)]
   exact .t rfl (.c _)
  ·rw [dF q2,if_neg (fun w=>w.elim q q2)]
   exact .n (by decide) (loop l.length 0 (Nat.zero_add _))
def WorkOk(x:qAm):Prop:=(x.f0.length:Int)<=100/\(0<=x.f1/\x.f1<=(x.f0.length:Int))/\1<=x.f2/\x.f2<=8
instance (x:qAm):Decidable (WorkOk x):=inferInstanceAs (Decidable (_/\_))
def noD:qF:=⟨0,0,0,0,0,0,[]⟩
def stepAt(m:qD)(c:List Bool)(most:Int):Nat->List qF->Int × qF × Int
 | i,[]=>((i:Int),noD,5)
 | i,d :: r=>if (qKb m d).2=7\/(qKb m d).2=5 then stepAt m c most (i+1) r else if gateL m d c most=0 then ((i:Int),d,0) else ((i:Int),noD,gateL m d c most)
theorem gcheck(x:qAm):Ev (fun k=>qBQ.f k x) (eno (decide (WorkOk x))):=by
 have j:∀ b:Bool,(b=true↔¬ WorkOk x)->Ev (fun k=>qBQ.j11 k b) (eno (decide (WorkOk x))):=by
  intro b hb
  refine .s (qBQ.j11_s · _) (.i (fun q=>.cv ?_) fun q=>.cv ?_)
  ·rw [dF (hb.1 q)]
   rfl
  ·rw [dT (Classical.byContradiction fun e=>q (hb.2 e))]
   rfl
 unfold qBQ.f
 refine .i (fun q=>j true ⟨fun _ w=>absurd w.1 (by omega),fun _=>rfl⟩) fun q1=>.i (fun q=>j true ⟨fun _ w=>absurd w.2.1.1 (by omega),fun _=>rfl⟩) fun q2=>.i (fun q=>j true ⟨fun _ w=>absurd w.2.1.2 (by omega),fun _=>rfl⟩) fun q3=>.i (fun q=>j true ⟨fun _ w=>absurd w.2.2.1 (by omega),fun _=>rfl⟩) fun q4=>j _ ?_
 rw [decide_eq_true_eq]
 exact ⟨fun q w=>absurd w.2.2.2 (by omega),fun w=>Classical.byContradiction fun q=>w ⟨by omega,by omega,by omega,by omega⟩⟩
theorem gown(x:qAm)(hl:x.f0.length<=1000)(h6:∀ d ∈ x.f0,d.f6.length<=20):Ev (fun k=>qBj.f k x) x:=by
 have go:∀(d i:Nat),i+d=x.f0.length->Ev (fun k=>qBj.l21 k x x.f0 x.f0 (i:Int)) x:=by
  intro d
  induction d with
  | zero =>
   intro i hi
   exact .s (qBj.l21_s · _ _ _ _) (.n (by omega) (.c _))
  | succ d ih =>
   intro i hi
   have h1:i<x.f0.length:=by omega
   have:=h6 _ (gM h1)
   refine .s (qBj.l21_s · _ _ _ _) (.t (by omega) (.t (by omega) ?_))
   rw [nth_get _ _ _ h1,w64n i (by omega)]
   refine .b0 (clone _ (by omega)) ?_
   rw [tN,show (⟨x.f0[i].f0,x.f0[i].f1,x.f0[i].f2,x.f0[i].f3,x.f0[i].f4,x.f0[i].f5,x.f0[i].f6⟩:qF)=x.f0[i] from rfl,List.set_getElem_self]
   exact ih (i+1) (by omega)
 unfold qBj.f
 have e:qAf.f x.f0=some x.f0:=by
  unfold qAf.f
  rw [if_pos (by rw [List.length_nil]; omega)]
  rfl
 exact .b0 e (go x.f0.length 0 (Nat.zero_add _))
theorem gpassed{m:qD}(h:May m)(hm:Small m)(d:qF){b:Nat}(hb:b<=90000)(hP:Pasts b m):Ev (fun k=>qCF.f k m d) (decide ((qKb m d).2=7\/(qKb m d).2=5)):=by
 have ha:=apply m hm d (by omega) hP
 rw [if_pos h]at ha
 unfold qCF.f
 refine .b ha (.i (fun q=>.cv (dT (.inl q)).symm) fun q=>.cv ?_)
 rw [Bool.eq_iff_iff,beq_iff_eq,decide_eq_true_eq]
 exact ⟨.inr,fun e=>e.resolve_left q⟩
theorem gnext{x:qAm}(hx:WorkOk x)(h6:∀ d ∈ x.f0,d.f6.length<=20){m:qD}{c:List Bool}(hs:SoundC m c)(hm:Small m){b:Nat}(hb:b<=90000)(hP:Pasts b m){a:Nat}(ha:(a:Int)=x.f1):
  Ev (fun k=>qAw.f k x m c) ((⟨x.f0,(stepAt m c x.f2 a (x.f0.drop a)).1,x.f2⟩,(stepAt m c x.f2 a (x.f0.drop a)).2.1,(stepAt m c x.f2 a (x.f0.drop a)).2.2):qAm × qF × Int):=by
 have hl:=hx.1
 have go:∀(d i:Nat),i+d=x.f0.length->Ev (fun k=>qAw.l43 k m c x (i:Int)) ((⟨x.f0,(stepAt m c x.f2 i (x.f0.drop i)).1,x.f2⟩,(stepAt m c x.f2 i (x.f0.drop i)).2.1,(stepAt m c x.f2 i (x.f0.drop i)).2.2):qAm × qF × Int):=by
  intro d
  induction d with
  | zero =>
   intro i hi
   rw [List.drop_eq_nil_of_le (by omega)]
   exact .s (qAw.l43_s · _ _ _ _) (.n (by omega) (.s (qAw.j63_s · _ _ _ _ _) (.n nF (.t (by omega) (.c _)))))
  | succ d ih =>
   intro i hi
   have h1:i<x.f0.length:=by omega
   have h20:=h6 _ (gM h1)
   refine .s (qAw.l43_s · _ _ _ _) (.t (by omega) (.t (by omega) ?_))
   rw [nth_get _ _ _ h1,List.drop_eq_getElem_cons h1,stepAt]
   refine .b (gpassed hs.1 hm _ hb hP) (.s (qAw.j63_s · _ _ _ _ _) (.i (fun q=>?_) fun q=>.n (by omega) (.t (by omega) ?_)))
   ·rw [if_pos (oT q),w64n i (by omega)]
    exact ih (i+1) (by omega)
   ·rw [if_neg fun e=>q (dT e),nth_get _ _ _ h1]
    refine .b (gmay m hm _ c x.f2 hb hP) (.i (fun q0=>?_) fun q0=>?_)
    ·rw [if_pos q0]
     exact .b0 (clone _ (by omega)) (.c _)
    ·rw [if_neg q0]
     exact .c _
 unfold qAw.f
 have hc:=gcheck x
 rw [dT hx]at hc
 have hso:=gsound m hm c
 rw [dT hs]at hso
 refine .b hc (.t rfl (.b hso (.s (qAw.j20_s · _ _ _ _) (.n (by decide) (.b (gown x (by omega) h6) ?_)))))
 have h21:=hx.2.1
 rw [← ha]
 exact go (x.f0.length - a) a (by omega)
theorem awake(k:Nat):qAW.f (k+10000)=some true:=by kernel_rfl
theorem awakes:Ev (fun k=>qAW.f k) true:=⟨10000,fun k hk=>by
 obtain ⟨k,rfl⟩:∃ m,k=m+10000:=⟨k - 10000,by omega⟩
 exact awake k⟩
theorem qEk{l:List qA}(h:Topo.Nodes l)(g:Int):∀(zs met:List Int),(∀ z ∈ zs,z ∈ Place.zonesOf l g)->zs.Nodup->(∀ z ∈ zs,¬ z ∈ met)->Topo.apartR l met (zs.map (Place.pk l g))=true
 | [],_,_,_,_=>rfl
 | z :: zs,met,hz,hn,hm=>by
  obtain ⟨n,hn1,q1,_,q2,_⟩:=Place.zone_pk h g (hz z List.mem_cons_self)
  obtain ⟨n1,n2⟩:=List.nodup_cons.1 hn
  rw [List.map_cons,Topo.apartR,q2,Place.find_node h hn1]
  dsimp only
  rw [q1,dF (hm z List.mem_cons_self),Bool.not_false,Bool.true_and]
  refine qEk h g zs (met++[z]) (fun y hy=>hz y (List.mem_cons_of_mem _ hy)) n2 fun y hy hc=>?_
  rcases List.mem_append.1 hc with hc | hc
  ·exact hm y (List.mem_cons_of_mem _ hy) hc
  ·rw [List.mem_singleton.1 hc]at hy
   exact n1 hy
theorem qGQ{l:List qA}(h:Topo.Nodes l)(g s:Int):Topo.apartR l [] (Place.ofCommon l g s)=true:=by
 unfold Place.ofCommon
 split
 ·exact qEk h g _ [] (fun z hz=>List.mem_of_mem_take hz) ((Place.zones_nodup h g).sublist (List.take_sublist _ _)) fun _ _ hc=>nomatch hc
 ·rfl
theorem qFO(l:List qA)(g s:Int)(hs:1<=s):((Place.ofCommon l g s).length:Int)<=s:=by
 unfold Place.ofCommon
 split
 ·rw [List.length_map,List.length_take]
  omega
 ·show (0:Int)<=s
  omega
theorem qGR{l:List qA}{g s id:Int}(h:id ∈ Place.ofCommon l g s):∃ n ∈ l,n.f0=id/\0<Topo.weight n:=by
 unfold Place.ofCommon at h
 split at h
 ·rename_i c
  obtain ⟨z,hz,rfl⟩:=List.mem_map.1 h
  obtain ⟨n,hn,_,q,e,_⟩:=Place.zone_pk c.1 g (List.mem_of_mem_take hz)
  exact ⟨n,hn,e.symm,q⟩
 ·cases h
def strip(n:qA):qA:=⟨n.f0,n.f1,n.f2,n.f3,false,n.f5⟩
def Looks(a b:List qA):Prop:=a.map strip=b.map strip
theorem qFP{a b:List qA}(h:Looks a b)(id:Int):(a.find? fun x=>decide (x.f0=id)).map strip=(b.find? fun x=>decide (x.f0=id)).map strip:=by
 have h2:=congrArg (List.find? fun x=>decide (x.f0=id)) h
 rw [List.find?_map,List.find?_map]at h2
 exact h2
theorem qFQ{a b:List qA}(h:Looks a b){id:Int}{n:qA}(hb:b.find? (fun x=>decide (x.f0=id))=some n):∃ n',a.find? (fun x=>decide (x.f0=id))=some n'/\strip n'=strip n:=by
 have e:=qFP h id
 rw [hb]at e
 cases ha:a.find? (fun x=>decide (x.f0=id)) with
 | none=>rw [ha]at e; cases e
 | some n' =>
  rw [ha]at e
  exact ⟨n',rfl,Option.some.inj e⟩
theorem qEG{a b:List qA}(h:Looks a b){id:Int}(hb:b.find? (fun x=>decide (x.f0=id))=none):a.find? (fun x=>decide (x.f0=id))=none:=by
 have e:=qFP h id
 rw [hb]at e
 cases ha:a.find? (fun x=>decide (x.f0=id)) with
 | none=>rfl
 | some n'=>rw [ha]at e; cases e
theorem qDj{a b:qA}(h:strip a=strip b):a.f0=b.f0/\a.f1=b.f1/\a.f2=b.f2/\a.f3=b.f3/\a.f5=b.f5:=by
 unfold strip at h
 injection h with h0 h1 h2 h3 _ h5
 exact ⟨h0,h1,h2,h3,h5⟩
theorem qEH:∀(l:List qA)(p:Int),Topo.rise p (l.map strip)=Topo.rise p l
 | [],_=>rfl
 | n :: l,p=>by
  rw [List.map_cons,Topo.rise,Topo.rise]
  show (decide (Topo.okN n/\p<n.f0)&&Topo.rise n.f0 (l.map strip))=_
  rw [qEH l]
theorem qEl{a b:List qA}(h:Looks a b)(hb:Topo.Nodes b):Topo.Nodes a:=by
 have h1:=congrArg List.length h
 rw [List.length_map,List.length_map]at h1
 have h2:=congrArg (Topo.rise 0) h
 rw [qEH,qEH]at h2
 exact ⟨by rw [h1]; exact hb.1,h2.trans hb.2⟩
theorem qEI(is:qA->Bool)(of:qA->Int)(h1:∀ n,is (strip n)=is n)(h2:∀ n,of (strip n)=of n)(id:Int):∀ l:List qA,Topo.wSum is of (l.map strip) id=Topo.wSum is of l id
 | []=>rfl
 | n :: l=>by
  rw [List.map_cons,qCt,qCt,qEI is of h1 h2 id l,h1,h2]
  rfl
theorem qGS{a b:List qA}(h:Looks a b)(hb:Topo.Nodes b)(g s:Int):Place.ofCommon a g s=Place.ofCommon b g s:=by
 refine qDT (qEl h hb) hb (fun is of q id=>?_) g s
 have hq:(∀ n,is (strip n)=is n)/\∀ n,of (strip n)=of n:=by
  rcases q with ⟨rfl,rfl⟩ | ⟨z,rfl,rfl⟩ | ⟨z,r,rfl,rfl⟩ <;> exact ⟨fun _=>rfl,fun _=>rfl⟩
 rw [← qEI is of hq.1 hq.2 id a,← qEI is of hq.1 hq.2 id b,h]
theorem qGu{a b:List qA}(h:Looks a b)(met ids:List Int)(hb:Topo.apartR b met ids=true):Topo.apartR a met ids=true :=
 qDK ids met (fun id _ n hn=>by
  obtain ⟨n',h1,h2⟩:=qFQ h hn
  exact ⟨n',h1,(qDj h2).2.1⟩) hb
theorem qEJ(n:qA):∀ l:List qA,(putN n l).map strip=putN (strip n) (l.map strip)
 | []=>rfl
 | x :: r=>by
  rw [List.map_cons,putN,putN]
  by_cases c:x.f0<n.f0
  ·rw [if_pos c,if_pos (show (strip x).f0<(strip n).f0 from c),List.map_cons,qEJ n r]
  ·rw [if_neg c,if_neg (show ¬ (strip x).f0<(strip n).f0 from c)]
   by_cases c2:x.f0=n.f0
   ·rw [if_pos c2,if_pos (show (strip x).f0=(strip n).f0 from c2),List.map_cons]
   ·rw [if_neg c2,if_neg (show ¬ (strip x).f0=(strip n).f0 from c2),List.map_cons,List.map_cons]
theorem qDx{a b:List qA}(h:Looks a b){n n':qA}(hn:strip n'=strip n):Looks (putN n' a) (putN n b):=by
 unfold Looks
 rw [qEJ,qEJ,hn,h]
theorem qEm:∀(l:List qA),l.Pairwise (fun x y=>x.f0<y.f0)->∀ {n:qA},n ∈ l->putN n l=l
 | [],_,_,h=>nomatch h
 | x :: r,hp,n,h=>by
  obtain ⟨h1,h2⟩:=List.pairwise_cons.1 hp
  rw [putN]
  rcases List.mem_cons.1 h with rfl | h
  ·rw [if_neg (Int.lt_irrefl _),if_pos rfl]
  ·rw [if_pos (h1 n h),qEm r h2 h]
theorem qJc{a:List qA}(hp:a.Pairwise fun x y=>x.f0<y.f0){n n':qA}(hm:n ∈ a)(hn:strip n'=strip n):Looks (putN n' a) a:=by
 have h1:Looks (putN n' a) (putN n a):=qDx (show Looks a a from rfl) hn
 rw [qEm a hp hm]at h1
 exact h1
theorem qHk{a b:List qA}(h:Looks a b)(id:Int):Looks (dropN id a) (dropN id b):=by
 have e:∀ l:List qA,(dropN id l).map strip=dropN id (l.map strip):=by
  intro l
  unfold dropN
  rw [List.filter_map]
  rfl
 unfold Looks
 rw [e,e,h]
structure At (m:qD) (L:List qA) (T:Int->List Int) (w:qD):Prop where
 may:May w
 f1:w.f1=m.f1
 f2:w.f2=m.f2
 f3:w.f3=m.f3
 nodes:Looks w.f4 L
 temps:∀ g,qKZ w g=T g
def rawT(m:qD)(L:List qA)(T:Int->List Int)(g:Int):List Int:=if T g=[] then Place.ofCommon L g m.f1 else T g
theorem At.raw{m w:qD}{L:List qA}{T:Int->List Int}(h:At m L T w)(hL:Topo.Nodes L)(g:Int):rawL w g=rawT m L T g:=by
 unfold rawL rawT
 rw [h.temps,h.f1,qGS h.nodes hL]
theorem At.found{m w:qD}{L:List qA}{T:Int->List Int}(h:At m L T w){id:Int}{n:qA}(hn:L.find? (fun x=>decide (x.f0=id))=some n):∃ n',(w.f4.find? (fun x=>decide (x.f0=id))=some n'/\n' ∈ w.f4)/\n'.f0=id/\strip n'=strip n:=by
 obtain ⟨n',h1,h2⟩:=qFQ h.nodes hn
 have q:=qCo h1
 exact ⟨n',⟨h1,q.1⟩,q.2,h2⟩
theorem May.self{m:qD}(h:May m):At m m.f4 (qKZ m) m:=⟨h,rfl,rfl,rfl,rfl,fun _=>rfl⟩
def dPin(g:Int)(ns:List Int):qF:=⟨8,0,0,0,0,g,ns⟩
def dWeigh(id w:Int):qF:=⟨2,id,0,0,w,0,[]⟩
def dOut(id:Int):qF:=⟨5,id,0,0,0,0,[]⟩
def dGone(id:Int):qF:=⟨7,id,0,0,0,0,[]⟩
def dAdd(id z r:Int):qF:=⟨1,id,z,r,0,0,[]⟩
structure Good (m:qD) (L:List qA) (T:Int->List Int) (d:qF) (L':List qA) (T':Int->List Int):Prop where
 does:∀ w,At m L T w->w.f0<2147483647->(qKb w d).2=0/\At m L' T' (qKb w d).1\/d.f0=7/\(qKb w d).2=11
 again:∀ w,At m L' T' w->w.f0<2147483647->(qKb w d).2=7\/(qKb w d).2=5
 moves:∃ g0,∀ g,0<=g->g<m.f3->g≠g0->rawT m L T g=[]\/rawT m L' T' g=rawT m L T g
 len:d.f6.length<=3
inductive Chain (m:qD):List qA->(Int->List Int)->List qF->List qA->(Int->List Int)->Prop
 | nil (L:List qA) (T:Int->List Int):Chain m L T [] L T
 | cons {L L' L'':List qA} {T T' T'':Int->List Int} {d:qF} {l:List qF} (hL:Topo.Nodes L) (hL':Topo.Nodes L') (h:Good m L T d L' T') (t:Chain m L' T' l L'' T''):Chain m L T (d :: l) L'' T''
theorem Chain.append{m:qD}{L L' L'':List qA}{T T' T'':Int->List Int}{a b:List qF}(h:Chain m L T a L' T')(h2:Chain m L' T' b L'' T''):Chain m L T (a++b) L'' T'':=by
 induction h with
 | nil=>exact h2
 | cons hL hL' h t ih=>exact .cons hL hL' h (ih h2)
theorem qDD{m:qD}{d:qF}(hk:1<=d.f0/\d.f0<=10)(hb:bareD d)(h0:m.f0<2147483647):qKb m d=if (qKX m d).2=0 then (⟨m.f0+1,m.f1,m.f2,m.f3,(qKX m d).1.f4,(qKX m d).1.f5,qKY m (qKX m d).1⟩,0) else (m,(qKX m d).2):=by
 unfold qKb
 rw [if_pos ⟨hk,hb⟩,if_neg (by omega)]
theorem qIw{a b:qD}(h:a.f5=b.f5)(g:Int):qKZ a g=qKZ b g:=by
 unfold qKZ
 rw [h]
theorem qHX{m:qD}(hm:m.f1<=3){L:List qA}{T:Int->List Int}{g:Int}{ns:List Int}(hg:0<=g/\g<m.f3)(hn:(ns.length:Int)<=m.f1)(ha:Topo.apartR L [] ns=true)(hT:T g≠ns):Good m L T (dPin g ns) L (fun x=>if x=g then ns else T x):=by
 have hb:bareD (dPin g ns):=⟨rfl,rfl,rfl,rfl⟩
 have e8:∀ w,qKX w (dPin g ns)=pinL w (dPin g ns):=fun w=>rfl
 refine ⟨fun w h h0=>.inl ?_,fun w h h0=>.inl ?_,⟨g,fun x _ _ hx=>.inr ?_⟩,by show ns.length<=3; omega⟩
 ·have ep:pinL w (dPin g ns)=(withT w (pinT g ns w.f5),0):=by
   unfold pinL
   rw [if_pos ⟨hg.1,by rw [h.f3]; exact hg.2,by rw [h.f1]; exact hn⟩,if_neg (by rw [show (dPin g ns).f5=g from rfl,h.temps]; exact hT),if_pos (show Topo.apartR w.f4 [] (dPin g ns).f6=true from qGu h.nodes [] ns ha)]
   rfl
  have ht:(qKX w (dPin g ns)).2=0:=by rw [e8,ep]
  have ea:=qDD (m:=w) (d:=dPin g ns) (by show (1:Int)<=8/\(8:Int)<=10; decide) hb h0
  rw [if_pos ht]at ea
  have hmay:=qDC h.may (dPin g ns)
  rw [ea]at hmay ⊢
  refine ⟨rfl,hmay,h.f1,h.f2,h.f3,?_,fun x=>?_⟩
  ·show Looks (qKX w (dPin g ns)).1.f4 L
   rw [e8,ep]
   exact h.nodes
  ·rw [qJb (d:=dPin g ns) h.may (by show (qKX w (dPin g ns)).1.f5=_; rw [e8,ep]; rfl) x,h.temps]
   rfl
 ·have ep:pinL w (dPin g ns)=(w,7):=by
   unfold pinL
   rw [if_pos ⟨hg.1,by rw [h.f3]; exact hg.2,by rw [h.f1]; exact hn⟩,if_pos]
   show qKZ w g=ns
   rw [h.temps,if_pos rfl]
  rw [qDD (m:=w) (d:=dPin g ns) (by show (1:Int)<=8/\(8:Int)<=10; decide) hb h0,e8,ep]
  rfl
 ·have e:(fun x=>if x=g then ns else T x) x=T x:=if_neg hx
  unfold rawT
  simp only [e]
theorem qFR{m:qD}(hm:1<=m.f1/\m.f1<=3){L:List qA}(hL:Topo.Nodes L)(R:Int->List Int):∀(ps:List Int)(T:Int->List Int),ps.Nodup->(∀ g ∈ ps,(0<=g/\g<m.f3)/\T g=[]/\R g=Place.ofCommon L g m.f1/\R g≠[])->Chain m L T (ps.map fun g=>dPin g (R g)) L (fun x=>if x ∈ ps then R x else T x)
 | [],T,_,_=>by
  have e:(fun x=>if x ∈ ([]:List Int) then R x else T x)=T:=by
   funext x
   rw [if_neg (fun h=>nomatch h)]
  rw [e]
  exact .nil L T
 | g :: ps,T,hn,h=>by
  obtain ⟨n1,n2⟩:=List.nodup_cons.1 hn
  obtain ⟨q1,q2,q3,q4⟩:=h g List.mem_cons_self
  rw [List.map_cons]
  refine .cons hL hL (qHX hm.2 q1 (by rw [q3]; exact qFO L g m.f1 hm.1) (by rw [q3]; exact qGQ hL g m.f1) (by rw [q2]; exact fun e=>q4 e.symm)) ?_
  have ih:=qFR hm hL R ps (fun x=>if x=g then R g else T x) n2 (fun x hx=>by
   obtain ⟨a,b,c⟩:=h x (List.mem_cons_of_mem _ hx)
   exact ⟨a,by show (if x=g then R g else T x)=[]; rw [if_neg (fun e=>n1 (by rw [← e]; exact hx))]; exact b,c⟩)
  have e:(fun x=>if x ∈ g :: ps then R x else T x)=(fun x=>if x ∈ ps then R x else if x=g then R g else T x):=by
   funext x
   by_cases c:x ∈ ps
   ·rw [if_pos c,if_pos (List.mem_cons_of_mem _ c)]
   ·rw [if_neg c]
    by_cases c2:x=g
    ·rw [if_pos c2,if_pos (by rw [c2]; exact List.mem_cons_self),c2]
    ·rw [if_neg c2,if_neg (fun hx=>by rcases List.mem_cons.1 hx with hx | hx; exact c2 hx; exact c hx)]
  rw [e]
  exact ih
theorem qEn{m:qD}(hm:1<=m.f1/\m.f1<=3){L:List qA}(hL:Topo.Nodes L):∀(gs:List Int)(T:Int->List Int),gs.Nodup->(∀ g ∈ gs,(0<=g/\g<m.f3)/\T g≠[])->Chain m L T (gs.map fun g=>dPin g []) L (fun x=>if x ∈ gs then [] else T x)
 | [],T,_,_=>by
  have e:(fun x=>if x ∈ ([]:List Int) then [] else T x)=T:=by
   funext x
   rw [if_neg (fun h=>nomatch h)]
  rw [e]
  exact .nil L T
 | g :: gs,T,hn,h=>by
  obtain ⟨n1,n2⟩:=List.nodup_cons.1 hn
  obtain ⟨q1,q2⟩:=h g List.mem_cons_self
  rw [List.map_cons]
  refine .cons hL hL (qHX hm.2 q1 (by show (0:Int)<=_; omega) rfl q2) ?_
  have ih:=qEn hm hL gs (fun x=>if x=g then [] else T x) n2 (fun x hx=>by
   obtain ⟨a,b⟩:=h x (List.mem_cons_of_mem _ hx)
   exact ⟨a,by show (if x=g then [] else T x)≠[]; rw [if_neg (fun e=>n1 (by rw [← e]; exact hx))]; exact b⟩)
  have e:(fun x=>if x ∈ g :: gs then [] else T x)=(fun x=>if x ∈ gs then [] else if x=g then [] else T x):=by
   funext x
   by_cases c:x ∈ gs
   ·rw [if_pos c,if_pos (List.mem_cons_of_mem _ c)]
   ·rw [if_neg c]
    by_cases c2:x=g
    ·rw [if_pos c2,if_pos (by rw [c2]; exact List.mem_cons_self)]
    ·rw [if_neg c2,if_neg (fun hx=>by rcases List.mem_cons.1 hx with hx | hx; exact c2 hx; exact c hx)]
  rw [e]
  exact ih
theorem qDd{l:List qA}(hp:l.Pairwise fun x y=>x.f0<y.f0){id:Int}(n:qA)(hn:n.f0=id):(putN n l).find? (fun x=>decide (x.f0=id))=some n:=by
 rw [qEO n id l hp,if_pos hn]
theorem qHl {m:qD} {L:List qA} (hL:Topo.Nodes L) {T:Int->List Int} {id wt:Int} {n:qA} (hn:L.find? (fun x=>decide (x.f0=id))=some n) (hw:0<=wt/\wt<=65536) (hne:n.f3≠wt)
  (hR:∀ g,0<=g->g<m.f3->rawT m L T g=[]\/rawT m (putN ⟨n.f0,n.f1,n.f2,wt,n.f4,n.f5⟩ L) T g=rawT m L T g):Good m L T (dWeigh id wt) (putN ⟨n.f0,n.f1,n.f2,wt,n.f4,n.f5⟩ L) T:=by
 have hb:bareD (dWeigh id wt):=⟨rfl,rfl,rfl,rfl⟩
 have e2:∀ w n',w.f4.find? (fun x=>decide (x.f0=id))=some n'->qKX w (dWeigh id wt)=if n'.f3=wt then (w,7) else (withN w (putN ⟨n'.f0,n'.f1,n'.f2,wt,n'.f4,n'.f5⟩ w.f4),0):=by
  intro w n' h
  show (match w.f4.find? (fun x=>decide (x.f0=id)) with
   | some n=>nodeL w n (dWeigh id wt)
   | none=>(w,5))=_
  rw [h]
  show (if 0<=wt/\wt<=65536 then (if n'.f3=wt then (w,7) else (withN w (putN ⟨n'.f0,n'.f1,n'.f2,wt,n'.f4,n'.f5⟩ w.f4),0)) else (w,1))=_
  rw [if_pos hw]
 have hid:=(qCo hn).2
 refine ⟨fun w h h0=>.inl ?_,fun w h h0=>.inl ?_,⟨-1,fun x a b _=>hR x a b⟩,Nat.zero_le _⟩
 ·obtain ⟨n',⟨h1,h2⟩,h3,h4⟩:=h.found hn
  have q:=qDj h4
  have et:=e2 w n' h1
  rw [if_neg (by rw [q.2.2.2.1]; exact hne)]at et
  have ea:=qDD (m:=w) (d:=dWeigh id wt) (by show (1:Int)<=2/\(2:Int)<=10; decide) hb h0
  rw [et,if_pos rfl]at ea
  have hmay:=qDC h.may (dWeigh id wt)
  rw [ea]at hmay ⊢
  refine ⟨rfl,hmay,h.f1,h.f2,h.f3,?_,fun x=>?_⟩
  ·exact qDx h.nodes (by unfold strip; rw [q.1,q.2.1,q.2.2.1,q.2.2.2.2])
  ·rw [← h.temps]
   rfl
 ·obtain ⟨n',⟨h1,h2⟩,h3,h4⟩:=h.found (id:=id) (qDd hL.up ⟨n.f0,n.f1,n.f2,wt,n.f4,n.f5⟩ hid)
  have q:=qDj h4
  have et:=e2 w n' h1
  rw [if_pos q.2.2.2.1]at et
  rw [qDD (m:=w) (d:=dWeigh id wt) (by show (1:Int)<=2/\(2:Int)<=10; decide) hb h0,et]
  rfl
theorem qEo{m:qD}{L L':List qA}(hc:∀ g,Place.ofCommon L' g m.f1=Place.ofCommon L g m.f1)(T:Int->List Int)(g:Int):rawT m L' T g=rawT m L T g:=by
 unfold rawT
 rw [hc]
theorem weightless{n:qA}(h:n.f3=0):Topo.weight n=0:=by
 unfold Topo.weight
 split
 ·exact h
 ·rfl
theorem qJd{m:qD}{L:List qA}(hL:Topo.Nodes L){T:Int->List Int}{id:Int}{n:qA}(hn:L.find? (fun x=>decide (x.f0=id))=some n)(h3:n.f3=0)(h5:n.f5=true):Topo.Nodes (putN ⟨n.f0,n.f1,n.f2,n.f3,n.f4,false⟩ L)/\Good m L T (dOut id) (putN ⟨n.f0,n.f1,n.f2,n.f3,n.f4,false⟩ L) T:=by
 have hb:bareD (dOut id):=⟨⟨rfl,rfl,rfl,rfl,rfl⟩,fun e=>absurd (show (5:Int)=9 from e) (by decide)⟩
 have e2:∀ w n',w.f4.find? (fun x=>decide (x.f0=id))=some n'->qKX w (dOut id)=if n'.f5=false then (w,7) else (withN w (putN ⟨n'.f0,n'.f1,n'.f2,n'.f3,n'.f4,false⟩ w.f4),0):=by
  intro w n' h
  show (match w.f4.find? (fun x=>decide (x.f0=id)) with
   | some n=>nodeL w n (dOut id)
   | none=>(w,5))=_
  rw [h]
  rfl
 have hm:=(qCo hn).1
 have hid:=(qCo hn).2
 have hN:Topo.Nodes (putN ⟨n.f0,n.f1,n.f2,n.f3,n.f4,false⟩ L):=qEg hL (hL.ok n hm) ⟨n,hm,rfl⟩
 have hc:∀ g,Place.ofCommon (putN ⟨n.f0,n.f1,n.f2,n.f3,n.f4,false⟩ L) g m.f1=Place.ofCommon L g m.f1:=fun g =>
  qDT hN hL (fun is of q i=>qHU is of ⟨n.f0,n.f1,n.f2,n.f3,n.f4,false⟩ L hL.up ⟨n,hm,rfl⟩ (fun y hy e=>by
   obtain rfl:y=n:=Place.node_uniq hL hy hm e
   have w1:=weightless h3
   have w2:Topo.weight ⟨y.f0,y.f1,y.f2,y.f3,y.f4,false⟩=0:=rfl
   rcases q with ⟨rfl,rfl⟩ | ⟨z,rfl,rfl⟩ | ⟨z,r,rfl,rfl⟩ <;> exact ⟨rfl,rfl,w1.trans w2.symm⟩) i) g m.f1
 refine ⟨hN,fun w h h0=>.inl ?_,fun w h h0=>.inl ?_,⟨-1,fun x _ _ _=>.inr (qEo hc T x)⟩,Nat.zero_le _⟩
 ·obtain ⟨n',⟨h1,h2⟩,h3,h4⟩:=h.found hn
  have q:=qDj h4
  have et:=e2 w n' h1
  rw [if_neg (by rw [q.2.2.2.2,h5]; decide)]at et
  have ea:=qDD (m:=w) (d:=dOut id) (by show (1:Int)<=5/\(5:Int)<=10; decide) hb h0
  rw [et,if_pos rfl]at ea
  have hmay:=qDC h.may (dOut id)
  rw [ea]at hmay ⊢
  refine ⟨rfl,hmay,h.f1,h.f2,h.f3,?_,fun x=>?_⟩
  ·exact qDx h.nodes (by unfold strip; rw [q.1,q.2.1,q.2.2.1,q.2.2.2.1])
  ·rw [← h.temps]
   rfl
 ·obtain ⟨n',⟨h1,h2⟩,h3,h4⟩:=h.found (id:=id) (qDd hL.up ⟨n.f0,n.f1,n.f2,n.f3,n.f4,false⟩ hid)
  have q:=qDj h4
  have et:=e2 w n' h1
  rw [if_pos q.2.2.2.2]at et
  rw [qDD (m:=w) (d:=dOut id) (by show (1:Int)<=5/\(5:Int)<=10; decide) hb h0,et]
  rfl
theorem qIx{m:qD}{L:List qA}(hL:Topo.Nodes L){T:Int->List Int}{id:Int}{n:qA}(hn:L.find? (fun x=>decide (x.f0=id))=some n)(h3:n.f3=0):Good m L T (dGone id) (dropN id L) T:=by
 have hb:bareD (dGone id):=⟨⟨rfl,rfl,rfl,rfl,rfl⟩,fun e=>absurd (show (7:Int)=9 from e) (by decide)⟩
 have hm:=(qCo hn).1
 have hid:=(qCo hn).2
 have hN:Topo.Nodes (dropN id L):=qEC hL id
 have hc:∀ g,Place.ofCommon (dropN id L) g m.f1=Place.ofCommon L g m.f1:=fun g =>
  qDT hN hL (fun is of q i=>qGM is of id L (fun y hy e=>by
   obtain rfl:y=n:=Place.node_uniq hL hy hm (e.trans hid.symm)
   exact weightless h3) i) g m.f1
 have e2:∀ w,qKX w (dGone id)=match w.f4.find? (fun x=>decide (x.f0=id)) with
   | some n=>nodeL w n (dGone id)
   | none=>(w,5):=fun w=>rfl
 refine ⟨fun w h h0=>?_,fun w h h0=>.inr ?_,⟨-1,fun x _ _ _=>.inr (qEo hc T x)⟩,Nat.zero_le _⟩
 ·obtain ⟨n',⟨h1,h2⟩,h3,h4⟩:=h.found hn
  have et:qKX w (dGone id)=if n'.f4=true\/(n'.f5=true/\n'.f3>0)\/held w id=true then (w,11) else (withN w (dropN id w.f4),0):=by
   rw [e2,h1]
   rfl
  have ea:=qDD (m:=w) (d:=dGone id) (by show (1:Int)<=7/\(7:Int)<=10; decide) hb h0
  by_cases c:n'.f4=true\/(n'.f5=true/\n'.f3>0)\/held w id=true
  ·rw [if_pos c]at et
   rw [et]at ea
   rw [ea]
   exact .inr ⟨rfl,rfl⟩
  ·rw [if_neg c]at et
   rw [et,if_pos rfl]at ea
   have hmay:=qDC h.may (dGone id)
   rw [ea]at hmay ⊢
   refine .inl ⟨rfl,hmay,h.f1,h.f2,h.f3,?_,fun x=>?_⟩
   ·exact qHk h.nodes id
   ·rw [← h.temps]
    rfl
 ·have hno:w.f4.find? (fun x=>decide (x.f0=id))=none:=qEG h.nodes (by
   unfold dropN
   rw [List.find?_filter,List.find?_eq_none]
   intro x _
   simp)
  rw [qDD (m:=w) (d:=dGone id) (by show (1:Int)<=7/\(7:Int)<=10; decide) hb h0,e2,hno]
  rfl
theorem qHY(is:qA->Bool)(of:qA->Int){n:qA}(h0:Topo.weight n=0)(id:Int):∀ l:List qA,(∀ y ∈ l,y.f0≠n.f0)->Topo.wSum is of (putN n l) id=Topo.wSum is of l id
 | [],_=>by
  rw [putN,qCt,h0]
  split <;> exact Int.zero_add _
 | x :: r,h=>by
  rw [putN]
  by_cases c:x.f0<n.f0
  ·rw [if_pos c,qCt,qCt,qHY is of h0 id r (fun y hy=>h y (List.mem_cons_of_mem _ hy))]
  ·rw [if_neg c,if_neg (h x List.mem_cons_self),qCt,h0]
   split <;> exact Int.zero_add _
theorem qJe{m:qD}{L:List qA}(hL:Topo.Nodes L){T:Int->List Int}{id z r:Int}(hn:L.find? (fun x=>decide (x.f0=id))=none)(hl:L.length≠12)(hN:Topo.Nodes (putN ⟨id,z,r,0,false,true⟩ L)):Good m L T (dAdd id z r) (putN ⟨id,z,r,0,false,true⟩ L) T:=by
 have hb:bareD (dAdd id z r):=⟨rfl,rfl⟩
 have hc:∀ g,Place.ofCommon (putN ⟨id,z,r,0,false,true⟩ L) g m.f1=Place.ofCommon L g m.f1:=fun g =>
  qDT hN hL (fun is of q i=>qHY is of (n:=⟨id,z,r,0,false,true⟩) rfl i L (fun y hy e=>by
   have:=List.find?_eq_none.1 hn y hy
   exact this (dT e))) g m.f1
 have e2:∀ w,qKX w (dAdd id z r)=addL w (dAdd id z r):=fun w=>rfl
 refine ⟨fun w h h0=>.inl ?_,fun w h h0=>.inl ?_,⟨-1,fun x _ _ _=>.inr (qEo hc T x)⟩,Nat.zero_le _⟩
 ·have h1:=qEG h.nodes hn
  have hlen:=congrArg List.length h.nodes
  rw [List.length_map,List.length_map]at hlen
  have hlk:Looks (putN ⟨id,z,r,0,false,true⟩ w.f4) (putN ⟨id,z,r,0,false,true⟩ L):=qDx h.nodes rfl
  have ep:addL w (dAdd id z r)=(withN w (putN ⟨id,z,r,0,false,true⟩ w.f4),0):=by
   unfold addL
   rw [if_neg,if_neg (by rw [hlen]; exact hl),if_pos (show Topo.Nodes (putN (addN (dAdd id z r)) w.f4) from qEl hlk hN)]
   ·rfl
   ·show ¬ (Topo.find w.f4 id).2=true
    unfold Topo.find
    rw [h1]
    decide
  have ea:=qDD (m:=w) (d:=dAdd id z r) (by show (1:Int)<=1/\(1:Int)<=10; decide) hb h0
  rw [e2,ep,if_pos rfl]at ea
  have hmay:=qDC h.may (dAdd id z r)
  rw [ea]at hmay ⊢
  refine ⟨rfl,hmay,h.f1,h.f2,h.f3,hlk,fun x=>?_⟩
  rw [← h.temps]
  rfl
 ·obtain ⟨n',⟨h1,h2⟩,h3,h4⟩:=h.found (id:=id) (qDd hL.up ⟨id,z,r,0,false,true⟩ rfl)
  have ep:addL w (dAdd id z r)=(w,7):=by
   unfold addL
   rw [if_pos]
   show (Topo.find w.f4 id).2=true
   unfold Topo.find
   rw [h1]
  rw [qDD (m:=w) (d:=dAdd id z r) (by show (1:Int)<=1/\(1:Int)<=10; decide) hb h0,e2,ep]
  rfl
def shiftN(l:List qA)(id wt:Int):List qA:=l.map fun x=>if x.f0=id then ⟨x.f0,x.f1,x.f2,wt,x.f4,x.f5⟩ else x
theorem qFS{id wt:Int}: ∀(l:List qA),(∀ y ∈ l,y.f0≠id)->shiftN l id wt=l
 | [],_=>rfl
 | x :: r,h=>by
  unfold shiftN
  rw [List.map_cons,if_neg (h x List.mem_cons_self)]
  exact congrArg (List.cons x) (qFS r fun y hy=>h y (List.mem_cons_of_mem _ hy))
theorem qDe{id wt:Int}: ∀(l:List qA),l.Pairwise (fun x y=>x.f0<y.f0)->∀ {n:qA},l.find? (fun x=>decide (x.f0=id))=some n->shiftN l id wt=putN ⟨n.f0,n.f1,n.f2,wt,n.f4,n.f5⟩ l
 | [],_,_,h=>nomatch h
 | x :: r,hp,n,h=>by
  obtain ⟨h1,h2⟩:=List.pairwise_cons.1 hp
  by_cases c:x.f0=id
  ·rw [List.find?_cons_of_pos (by simpa using c)]at h
   obtain rfl:=Option.some.inj h
   have e:=qFS (id:=id) (wt:=wt) r fun y hy=>by have:=h1 y hy; omega
   unfold shiftN at e ⊢
   rw [List.map_cons,if_pos c,putN,if_neg (Int.lt_irrefl _),if_pos rfl,e]
  ·rw [List.find?_cons_of_neg (by simpa using c)]at h
   have q:=qCo h
   have:=h1 n q.1
   have e:=qDe (wt:=wt) r h2 h
   unfold shiftN at e ⊢
   rw [List.map_cons,if_neg c,putN,if_pos (show x.f0<n.f0 from this),e]
theorem qEp{l:List qA}(h:Topo.Nodes l){id wt:Int}{n:qA}(hn:l.find? (fun x=>decide (x.f0=id))=some n)(hw:0<=wt/\wt<=65536):Topo.Nodes (shiftN l id wt):=by
 have q:=qCo hn
 have ho:=h.ok n q.1
 unfold Topo.okN at ho
 rw [qDe l h.up hn]
 exact qEg h ⟨ho.1,ho.2.1,ho.2.2.1,hw⟩ ⟨n,q.1,rfl⟩
theorem qDV{l:List qA}(h:Topo.Nodes l){id wt:Int}{n:qA}(hn:l.find? (fun x=>decide (x.f0=id))=some n):(shiftN l id wt).find? (fun x=>decide (x.f0=id))=some ⟨n.f0,n.f1,n.f2,wt,n.f4,n.f5⟩:=by
 rw [qDe l h.up hn]
 exact qDd h.up _ (qCo hn).2
theorem qEq{l:List qA}{id g s:Int}: ¬ id ∈ Place.ofCommon (shiftN l id 0) g s:=by
 intro h
 obtain ⟨n,hn,e,w⟩:=qGR h
 obtain ⟨y,_,rfl⟩:=List.mem_map.1 hn
 by_cases c:y.f0=id
 ·rw [if_pos c]at w
  rw [weightless rfl]at w
  exact absurd w (Int.lt_irrefl 0)
 ·rw [if_neg c]at e
  exact c e
def Oth(m:qD)(L:List qA)(T:Int->List Int)(id wt g:Int):Prop:=Place.ofCommon L g m.f1≠Place.ofCommon (shiftN L id wt) g m.f1\/(wt=0/\id ∈ T g)
def shiftL(m:qD)(L:List qA)(T:Int->List Int)(n:qA)(id wt:Int)(gs:List Int):List qF :=
 (gs.filter fun g=>decide (T g=[])).map (fun g=>dPin g (rawT m L T g))++(if n.f3≠wt then [dWeigh id wt] else [])++gs.map fun g=>dPin g []
theorem qEr{m:qD}(hm:1<=m.f1/\m.f1<=3){L:List qA}(hL:Topo.Nodes L){T:Int->List Int}{id wt:Int}{n:qA}(hn:L.find? (fun x=>decide (x.f0=id))=some n)(hw:0<=wt/\wt<=65536){gs:List Int}(hd:gs.Nodup)(hgs:∀ g,g ∈ gs↔(0<=g/\g<m.f3)/\Oth m L T id wt g/\rawT m L T g≠[]):
  Topo.Nodes (shiftN L id wt)/\Chain m L T (shiftL m L T n id wt gs) (shiftN L id wt) (fun x=>if x ∈ gs then [] else T x):=by
 have hN:=qEp hL hn hw
 refine ⟨hN,?_⟩
 have c1:=qFR hm hL (fun g=>rawT m L T g) (gs.filter fun g=>decide (T g=[])) T (hd.filter _) (fun g hg=>by
  obtain ⟨h1,h2⟩:=List.mem_filter.1 hg
  have h3:=oT h2
  obtain ⟨q1,_,q3⟩:=(hgs g).1 h1
  refine ⟨q1,h3,?_,q3⟩
  show rawT m L T g=_
  unfold rawT
  rw [if_pos h3])
 generalize hT2:(fun x=>if x ∈ gs.filter (fun g=>decide (T g=[])) then rawT m L T x else T x)=T2 at c1
 have t2:∀ x,T2 x=if x ∈ gs.filter (fun g=>decide (T g=[])) then rawT m L T x else T x:=fun x=>by rw [← hT2]
 have c2:Chain m L T2 (if n.f3≠wt then [dWeigh id wt] else []) (shiftN L id wt) T2:=by
  by_cases c:n.f3=wt
  ·rw [if_neg (fun e=>e c)]
   have e:shiftN L id wt=L:=by
    rw [qDe L hL.up hn,show (⟨n.f0,n.f1,n.f2,wt,n.f4,n.f5⟩:qA)=n from by rw [← c],qEm L hL.up (qCo hn).1]
   rw [e]
   exact .nil _ _
  ·rw [if_pos c]
   refine .cons hL hN ?_ (.nil _ _)
   have e:=qDe (id:=id) (wt:=wt) L hL.up hn
   rw [e]
   refine qHl hL hn hw c fun g g0 g1=>?_
   rw [← e]
   unfold rawT
   by_cases ct:T2 g=[]
   ·rw [if_pos ct,if_pos ct]
    have hng:¬ g ∈ gs:=fun hg=>by
     obtain ⟨_,_,q3⟩:=(hgs g).1 hg
     rw [t2]at ct
     by_cases cT:T g=[]
     ·rw [if_pos (List.mem_filter.2 ⟨hg,dT cT⟩)]at ct
      exact q3 ct
     ·rw [if_neg (fun hx:g ∈ gs.filter (fun g=>decide (T g=[]))=>cT (oT (p:=T g=[]) (List.mem_filter.1 hx).2))]at ct
      exact cT ct
    rw [t2,if_neg (fun hx=>hng (List.mem_filter.1 hx).1)]at ct
    by_cases co:Place.ofCommon L g m.f1=[]
    ·exact .inl co
    ·refine .inr (Classical.byContradiction fun hne=>hng ((hgs g).2 ⟨⟨g0,g1⟩,.inl fun e=>hne e.symm,?_⟩))
     unfold rawT
     rw [if_pos ct]
     exact co
   ·rw [if_neg ct,if_neg ct]
    exact .inr rfl
 have c3:=qEn hm hN gs T2 hd (fun g hg=>by
  obtain ⟨q1,_,q3⟩:=(hgs g).1 hg
  refine ⟨q1,?_⟩
  rw [t2]
  by_cases cT:T g=[]
  ·rw [if_pos (List.mem_filter.2 ⟨hg,dT cT⟩)]
   exact q3
  ·rw [if_neg (fun hx:g ∈ gs.filter (fun g=>decide (T g=[]))=>cT (oT (p:=T g=[]) (List.mem_filter.1 hx).2))]
   exact cT)
 have e:(fun x=>if x ∈ gs then [] else T2 x)=(fun x=>if x ∈ gs then [] else T x):=by
  funext x
  by_cases c:x ∈ gs
  ·rw [if_pos c,if_pos c]
  ·rw [if_neg c,if_neg c,t2,if_neg (fun hx=>c (List.mem_filter.1 hx).1)]
 rw [e]at c3
 exact (c1.append c2).append c3
theorem qFl{m:qD}{L:List qA}{T:Int->List Int}{id:Int}{gs:List Int}(hgs:∀ g,g ∈ gs↔(0<=g/\g<m.f3)/\Oth m L T id 0 g/\rawT m L T g≠[])(g:Int)(hg:0<=g/\g<m.f3):¬ id ∈ rawT m (shiftN L id 0) (fun x=>if x ∈ gs then [] else T x) g:=by
 unfold rawT
 dsimp only
 by_cases c:g ∈ gs
 ·rw [if_pos (if_pos c)]
  exact qEq
 ·have e:(if g ∈ gs then [] else T g)=T g:=if_neg c
  by_cases ct:T g=[]
  ·rw [if_pos (e.trans ct)]
   exact qEq
  ·rw [if_neg fun q=>ct (e.symm.trans q),e]
   intro hi
   refine c ((hgs g).2 ⟨hg,.inr ⟨rfl,hi⟩,?_⟩)
   unfold rawT
   rw [if_neg ct]
   exact ct
theorem qGT{w:qD}(h:May w){d:qF}(hd:d.f0=3\/d.f0=4\/d.f0=10):Looks (qKX w d).1.f4 w.f4/\(qKX w d).1.f5=w.f5:=by
 have hn:=h.1.2.2.2.2
 unfold qKX
 rw [if_neg (by omega),if_neg (by omega),if_neg (by omega)]
 by_cases c:d.f0=10
 ·rw [if_pos c]
  unfold cleanL
  repeat' split
  all_goals exact ⟨rfl,rfl⟩
 ·rw [if_neg c]
  cases hf:w.f4.find? (fun n=>decide (n.f0=d.f1)) with
  | none=>exact ⟨rfl,rfl⟩
  | some n =>
   have q:=qCo hf
   dsimp only
   unfold nodeL
   rw [if_neg (by omega),if_pos (by omega)]
   split
   ·exact ⟨rfl,rfl⟩
   ·exact ⟨qJc hn.up q.1 rfl,rfl⟩
theorem qIy{m w:qD}{L:List qA}{T:Int->List Int}(h:At m L T w){d:qF}(hd:d.f0=3\/d.f0=4\/d.f0=10):At m L T (nextL w d):=by
 have hmay:=qJZ h.may d
 have key:(nextL w d).f1=w.f1/\(nextL w d).f2=w.f2/\(nextL w d).f3=w.f3/\Looks (nextL w d).f4 w.f4/\(nextL w d).f5=w.f5:=by
  unfold nextL
  split
  ·exact ⟨rfl,rfl,rfl,rfl,rfl⟩
  ·by_cases he:(qKb w d).2=0
   ·rw [(qEQ he).2]
    obtain ⟨a,b⟩:=qGT h.may hd
    exact ⟨rfl,rfl,rfl,a,b⟩
   ·rw [qEi he]
    exact ⟨rfl,rfl,rfl,rfl,rfl⟩
 exact ⟨hmay,key.1.trans h.f1,key.2.1.trans h.f2,key.2.2.1.trans h.f3,key.2.2.2.1.trans h.nodes,fun g=>(qIw key.2.2.2.2 g).trans (h.temps g)⟩
theorem qGv(w:qD)(l:List qC):qKY w (withP w l)=l:=by
 unfold qKY
 refine List.ext_getElem (List.length_mapIdx) fun i h1 h2=>?_
 rw [List.getElem_mapIdx]
 show followT l[i] (actL w (i:Int)) (actL w (i:Int)) _ _=_
 unfold followT
 rw [if_pos rfl]
def dClean(w:qD)(k:Nat):qF:=⟨10,0,0,0,(nth qC.z w.f6 (k:Int)).f0,(k:Int),[]⟩
theorem qFT{w:qD}(h:May w)(h0:w.f0<2147483647)(k:Nat)(hk:k<w.f6.length):(nextL w (dClean w k)).f6=w.f6.set k ⟨w.f6[k].f0,[]⟩/\(nextL w (dClean w k)).f0=w.f0+1:=by
 have hb:bareD (dClean w k):=⟨rfl,rfl,rfl,rfl⟩
 have e10:qKX w (dClean w k)=cleanL w (dClean w k):=rfl
 have h3:=h.2.2.1
 have en:nth qC.z w.f6 (k:Int)=w.f6[k]:=nth_get _ _ _ hk
 have ec:cleanL w (dClean w k)=if w.f6[k].f1=[] then (w,7) else (withP w (w.f6.set k ⟨w.f6[k].f0,[]⟩),0):=by
  unfold cleanL dClean
  dsimp only
  rw [if_pos ⟨by omega,by omega⟩,en,if_neg fun e=>e rfl,tN]
 have ea:=qDD (m:=w) (d:=dClean w k) (by show (1:Int)<=10/\(10:Int)<=10; decide) hb h0
 rw [e10,ec]at ea
 by_cases c:w.f6[k].f1=[]
 ·rw [if_pos c]at ea
  have e2:qKb w (dClean w k)=(w,7):=ea
  unfold nextL
  rw [e2,if_pos ⟨show (7:Int)≠0 by decide,h0⟩]
  refine ⟨?_,rfl⟩
  rw [show (⟨w.f6[k].f0,[]⟩:qC)=w.f6[k] from by rw [← c],List.set_getElem_self]
 ·rw [if_neg c,if_pos rfl]at ea
  unfold nextL
  rw [ea,if_neg (fun e=>e.1 rfl)]
  exact ⟨qGv w _,rfl⟩
def standsB(m:qD)(id:Int):Bool:=(idsU m.f3.toNat).any fun g=>decide (id ∈ rawM m g)
theorem pstands{m:qD}(h:May m)(hm:Small m)(id:Int):Ev (fun k=>qBC.f k m id) (standsB m id):=by
 obtain ⟨N,e3,h8,eN⟩:=groupsN h
 have go:∀(d i:Nat),i+d=N->(idsU i).any (fun g=>decide (id ∈ rawM m g))=false->Ev (fun k=>qBC.l8 k m id (i:Int)) ((idsU N).any fun g=>decide (id ∈ rawM m g)):=by
  intro d
  induction d with
  | zero =>
   intro i hi ha
   obtain rfl:i=N:=by omega
   rw [ha]
   exact .s (qBC.l8_s · _ _ _) (.n (by omega) (.c _))
  | succ d ih =>
   intro i hi ha
   have r1:=qGO (m:=m) (i:Int)
   refine .s (qBC.l8_s · _ _ _) (.t (by omega) (.b (mRaw m hm _) (.b (Topo.contains _ _ (by omega)) (.i (fun q=>.cv ?_) fun q=>?_))))
   ·exact (List.any_eq_true.2 ⟨(i:Int),qDU.2 ⟨by omega,by omega⟩,q⟩).symm
   ·rw [w64n i (by omega)]
    refine ih (i+1) (by omega) ?_
    rw [qEj,List.any_append,ha,Bool.false_or]
    show (decide (id ∈ rawM m (i:Int))||false)=false
    rw [eq_false_of_ne_true q]
    rfl
 unfold qBC.f standsB
 rw [eN]
 exact go N 0 (Nat.zero_add _) rfl
theorem heavyE{l:List qA}(h:Topo.Nodes l):∃ v,Ev (fun k=>qBL.f k l) v:=by
 have hl:=(Topo.wL_of Topo.isZ Topo.ofZ l h.okW l.length (Nat.le_refl _)).2
 rw [List.take_length]at hl
 have h12:=h.1
 unfold qBL.f
 generalize hz:Topo.wL Topo.isZ Topo.ofZ l=z at hl
 have hzo:=Topo.zones h
 rw [hz]at hzo
 have go:∀(d i:Nat),i+d=z.length->∀ n:Nat,n<=i->∃ v,Ev (fun k=>qBL.l15 k z (n:Int) (i:Int)) v:=by
  intro d
  induction d with
  | zero =>
   intro i hi n hn
   exact ⟨_,.s (qBL.l15_s · _ _ _) (.n (by omega) (.c _))⟩
  | succ d ih =>
   intro i hi n hn
   obtain ⟨v1,e1⟩:=ih (i+1) (by omega) (n+1) (by omega)
   obtain ⟨v2,e2⟩:=ih (i+1) (by omega) n (by omega)
   by_cases c:(nth qB.z z (i:Int)).f1>0
   ·refine ⟨v1,.s (qBL.l15_s · _ _ _) (.t (by omega) (.t (by omega) (.t c ?_)))⟩
    rw [w64n i (by omega),w64n n (by omega)]
    exact e1
   ·refine ⟨v2,.s (qBL.l15_s · _ _ _) (.t (by omega) (.t (by omega) (.n c ?_)))⟩
    rw [w64n i (by omega)]
    exact e2
 obtain ⟨v,e⟩:=go z.length 0 (Nat.zero_add _) 0 (Nat.le_refl _)
 exact ⟨v,.b hzo e⟩
theorem pshifted(l:List qA)(hl:l.length<=1000)(id wt:Int):Ev (fun k=>qBD.f k l id wt) (shiftN l id wt):=by
 have hs:(shiftN l id wt).length=l.length:=List.length_map ..
 have go:∀(d i:Nat),i+d=l.length->Ev (fun k=>qBD.l15 k id wt l ((shiftN l id wt).take i++l.drop i) (i:Int)) (shiftN l id wt):=by
  intro d
  induction d with
  | zero =>
   intro i hi
   refine .s (qBD.l15_s · _ _ _ _ _) (.n (by omega) (.cv ?_))
   rw [List.take_of_length_le (by omega),List.drop_eq_nil_of_le (by omega),List.append_nil]
  | succ d ih =>
   intro i hi
   have h1:i<l.length:=by omega
   have h2:i<(shiftN l id wt).length:=by omega
   have e:(shiftN l id wt)[i]=if l[i].f0=id then ⟨l[i].f0,l[i].f1,l[i].f2,wt,l[i].f4,l[i].f5⟩ else l[i]:=List.getElem_map ..
   have ih:=ih (i+1) (by omega)
   refine .s (qBD.l15_s · _ _ _ _ _) (.t (by omega) (.t (by omega) ?_))
   rw [qIp _ _ _ _ (by omega) h1,w64n i (by omega)]
   refine .i (fun c=>?_) fun c=>?_
   ·rw [if_pos c]at e
    rw [← e,qIq _ _ _ h2 h1]
    exact ih
   ·rw [if_neg c]at e
    rw [qHQ _ _ _ h2 h1 e]
    exact ih
 unfold qBD.f
 exact .b0 (cloneN _ (by omega)) (go l.length 0 (Nat.zero_add _))
theorem ppinned(m:qD)(hm:Small m)(g:Int):Ev (fun k=>qBH.f k m g) (qKZ m g):=by
 have h5:=hm.h5
 have go:∀(d i:Nat),i+d=m.f5.length->Ev (fun k=>qBH.l7 k m g (i:Int)) (match (m.f5.drop i).find? (fun t=>decide (t.f0=g)) with
  | some t=>t.f1
  | none=>[]):=by
  intro d
  induction d with
  | zero =>
   intro i hi
   refine .s (qBH.l7_s · _ _ _) (.n (by omega) (.cv ?_))
   rw [List.drop_eq_nil_of_le (by omega)]
   rfl
  | succ d ih =>
   intro i hi
   have h1:i<m.f5.length:=by omega
   refine .s (qBH.l7_s · _ _ _) (.t (by omega) (.t (by omega) ?_))
   rw [nth_get _ _ _ h1,List.drop_eq_getElem_cons h1,w64n i (by omega)]
   refine .i (fun c=>.cv ?_) fun c=>(ih (i+1) (by omega)).v ?_
   ·rw [List.find?_cons_of_pos (by simpa using c)]
   ·rw [List.find?_cons_of_neg (by simpa using c)]
 unfold qBH.f
 exact go m.f5.length 0 (by omega)
theorem qHm{m:qD}(h:May m)(g:Int):(qKZ m g).length<=3:=by
 have h1:=h.1.2.1
 rcases qIo h g with e | e
 ·rw [e]; exact Nat.zero_le _
 ·omega
def othB(m:qD)(id wt g:Int):Bool := !decide (Place.ofCommon m.f4 g m.f1=Place.ofCommon (shiftN m.f4 id wt) g m.f1)||(decide (wt=0)&&decide (id ∈ qKZ m g))
theorem qJf(m:qD)(id wt g:Int):othB m id wt g=true↔Oth m m.f4 (qKZ m) id wt g:=by
 unfold othB Oth
 rw [Bool.or_eq_true,Bool.and_eq_true,decide_eq_true_eq,decide_eq_true_eq,Bool.not_eq_true',decide_eq_false_iff_not]
theorem pothers{m:qD}(h:May m)(hm:Small m)(id wt:Int):Ev (fun k=>qAr.f k m id wt) ((idsU m.f3.toNat).filter (othB m id wt)):=by
 obtain ⟨N,e3,h8,eN⟩:=groupsN h
 have h1:=h.1.2.1
 have h12:=h.1.2.2.2.2.1
 unfold qAr.f
 rw [eN]
 refine .b (pshifted m.f4 (by omega) id wt) (sieve N (othB m id wt) (fun k acc y=>qAr.l26 k m id wt acc (shiftN m.f4 id wt) y) (fun acc=>.s (qAr.l26_s · _ _ _ _ _ _) (.n (by omega) (.c _))) fun i hi acc ha v hv=>?_)
 have j:∀ b,othB m id wt (i:Int)=b->Ev (fun k=>qAr.j70 k m id wt acc (shiftN m.f4 id wt) (i:Int) b) v:=by
  intro b hb
  rw [hb]at hv
  refine .s (qAr.j70_s · _ _ _ _ _ _ _) ?_
  rw [w64n i (by omega)]
  cases b with
  | true=>exact .t rfl (.t (by omega) hv)
  | false=>exact .n (by decide) hv
 have r1:=qFO m.f4 (i:Int) m.f1 h1.1
 have t3:=qHm h (i:Int)
 refine .s (qAr.l26_s · _ _ _ _ _ _) (.t (by omega) (.b (Place.of_ _ _ _) (.b (Place.of_ _ _ _) (.b (equal _ _ (by omega)) (.i (fun q=>.i (fun q2=>.b (ppinned m hm _) (.b (Topo.contains _ _ (by omega)) (j _ ?_))) fun q2=>j _ ?_) fun q=>j _ ?_)))))
 ·unfold othB
  rw [q,dT q2]
  rfl
 ·unfold othB
  rw [q,dF q2]
  rfl
 ·unfold othB
  rw [eq_false_of_ne_true q]
  rfl
theorem qGw{m:qD}(h:May m){g:Int}(hg:0<=g/\g<m.f3):rawM m g=rawT m m.f4 (qKZ m) g:=by
 unfold rawM rawL rawT
 rw [if_pos ⟨h,hg⟩]
def mindL(m:qD)(id wt:Int):List Int:=((idsU m.f3.toNat).filter (othB m id wt)).filter fun g => !decide (rawM m g=[])
theorem qHZ{m:qD}(h:May m)(id wt g:Int):g ∈ mindL m id wt↔(0<=g/\g<m.f3)/\Oth m m.f4 (qKZ m) id wt g/\rawT m m.f4 (qKZ m) g≠[]:=by
 obtain ⟨N,e3,h8,eN⟩:=groupsN h
 unfold mindL
 rw [List.mem_filter,List.mem_filter,qDU,qJf,eN]
 constructor
 ·rintro ⟨⟨h1,h2⟩,h3⟩
  have hg:0<=g/\g<m.f3:=by omega
  rw [qGw h hg]at h3
  exact ⟨hg,h2,by simpa using h3⟩
 ·rintro ⟨h1,h2,h3⟩
  refine ⟨⟨by omega,h2⟩,?_⟩
  rw [qGw h h1]
  simpa using h3
theorem qFU:∀ n,(idsU n).Nodup
 | 0=>List.nodup_nil
 | n+1=>by
  rw [qEj,List.nodup_append]
  refine ⟨qFU n,by simp,fun a ha b hb e=>?_⟩
  rw [List.mem_singleton.1 hb]at e
  have:=(qDU.1 ha).2
  omega
theorem qFV(m:qD)(id wt:Int):(mindL m id wt).Nodup:=((qFU _).filter _).filter _
theorem qHa{m:qD}(h:May m)(id wt:Int):(mindL m id wt).length<=8:=by
 obtain ⟨N,e3,h8,eN⟩:=groupsN h
 unfold mindL
 rw [eN]
 exact Nat.le_trans (List.length_filter_le _ _) (Nat.le_trans (qDi _ _) h8)
theorem pshift{m:qD}(h:May m)(hm:Small m){id wt:Int}{n:qA}(hn:m.f4.find? (fun x=>decide (x.f0=id))=some n):Ev (fun k=>qAb.f k m id wt) (shiftL m m.f4 (qKZ m) n id wt (mindL m id wt)):=by
 obtain ⟨N,e3,h8,eN⟩:=groupsN h
 unfold qAb.f
 refine .b (pothers h hm id wt) ?_
 have hlt:∀ g ∈ (idsU m.f3.toNat).filter (othB m id wt),0<=g/\g<m.f3:=fun g hg=>by
  have:=qDU.1 (List.mem_filter.1 hg).1
  omega
 have hlen:((idsU m.f3.toNat).filter (othB m id wt)).length<=8:=by rw [eN]; exact Nat.le_trans (qDi _ _) h8
 unfold mindL
 generalize (idsU m.f3.toNat).filter (othB m id wt)=l at hlt hlen ⊢
 have fin:∀(a f:List qF),a.length<=8->f.length<=8->Ev (fun k=>qAb.l25 k m id wt l a f (l.length:Int)) (a++(if n.f3≠wt then [dWeigh id wt] else [])++f):=by
  intro a f ha hf
  refine .s (qAb.l25_s · _ _ _ _ _ _ _) (.n (by omega) (.b (tfind h.1.2.2.2.2 id) ?_))
  have ef:(Topo.find m.f4 id).1=n:=by unfold Topo.find; rw [hn]
  rw [ef]
  refine .i (fun c=>?_) fun c=>.t (by omega) ?_
  ·rw [if_neg fun e=>e c,List.append_nil]
   exact .s (qAb.j114_s · _ _) (.t (by omega) (.c _))
  ·rw [if_pos c]
   exact .s (qAb.j114_s · _ _) (.t (by rw [lA,List.length_singleton]; omega) (.c _))
 have go:∀(d i:Nat),i+d=l.length->∀(a f:List qF),a.length<=i->f.length<=i ->
   Ev (fun k=>qAb.l25 k m id wt l a f (i:Int)) ((a++(((l.drop i).filter fun g => !decide (rawM m g=[])).filter fun g=>decide (qKZ m g=[])).map fun g=>dPin g (rawT m m.f4 (qKZ m) g))++(if n.f3≠wt then [dWeigh id wt] else [])++(f++((l.drop i).filter fun g => !decide (rawM m g=[])).map fun g=>dPin g [])):=by
  intro d
  induction d with
  | zero =>
   intro i hi a f ha hf
   obtain rfl:i=l.length:=by omega
   rw [List.drop_length,List.filter_nil,List.filter_nil,List.map_nil,List.map_nil,List.append_nil,List.append_nil]
   exact fin a f (by omega) (by omega)
  | succ d ih =>
   intro i hi a f ha hf
   have h1:i<l.length:=by omega
   have hg:=hlt l[i] (gM h1)
   refine .s (qAb.l25_s · _ _ _ _ _ _ _) (.t (by omega) (.t (by omega) ?_))
   rw [nth_get _ _ _ h1,w64n i (by omega),List.drop_eq_getElem_cons h1]
   refine .b (mRaw m hm _) (.i (fun c=>?_) fun c=>.b (ppinned m hm _) ?_)
   ·have e0:rawM m l[i]=[]:=List.length_eq_zero_iff.1 (by omega)
    rw [List.filter_cons_of_neg (by rw [e0]; decide)]
    exact ih (i+1) (by omega) a f (by omega) (by omega)
   ·have e0:rawM m l[i]≠[]:=fun e=>c (by rw [e]; rfl)
    rw [List.filter_cons_of_pos (by simpa using e0),List.map_cons]
    have er:=qGw h hg
    have j77:∀ a':List qF,a'.length<=i+1->(a'++(((l.drop (i+1)).filter fun g => !decide (rawM m g=[])).filter fun g=>decide (qKZ m g=[])).map fun g=>dPin g (rawT m m.f4 (qKZ m) g))=(a++((l[i] :: (l.drop (i+1)).filter fun g => !decide (rawM m g=[])).filter fun g=>decide (qKZ m g=[])).map fun g=>dPin g (rawT m m.f4 (qKZ m) g)) ->
      Ev (fun k=>qAb.j77 k m id wt l f (i:Int) a') ((a++((l[i] :: (l.drop (i+1)).filter fun g => !decide (rawM m g=[])).filter fun g=>decide (qKZ m g=[])).map fun g=>dPin g (rawT m m.f4 (qKZ m) g))++(if n.f3≠wt then [dWeigh id wt] else [])++(f++dPin l[i] [] :: ((l.drop (i+1)).filter fun g => !decide (rawM m g=[])).map fun g=>dPin g [])):=by
     intro a' ha' e
     refine .s (qAb.j77_s · _ _ _ _ _ _ _) (.t (by omega) ?_)
     rw [nth_get _ _ _ h1,w64n i (by omega)]
     have ih:=ih (i+1) (by omega) a' (f++[dPin l[i] []]) ha' (by rw [lA,List.length_singleton]; omega)
     rw [e,List.append_assoc f]at ih
     exact ih
    refine .i (fun ct=>.t (by omega) (j77 _ (by rw [lA,List.length_singleton]; omega) ?_)) fun ct=>j77 _ (by omega) ?_
    ·have et:qKZ m l[i]=[]:=List.length_eq_zero_iff.1 (by omega)
     rw [List.filter_cons_of_pos (p:=fun g=>decide (qKZ m g=[])) (dT et),List.map_cons,List.append_assoc,← er]
     rfl
    ·have et:qKZ m l[i]≠[]:=fun e=>ct (by rw [e]; rfl)
     rw [List.filter_cons_of_neg (p:=fun g=>decide (qKZ m g=[])) (by rw [dF et]; decide)]
 have:=go l.length 0 (Nat.zero_add _) [] [] (Nat.le_refl _) (Nat.le_refl _)
 rw [List.drop_zero,List.nil_append,List.nil_append]at this
 exact this
theorem pweight(y:qAN):Ev (fun k=>qBK.f k y) (if y.f0=1\/y.f0=4 then 0 else y.f4):=by
 have j:∀ b:Bool,(b=true↔y.f0=1\/y.f0=4)->Ev (fun k=>qBK.j8 k y b) (if y.f0=1\/y.f0=4 then 0 else y.f4):=by
  intro b hb
  refine .s (qBK.j8_s · _ _) (.i (fun q=>.cv ?_) fun q=>.cv ?_)
  ·rw [if_pos (hb.1 q)]
  ·rw [if_neg (fun e=>q (hb.2 e))]
 unfold qBK.f
 refine .i (fun q=>j true ⟨fun _=>.inl q,fun _=>rfl⟩) fun q=>j _ ?_
 rw [beq_iff_eq]
 exact ⟨.inr,fun e=>e.resolve_left q⟩
def ChkOk(m:qD)(y:qAN):Prop :=
 (1<=y.f0/\y.f0<=4)/\(0<=y.f4/\y.f4<=65536)/\if y.f0=3 then (qKb m (dAdd y.f1 y.f2 y.f3)).2=0/\∃ n,(qKb m (dAdd y.f1 y.f2 y.f3)).1.f4.find? (fun x=>decide (x.f0=y.f1))=some n else ∃ n,m.f4.find? (fun x=>decide (x.f0=y.f1))=some n
theorem pcheck85{m x:qD}(h:May m)(hx:May x)(hs:Small x)(y:qAN):Ht (fun k=>qAC.j85 k m y x.f0 x.f1 x.f2 x.f3 x.f4 x.f5 x.f6) (fun e=>e=0->(0<=y.f4/\y.f4<=65536)/\∃ n,x.f4.find? (fun x=>decide (x.f0=y.f1))=some n):=by
 have hn:=hx.1.2.2.2.2
 refine .s (qAC.j85_s · _ _ _ _ _ _ _ _ _) (.e (tfind hn y.f1) ?_)
 unfold Topo.find
 cases hf:x.f4.find? (fun n=>decide (n.f0=y.f1)) with
 | none=>exact .n nF (.c fun e=>absurd e (by decide))
 | some n =>
  refine .t rfl ?_
  have hw:qCG.f y.f4=some (decide (0<=y.f4/\y.f4<=65536)):=by
   unfold qCG.f
   by_cases c:y.f4>=0
   ·rw [if_pos c]
    congr 1
    rw [decide_eq_decide]
    omega
   ·rw [if_neg c,dF (by omega)]
  refine .o hw (.i (fun q=>?_) fun _=>.c fun e=>absurd e (by decide))
  have q:=oT q
  have any:∀ {f:Nat->Option Int},Ht f (fun _=>True)->Ht f (fun e=>e=0->(0<=y.f4/\y.f4<=65536)/\∃ n',some n=some n'):=fun h=>.m (fun _ _ _=>⟨q,n,rfl⟩) h
  have j126:∀ b:Bool,Ht (fun k=>qAC.j126 k m y x.f4 b) (fun _=>True):=by
   intro b
   refine .s (qAC.j126_s · _ _ _ _) (.i (fun _=>.c trivial) fun _=>.e (pweight y) (.e (pshifted x.f4 (by have:=hn.1; omega) y.f1 _) ?_))
   obtain ⟨v1,e1⟩:=heavyE (qEp hn hf (wt:=if y.f0=1\/y.f0=4 then 0 else y.f4) (by split <;> omega))
   obtain ⟨v2,e2⟩:=heavyE h.1.2.2.2.2
   exact .e e1 (.i (fun _=>.e e2 (.s (qAC.j157_s · _) (.i (fun _=>.c trivial) fun _=>.c trivial))) fun _=>.s (qAC.j157_s · _) (.i (fun _=>.c trivial) fun _=>.c trivial))
  have j108:∀ b:Bool,Ht (fun k=>qAC.j108 k m y x.f0 x.f1 x.f2 x.f3 x.f4 x.f5 x.f6 (n,true) b) (fun _=>True):=by
   intro b
   exact .s (qAC.j108_s · _ _ _ _ _ _ _ _ _ _ _) (.i (fun _=>.c trivial) fun _=>.i (fun _=>.i (fun _=>.e (pstands hx hs y.f1) (j126 _)) fun _=>.i (fun _=>j126 _) fun _=>.e (pstands hx hs y.f1) (j126 _)) fun _=>j126 _)
  exact .i (fun _=>any (j108 _)) fun _=>any (j108 _)
theorem pcheckG{m:qD}(h:May m)(hm:Small m){b:Nat}(hb:b<=90000)(hP:Pasts b m)(y:qAN):Ht (fun k=>qAC.f k m y) (fun e=>e=0->ChkOk m y):=by
 have no:Ht (fun k=>qAC.j18 k m y true) (fun e=>e=0->ChkOk m y):=.s (qAC.j18_s · _ _ _) (.t rfl (.c fun e=>absurd e (by decide)))
 have hc:=check m hm
 rw [dT h]at hc
 unfold qAC.f
 refine .e hc (.t rfl (.i (fun _=>no) fun q1=>.i (fun _=>no) fun q5=>?_))
 obtain ⟨g,hg⟩:∃ g,qCT.f y=some g:=by
  unfold qCT.f
  split
  ·exact ⟨_,rfl⟩
  ·split <;> exact ⟨_,rfl⟩
 refine .o hg ?_
 cases decide (y=g) with
 | false=>exact no
 | true =>
  refine .s (qAC.j18_s · _ _ _) (.n nF (.i (fun q3=>?_) fun q3=>?_))
  ·have ha:=apply m hm (dAdd y.f1 y.f2 y.f3) (by omega) hP
   rw [if_pos h]at ha
   refine .o (a:=dAdd y.f1 y.f2 y.f3) rfl (.e ha (.i (fun q=>?_) fun q=>.c fun e=>absurd e q))
   have hx:=qDC h (dAdd y.f1 y.f2 y.f3)
   refine .m (fun e he h0=>?_) (pcheck85 h hx (hx.small (by omega) (qDS hP _)) y)
   obtain ⟨h1,h2⟩:=he h0
   refine ⟨by omega,h1,?_⟩
   rw [if_pos q3]
   exact ⟨q,h2⟩
  ·refine .m (fun e he h0=>?_) (pcheck85 h h hm y)
   obtain ⟨h1,h2⟩:=he h0
   refine ⟨by omega,h1,?_⟩
   rw [if_neg q3]
   exact h2
def reachB(w:qD)(y:qAN):Bool :=
 if y.f0=1 then (decide ((Topo.find w.f4 y.f1).1.f3=0) || !(Topo.find w.f4 y.f1).1.f5) && !standsB w y.f1
 else if y.f0=2\/y.f0=3 then (Topo.find w.f4 y.f1).2&&(Topo.find w.f4 y.f1).1.f3 == y.f4
 else if y.f0=4 then !(Topo.find w.f4 y.f1).2 else false
theorem preaches{w:qD}(h:May w)(hs:Small w)(y:qAN):Ev (fun k=>qBF.f k w y) (reachB w y):=by
 have hc:=check w hs
 rw [dT h]at hc
 unfold qBF.f reachB
 refine .b hc (.t rfl (.b (tfind h.1.2.2.2.2 y.f1) ?_))
 generalize Topo.find w.f4 y.f1=t
 by_cases q1:y.f0=1
 ·rw [if_pos q1]
  refine .t q1 (.i (fun c=>.b (pstands h hs y.f1) (.cv ?_)) fun c=>.i (fun c2=>.cv ?_) fun c2=>.b (pstands h hs y.f1) (.cv ?_))
  ·rw [dT c,Bool.true_or,Bool.true_and]
  ·rw [dF c,c2]
   rfl
  ·rw [dF c,eq_false_of_ne_true c2]
   rfl
 ·rw [if_neg q1]
  have j:∀ b:Bool,(b=true↔y.f0=2\/y.f0=3)->Ev (fun k=>qBF.j37 k y t b) (if y.f0=2\/y.f0=3 then t.2&&t.1.f3 == y.f4 else if y.f0=4 then !t.2 else false):=by
   intro b hb
   refine .s (qBF.j37_s · _ _ _) (.i (fun q=>.i (fun c=>.cv ?_) fun c=>.cv ?_) fun q=>.i (fun c=>.cv ?_) fun c=>.cv ?_)
   ·rw [if_pos (hb.1 q),c,Bool.true_and]
   ·rw [if_pos (hb.1 q),eq_false_of_ne_true c,Bool.false_and]
   ·rw [if_neg fun e=>q (hb.2 e),if_pos c]
   ·rw [if_neg fun e=>q (hb.2 e),if_neg c]
  refine .n q1 (.i (fun q=>j true ⟨fun _=>.inl q,fun _=>rfl⟩) fun q=>j _ ?_)
  rw [beq_iff_eq]
  exact ⟨.inr,fun e=>e.resolve_left q⟩
theorem At.find{m w:qD}{L:List qA}{T:Int->List Int}(h:At m L T w){id:Int}{n:qA}(hn:L.find? (fun x=>decide (x.f0=id))=some n):(Topo.find w.f4 id).2=true/\(Topo.find w.f4 id).1.f3=n.f3/\(Topo.find w.f4 id).1.f5=n.f5:=by
 obtain ⟨n',⟨h1,_⟩,_,h4⟩:=h.found hn
 have q:=qDj h4
 unfold Topo.find
 rw [h1]
 exact ⟨rfl,q.2.2.2.1,q.2.2.2.2⟩
theorem At.stands{m w:qD}{L:List qA}{T:Int->List Int}(h:At m L T w)(hL:Topo.Nodes L){id:Int}(hr:∀ g,(0<=g/\g<m.f3)->¬ id ∈ rawT m L T g):standsB w id=false:=by
 obtain ⟨N,e3,h8,eN⟩:=groupsN h.may
 unfold standsB
 rw [eN,List.any_eq_false]
 intro g hg
 have hg:=qDU.1 hg
 rw [decide_eq_true_eq]
 unfold rawM
 rw [if_pos ⟨h.may,by omega⟩,h.raw hL]
 exact hr g (by rw [← h.f3]; omega)
structure Plan (m:qD) (y:qAN) (l:List qF):Prop where
 chain:∃ L' T',Topo.Nodes L'/\Chain m m.f4 (qKZ m) l L' T'/\∀ w,At m L' T' w->reachB w y=true
 len:l.length<=30
 stay:y.f0=1->∀ d ∈ l,d.f0≠7
theorem qGU(m:qD)(L:List qA)(T:Int->List Int)(n:qA)(id wt:Int)(gs:List Int)(hg:gs.length<=8):(shiftL m L T n id wt gs).length<=17:=by
 unfold shiftL
 have:=List.length_filter_le (fun g=>decide (T g=[])) gs
 rw [lA,lA,List.length_map,List.length_map]
 split
 ·rw [List.length_singleton]; omega
 ·rw [List.length_nil]; omega
theorem qGx(m:qD)(L:List qA)(T:Int->List Int)(n:qA)(id wt:Int)(gs:List Int):∀ d ∈ shiftL m L T n id wt gs,d.f0≠7:=by
 intro d hd
 unfold shiftL at hd
 rcases List.mem_append.1 hd with hd | hd
 ·rcases List.mem_append.1 hd with hd | hd
  ·obtain ⟨g,_,rfl⟩:=List.mem_map.1 hd
   exact (by decide:(8:Int)≠7)
  ·split at hd
   ·rw [List.mem_singleton.1 hd]
    exact (by decide:(2:Int)≠7)
   ·cases hd
 ·obtain ⟨g,_,rfl⟩:=List.mem_map.1 hd
  exact (by decide:(8:Int)≠7)
theorem plan{m:qD}(h:May m)(hm:Small m){b:Nat}(hb:b<=90000)(hP:Pasts b m)(h0:m.f0<2147483647)(y:qAN):Ht (fun k=>qBd.f k m y) (fun r=>r.2=0->Plan m y r.1):=by
 have hf1:=h.1.2.1
 have hL:=h.1.2.2.2.2
 unfold qBd.f
 refine .b (pcheckG h hm hb hP y) fun e he=>.i (fun q0=>?_) fun q0=>.c fun e=>absurd e q0
 obtain ⟨hk,hw,hc⟩:=he q0
 refine .i (fun q3=>?_) fun q3=>?_
 ·rw [if_pos q3]at hc
  obtain ⟨ha0,n,hn⟩:=hc
  have ha:=apply m hm (dAdd y.f1 y.f2 y.f3) (by omega) hP
  rw [if_pos h]at ha
  have hx:=qDC h (dAdd y.f1 y.f2 y.f3)
  have hsx:=hx.small (by omega) (qDS hP (dAdd y.f1 y.f2 y.f3))
  have hadd:(m.f4.find? (fun x=>decide (x.f0=y.f1))=none/\m.f4.length≠12/\Topo.Nodes (putN ⟨y.f1,y.f2,y.f3,0,false,true⟩ m.f4))/\(qKb m (dAdd y.f1 y.f2 y.f3)).1.f4=putN ⟨y.f1,y.f2,y.f3,0,false,true⟩ m.f4:=by
   obtain ⟨ht,he⟩:=qEQ ha0
   rw [he]
   have e1:qKX m (dAdd y.f1 y.f2 y.f3)=addL m (dAdd y.f1 y.f2 y.f3):=rfl
   rw [e1]at ht ⊢
   unfold addL at ht ⊢
   by_cases c1:(Topo.find m.f4 (dAdd y.f1 y.f2 y.f3).f1).2=true
   ·rw [if_pos c1]at ht
    exact absurd (show (7:Int)=0 from ht) (by decide)
   rw [if_neg c1]at ht ⊢
   by_cases c2:m.f4.length=12
   ·rw [if_pos c2]at ht
    exact absurd (show (6:Int)=0 from ht) (by decide)
   rw [if_neg c2]at ht ⊢
   by_cases c3:Topo.Nodes (putN (addN (dAdd y.f1 y.f2 y.f3)) m.f4)
   ·rw [if_pos c3]
    refine ⟨⟨?_,c2,c3⟩,rfl⟩
    cases hf:m.f4.find? (fun x=>decide (x.f0=y.f1)) with
    | none=>rfl
    | some n' =>
     exfalso
     apply c1
     show (Topo.find m.f4 y.f1).2=true
     unfold Topo.find
     rw [hf]
   ·rw [if_neg c3]at ht
    exact absurd (show (1:Int)=0 from ht) (by decide)
  obtain ⟨⟨a1,a2,a3⟩,a4⟩:=hadd
  have hga:=qJe (m:=m) hL (T:=qKZ m) a1 a2 a3
  obtain ⟨_,hax⟩ | ⟨c7,_⟩:=hga.does m h.self h0
  rotate_left
  ·exact absurd (show (1:Int)=7 from c7) (by decide)
  have hl8:=qHa hx y.f1 y.f4
  have hsh:=pshift hx hsx (id:=y.f1) (wt:=y.f4) hn
  refine .o (a:=dAdd y.f1 y.f2 y.f3) rfl (.e ha (.o (a:=dAdd y.f1 y.f2 y.f3) rfl (.e hsh ?_)))
  have hsl:=qGU (qKb m (dAdd y.f1 y.f2 y.f3)).1 (qKb m (dAdd y.f1 y.f2 y.f3)).1.f4 (qKZ (qKb m (dAdd y.f1 y.f2 y.f3)).1) n y.f1 y.f4 _ hl8
  refine .t (by rw [List.length_singleton]; omega) (.c fun _=>?_)
  have ef1:=hax.f1
  have ef3:=hax.f3
  have eT:qKZ (qKb m (dAdd y.f1 y.f2 y.f3)).1=qKZ m:=funext hax.temps
  have hmm:=fun g=>qHZ hx y.f1 y.f4 g
  have hmn:=qFV (qKb m (dAdd y.f1 y.f2 y.f3)).1 y.f1 y.f4
  generalize (qKb m (dAdd y.f1 y.f2 y.f3)).1=x at hn a4 ef1 ef3 eT hsl hmm hmn hx ⊢
  rw [a4]at hn
  have hoth:∀ g,Oth x x.f4 (qKZ x) y.f1 y.f4 g↔Oth m (putN ⟨y.f1,y.f2,y.f3,0,false,true⟩ m.f4) (qKZ m) y.f1 y.f4 g:=fun g=>by unfold Oth; rw [ef1,a4,eT]
  have hraw:∀ g,rawT x x.f4 (qKZ x) g=rawT m (putN ⟨y.f1,y.f2,y.f3,0,false,true⟩ m.f4) (qKZ m) g:=fun g=>by unfold rawT; rw [ef1,a4,eT]
  obtain ⟨c1,c2⟩:=qEr (m:=m) hf1 a3 (T:=qKZ m) hn hw hmn fun g=>by rw [hmm,hoth,hraw,ef3]
  have el:shiftL x x.f4 (qKZ x) n y.f1 y.f4 (mindL x y.f1 y.f4)=shiftL m (putN ⟨y.f1,y.f2,y.f3,0,false,true⟩ m.f4) (qKZ m) n y.f1 y.f4 (mindL x y.f1 y.f4):=by
   unfold shiftL
   rw [funext hraw,eT]
  rw [el]at hsl ⊢
  refine ⟨⟨_,_,c1,.cons hL a3 hga c2,fun w hwA=>?_⟩,?_,fun q=>absurd q (by omega)⟩
  ·obtain ⟨f1,f2,_⟩:=hwA.find (qDV a3 hn)
   unfold reachB
   rw [if_neg (by omega),if_pos (by omega),f1,f2,Bool.true_and]
   exact beq_iff_eq.2 rfl
  ·show ([dAdd y.f1 y.f2 y.f3]++_).length<=30
   rw [lA,List.length_singleton]
   omega
 ·rw [if_neg q3]at hc
  obtain ⟨n,hn⟩:=hc
  have hmm:=fun wt g=>qHZ h y.f1 wt g
  have hch:=fun (wt:Int) (hw:0<=wt/\wt<=65536)=>qEr (m:=m) hf1 hL (T:=qKZ m) hn hw (qFV m y.f1 wt) (hmm wt)
  have hsl:=fun wt=>qGU m m.f4 (qKZ m) n y.f1 wt _ (qHa h y.f1 wt)
  have hsk:=fun wt=>qGx m m.f4 (qKZ m) n y.f1 wt (mindL m y.f1 wt)
  refine .i (fun q4=>?_) fun q4=>?_
  ·-- a node is taken away
   obtain ⟨c1,c2⟩:=hch 0 (by decide)
   have hsf:=qDV hL hn (wt:=0)
   have ef:(Topo.find m.f4 y.f1).1=n:=by unfold Topo.find; rw [hn]
   refine .e (pshift h hm (id:=y.f1) (wt:=0) hn) (.e (tfind hL y.f1) ?_)
   rw [ef]
   have hsl0:=hsl 0
   generalize shiftL m m.f4 (qKZ m) n y.f1 0 (mindL m y.f1 0)=l at hsl0 c2 ⊢
   generalize (fun x=>if x ∈ mindL m y.f1 0 then [] else qKZ m x)=T2 at c2
   generalize shiftN m.f4 y.f1 0=L2 at c1 c2 hsf
   have fin:∀ {L3:List qA} {l3:List qF} {n3:qA},Topo.Nodes L3->Chain m m.f4 (qKZ m) l3 L3 T2->L3.find? (fun x=>decide (x.f0=y.f1))=some n3->n3.f3=0->l3.length<=18->Ht (fun k=>qBd.j112 k y l3) (fun r=>r.2=0->Plan m y r.1):=by
    intro L3 l3 n3 hL3 hc3 hf3 h30 hl3
    refine .s (qBd.j112_s · _ _) (.t (by omega) (.c fun _=>?_))
    have hD:=qEC hL3 y.f1
    refine ⟨⟨_,_,hD,hc3.append (.cons hL3 hD (qIx hL3 hf3 h30) (.nil _ _)),fun w hwA=>?_⟩,?_,fun q=>absurd q (by omega)⟩
    ·have hno:w.f4.find? (fun x=>decide (x.f0=y.f1))=none:=qEG hwA.nodes (by
      unfold dropN
      rw [List.find?_filter,List.find?_eq_none]
      intro x _
      simp)
     unfold reachB Topo.find
     rw [if_neg (by omega),if_neg (by omega),if_pos q4,hno]
     rfl
    ·show (l3++[dGone y.f1]).length<=30
     rw [lA,List.length_singleton]
     omega
   refine .i (fun q5=>.t (by omega) ?_) fun _=>fin c1 c2 hsf rfl (by omega)
   obtain ⟨o1,o2⟩:=qJd (m:=m) c1 (T:=T2) hsf rfl q5
   exact fin o1 (c2.append (.cons c1 o1 o2 (.nil _ _))) (qDd c1.up ⟨n.f0,n.f1,n.f2,0,n.f4,false⟩ (qCo hn).2) rfl (by rw [lA,List.length_singleton]; omega)
  ·refine .e (pweight y) ?_
   by_cases q1:y.f0=1
   ·rw [if_pos (.inl q1)]
    obtain ⟨c1,c2⟩:=hch 0 (by decide)
    refine .e (pshift h hm (id:=y.f1) (wt:=0) hn) (.c fun _=>⟨⟨_,_,c1,c2,fun w hwA=>?_⟩,?_,fun _=>hsk 0⟩)
    ·obtain ⟨_,f2,_⟩:=hwA.find (qDV hL hn (wt:=0))
     have hst:=hwA.stands c1 (id:=y.f1) fun g hg=>qFl (hmm 0) g hg
     unfold reachB
     rw [if_pos q1,f2,hst]
     rfl
    ·have:=hsl 0
     show (shiftL m m.f4 (qKZ m) n y.f1 0 (mindL m y.f1 0)).length<=30
     omega
   ·rw [if_neg (by omega)]
    obtain ⟨c1,c2⟩:=hch y.f4 hw
    refine .e (pshift h hm (id:=y.f1) (wt:=y.f4) hn) (.c fun _=>⟨⟨_,_,c1,c2,fun w hwA=>?_⟩,?_,fun q=>absurd q q1⟩)
    ·obtain ⟨f1,f2,_⟩:=hwA.find (qDV hL hn (wt:=y.f4))
     unfold reachB
     rw [if_neg q1,if_pos (by omega),f1,f2,Bool.true_and]
     exact beq_iff_eq.2 rfl
    ·have:=hsl y.f4
     show (shiftL m m.f4 (qKZ m) n y.f1 y.f4 (mindL m y.f1 y.f4)).length<=30
     omega
theorem aw:Ev (fun k=>(qAW.f k).bind fun t=>some t) true:=.b awakes (.c _)
theorem restN{w:qD}{N:Nat}(hN:w.f3.toNat=N){c:List Bool}(h:∀ j:Nat,j<N->restB w c (j:Int)=true):restL w c=idsU N:=by
 unfold restL
 rw [hN,List.filter_eq_self]
 intro g hg
 have:=qDU.1 hg
 obtain ⟨j,rfl⟩:∃ j:Nat,g=(j:Int):=⟨g.toNat,by omega⟩
 exact h j (by omega)
theorem qIz{w:qD}{N:Nat}(hf:w.f3=(N:Int))(h8:N<=8)(hN:w.f3.toNat=N){c:List Bool}(hs:SoundC w c)(hr:∀ j:Nat,j<N->restB w c (j:Int)=true)(d:qF):gateL w d c 8=(qKb w d).2\/((qKb w d).2=0/\gateL w d c 8=12):=by
 have hrl:=restN hN hr
 unfold gateL
 rw [if_pos ⟨hs,by decide,by decide⟩]
 by_cases he:(qKb w d).2=0
 ·rw [if_pos he]
  by_cases ht:touchL w (qKb w d).1=[]
  ·rw [if_pos ht]
   exact .inl he.symm
  ·rw [if_neg ht,if_neg]
   ·split
    ·exact .inl he.symm
    ·exact .inr ⟨he,rfl⟩
   ·have hlt:=qHW (x:=(qKb w d).1) hN
    have hlen:(touchL w (qKb w d).1).length<=N:=by unfold touchL; rw [hN]; exact qDi _ _
    rintro (q | q)
    ·obtain ⟨g,hg,hq⟩:=List.any_eq_true.1 q
     have:=hlt g hg
     obtain ⟨j,rfl⟩:∃ j:Nat,g=(j:Int):=⟨g.toNat,by omega⟩
     rw [hr j (by omega)]at hq
     exact absurd hq (by decide)
    ·rw [hrl,qHV]at q
     omega
 ·rw [if_neg he]
  exact .inl rfl
def Behind(m:qD)(l:List qF)(a i:Nat)(L:List qA)(T:Int->List Int):Prop:=a=i\/(a+1=i/\∃ h:a<l.length,∀ w,At m L T w->w.f0<2147483647->(qKb w l[a]).2=7\/(qKb w l[a]).2=5)
theorem qEs{m w:qD}{l:List qF}{a i:Nat}{L:List qA}{T:Int->List Int}(hb:Behind m l a i L T)(hA:At m L T w)(h0:w.f0<2147483647)(c:List Bool):stepAt w c 8 a (l.drop a)=stepAt w c 8 i (l.drop i):=by
 rcases hb with rfl | ⟨rfl,h1,h⟩
 ·rfl
 ·rw [List.drop_eq_getElem_cons h1,stepAt,if_pos (h w hA h0)]
theorem go{m:qD}{N:Nat}(hf:m.f3=(N:Int))(h8:N<=8)(y:qAN)(l:List qF)(hl:l.length<=30)(c:List Bool)(hc:c.length=N)(hct:∀ j:Nat,j<N->nth false c (j:Int)=true){L L':List qA}{T T':Int->List Int}{rest:List qF}(hch:Chain m L T rest L' T')(h6:∀ d ∈ l,d.f6.length<=20)(hr:∀ w,At m L' T' w->reachB w y=true):
  ∀(i a:Nat)(w:qD),i+rest.length=l.length->l.drop i=rest->Behind m l a i L T->At m L T w->Pasts (20+9 * i) w->w.f0<=100000+9 * (i:Int)->Ev (fun k=>qN.l110 k y l c (i:Int) l (a:Int) 8 w.f0 w.f1 w.f2 w.f3 w.f4 w.f5 w.f6) true:=by
 induction hch with
 | nil L T =>
  intro i a w hi hdrop hB hA hP h0
  rw [List.length_nil]at hi
  have clean:∀(n g:Nat),g+n=N->∀ v:qD,At m L T v->Pasts (20+9 * i+g) v->v.f0<=100000+9 * (i:Int)+(g:Int)->(∀ j:Nat,j<g->(nth qC.z v.f6 (j:Int)).f1=[])->Ev (fun k=>qN.l138 k y l c (i:Int) l (a:Int) 8 (g:Int) v.f0 v.f1 v.f2 v.f3 v.f4 v.f5 v.f6) true:=by
   intro n
   induction n with
   | zero =>
    intro g hg v hv hPv hv0 hcl
    have hf3:=hv.f3
    have hsm:=hv.may.small (by omega) hPv
    have hs:SoundC v c:=⟨hv.may,by omega⟩
    have hw:WorkOk ⟨l,(a:Int),8⟩:=⟨by show (l.length:Int)<=100; omega,⟨by show (0:Int)<=(a:Int); omega,by show (a:Int)<=(l.length:Int); rcases hB with e | ⟨e,_⟩ <;> omega⟩,(by decide:(1:Int)<=8),(by decide:(8:Int)<=8)⟩
    have hn:=gnext hw h6 hs hsm (b:=20+9 * i+g) (by omega) hPv (a:=a) rfl
    rw [show (⟨l,(a:Int),8⟩:qAm).f0=l from rfl,show (⟨l,(a:Int),8⟩:qAm).f2=8 from rfl,qEs hB hv (by omega) c,hdrop]at hn
    refine .s (qN.l138_s · _ _ _ _ _ _ _ _ _ _ _ _ _ _ _) (.n (by omega) (.b hn (.n ?_ (.t rfl (.b (preaches hv.may hsm y) ?_)))))
    ·show ¬ (i:Int)<(a:Int)
     rcases hB with e | ⟨e,_⟩ <;> omega
    ·rw [hr v hv]
     exact .t rfl aw
   | succ n ihn =>
    intro g hg v hv hPv hv0 hcl
    have hf3:=hv.f3
    have hlen:=hv.may.2.2.1
    have hgl:g<v.f6.length:=by omega
    obtain ⟨e6,e0⟩:=qFT hv.may (by omega) g hgl
    refine .s (qN.l138_s · _ _ _ _ _ _ _ _ _ _ _ _ _ _ _) (.t (by omega) (.t (by omega) (.b (rnext hv.may (dClean v g) (Nat.zero_lt_succ _) (by omega) hPv) ?_)))
    rw [w64n g (by omega)]
    refine ihn (g+1) (by omega) _ (qIy hv (.inr (.inr rfl))) (qEF hPv _) (by rw [e0]; omega) fun j hj=>?_
    rw [e6]
    by_cases cj:j=g
    ·subst cj
     have h2:j<(v.f6.set j ⟨v.f6[j].f0,[]⟩).length:=by rw [List.length_set]; exact hgl
     rw [nth_get _ _ _ h2,List.getElem_set_self]
    ·have hjl:j<v.f6.length:=by omega
     have h2:j<(v.f6.set g ⟨v.f6[g].f0,[]⟩).length:=by rw [List.length_set]; exact hjl
     have:=hcl j (by omega)
     rw [nth_get _ _ _ hjl]at this
     rw [nth_get _ _ _ h2,List.getElem_set_ne (by omega)]
     exact this
  exact .s (qN.l110_s · _ _ _ _ _ _ _ _ _ _ _ _ _ _) (.t (by omega) (clean N 0 (Nat.zero_add _) w hA hP (by omega) fun j hj=>absurd hj (by omega)))
 | cons hL hL2 hd ht ih =>
  rename_i La Lb Lc Ta Tb Tc d rs
  intro i a w hi hdrop hB hA hP h0
  rw [List.length_cons]at hi
  have h1:i<l.length:=by omega
  have hdrop':=hdrop
  rw [List.drop_eq_getElem_cons h1]at hdrop'
  obtain ⟨hdi,hrs⟩:=List.cons.inj hdrop'
  have ih:=ih hr
  have clean:∀(n g:Nat),g+n=N->∀ v:qD,At m La Ta v->Pasts (20+9 * i+g) v->v.f0<=100000+9 * (i:Int)+(g:Int)->(∀ j:Nat,j<g->(nth qC.z v.f6 (j:Int)).f1=[])->Ev (fun k=>qN.l138 k y l c (i:Int) l (a:Int) 8 (g:Int) v.f0 v.f1 v.f2 v.f3 v.f4 v.f5 v.f6) true:=by
   intro n
   induction n with
   | zero =>
    intro g hg v hv hPv hv0 hcl
    have hf3:=hv.f3
    have hsm:=hv.may.small (by omega) hPv
    have hs:SoundC v c:=⟨hv.may,by omega⟩
    have hw:WorkOk ⟨l,(a:Int),8⟩:=⟨by show (l.length:Int)<=100; omega,⟨by show (0:Int)<=(a:Int); omega,by show (a:Int)<=(l.length:Int); rcases hB with e | ⟨e,_⟩ <;> omega⟩,(by decide:(1:Int)<=8),(by decide:(8:Int)<=8)⟩
    have hn:=gnext hw h6 hs hsm (b:=20+9 * i+g) (by omega) hPv (a:=a) rfl
    have hdoes:=hd.does v hv (by omega)
    have hgr:=qIz (N:=N) (by omega) h8 (by omega) hs (fun j hj=>by
     unfold restB
     rw [hct j hj,hcl j (by omega)]
     rfl) d
    have hst:stepAt v c 8 i (d :: rs)=if gateL v d c 8=0 then ((i:Int),d,0) else ((i:Int),noD,gateL v d c 8):=by
     rw [stepAt,if_neg]
     rcases hdoes with ⟨e,_⟩ | ⟨_,e⟩ <;> omega
    rw [show (⟨l,(a:Int),8⟩:qAm).f0=l from rfl,show (⟨l,(a:Int),8⟩:qAm).f2=8 from rfl,qEs hB hv (by omega) c,hdrop,hst]at hn
    refine .s (qN.l138_s · _ _ _ _ _ _ _ _ _ _ _ _ _ _ _) (.n (by omega) (.b hn (.n ?_ ?_)))
    ·split
     ·show ¬ (i:Int)<(a:Int)
      rcases hB with e | ⟨e,_⟩ <;> omega
     ·show ¬ (i:Int)<(a:Int)
      rcases hB with e | ⟨e,_⟩ <;> omega
    by_cases hg0:gateL v d c 8=0
    ·rw [if_pos hg0]
     have he:(qKb v d).2=0:=by
      rcases hgr with e | ⟨e,_⟩
      ·exact e.symm.trans hg0
      ·exact e
     obtain ⟨_,hx⟩ | ⟨_,e⟩:=hdoes
     rotate_left
     ·exact absurd he (by omega)
     have hnx:nextL v d=(qKb v d).1:=by unfold nextL; rw [if_neg (fun q=>q.1 he)]
     have hlen:=hd.len
     rw [← hnx]at hx
     have hN9:(nextL v d).f0<=v.f0+1:=qKR _ _
     refine .n (show ¬ (0:Int)=5 by decide) (.t rfl (.b (rnext hv.may d (by omega) (by omega) hPv) ?_))
     rw [w64n i (by omega)]
     exact ih (i+1) i _ (by omega) hrs (.inr ⟨rfl,h1,fun u hu hu0=>by rw [hdi]; exact hd.again u hu hu0⟩) hx (fun t ht=>by have:=qEF hPv d t ht; omega) (by omega)
    ·rw [if_neg hg0]
     rcases hgr with e | ⟨_,e⟩
     ·rcases hdoes with ⟨e0,_⟩ | ⟨e7,e11⟩
      ·exact absurd (e.trans e0) hg0
      ·rw [e,e11]
       refine .n (show ¬ (11:Int)=5 by decide) (.n (show ¬ (11:Int)=0 by decide) (.n (show ¬ (11:Int)=12 by decide) (.t rfl (.t ⟨by show 0<=(i:Int); omega,by show (i:Int)<(l.length:Int); omega⟩ ?_))))
       show Ev (fun k=>if (nth qF.z l (i:Int)).f0=7 then ((qAW.f k).bind fun t224=>(some t224)) else (some false)) true
       rw [nth_get _ _ _ h1,hdi]
       exact .t e7 aw
     ·rw [e]
      exact .n (show ¬ (12:Int)=5 by decide) (.n (show ¬ (12:Int)=0 by decide) (.t rfl aw))
   | succ n ihn =>
    intro g hg v hv hPv hv0 hcl
    have hf3:=hv.f3
    have hlen:=hv.may.2.2.1
    have hgl:g<v.f6.length:=by omega
    obtain ⟨e6,e0⟩:=qFT hv.may (by omega) g hgl
    refine .s (qN.l138_s · _ _ _ _ _ _ _ _ _ _ _ _ _ _ _) (.t (by omega) (.t (by omega) (.b (rnext hv.may (dClean v g) (Nat.zero_lt_succ _) (by omega) hPv) ?_)))
    rw [w64n g (by omega)]
    refine ihn (g+1) (by omega) _ (qIy hv (.inr (.inr rfl))) (qEF hPv _) (by rw [e0]; omega) fun j hj=>?_
    rw [e6]
    by_cases cj:j=g
    ·subst cj
     have h2:j<(v.f6.set j ⟨v.f6[j].f0,[]⟩).length:=by rw [List.length_set]; exact hgl
     rw [nth_get _ _ _ h2,List.getElem_set_self]
    ·have hjl:j<v.f6.length:=by omega
     have h2:j<(v.f6.set g ⟨v.f6[g].f0,[]⟩).length:=by rw [List.length_set]; exact hjl
     have:=hcl j (by omega)
     rw [nth_get _ _ _ hjl]at this
     rw [nth_get _ _ _ h2,List.getElem_set_ne (by omega)]
     exact this
  exact .s (qN.l110_s · _ _ _ _ _ _ _ _ _ _ _ _ _ _) (.t (by omega) (clean N 0 (Nat.zero_add _) w hA hP (by omega) fun j hj=>absurd hj (by omega)))
end Maps
open Maps in
theorem pureGateDrains:PureGateDrains:=by
 intro m y _ _
 refine Ev.one (f:=fun k=>qN.f k m y) (v:=true) ?_
 have out:Ev (fun k=>qN.j17 k m y true) true:=.s (qN.j17_s · _ _ _) (.t rfl aw)
 unfold qN.f
 obtain ⟨b,hb,hL⟩:=Maps.light m
 refine .b hb ?_
 cases b with
 | false=>exact .n nF out
 | true =>
  have h8:=hL rfl
  refine .t rfl (.b (may m h8.small) ?_)
  by_cases h:May m
  rotate_left
  ·rw [dF h]
   exact .n nF out
  rw [dT h]
  refine .t rfl ?_
  by_cases he:m.f0>100000
  ·rw [dT he]
   exact out
  rw [dF he]
  obtain ⟨r,hr,hp⟩:=plan h h8.small (b:=20) (by decide) h8.pasts (by omega) y
  obtain ⟨N,e3,hN8,eN⟩:=groupsN h
  refine .s (qN.j17_s · _ _ _) (.n nF (.b hr (.i (fun q=>.t ⟨by omega,by omega⟩ ?_) fun _=>aw)))
  obtain ⟨⟨L',T',hL',hc,hre⟩,hlen,_⟩:=hp q
  have h6:∀ d ∈ r.1,d.f6.length<=20:=by
   have key:∀ {L:List qA} {T:Int->List Int} {l:List qF} {L2:List qA} {T2:Int->List Int},Chain m L T l L2 T2->∀ d ∈ l,d.f6.length<=20:=by
    intro L T l L2 T2 hch
    induction hch with
    | nil=>intro d hd; cases hd
    | cons _ _ hg _ ih =>
     intro d hd
     rcases List.mem_cons.1 hd with rfl | hd
     ·have:=hg.len
      omega
     ·exact ih d hd
   exact key hc
  rw [eN]
  have loop:∀(d i:Nat)(c:List Bool),i+d=N->c.length=N->(∀ j:Nat,j<i->nth false c (j:Int)=true)->Ev (fun k=>qN.l57 k m y r c (i:Int)) true:=by
   intro d
   induction d with
   | zero =>
    intro i c hi hcl hct
    obtain rfl:i=N:=by omega
    refine .s (qN.l57_s · _ _ _ _ _) (.n (by omega) ?_)
    exact go e3 hN8 y r.1 hlen c hcl hct hc h6 hre 0 0 m (Nat.zero_add _) rfl (.inl rfl) h.self h8.pasts (by omega)
   | succ d ih =>
    intro i c hi hcl hct
    refine .s (qN.l57_s · _ _ _ _ _) (.t (by omega) (.t (by rw [List.length_replicate]; omega) ?_))
    rw [w64n i (by omega),tN]
    refine ih (i+1) _ (by omega) (by rw [List.length_set]; exact hcl) fun j hj=>?_
    have h2:j<(c.set i true).length:=by rw [List.length_set]; omega
    rw [nth_get _ _ _ h2]
    by_cases cj:j=i
    ·subst cj
     rw [List.getElem_set_self]
    ·have:=hct j (by omega)
     rw [nth_get _ _ _ (by omega)]at this
     rw [List.getElem_set_ne (by omega)]
     exact this
  exact loop N 0 _ (Nat.zero_add _) List.length_replicate fun j hj=>absurd hj (by omega)
end Go.Proofs.YthgfhlbjkmjlpaaGreat.GD
