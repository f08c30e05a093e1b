import Derived.Test.YtpabbpebefdafaaGreatSlH
import Derived.Scope
namespace Go.Proofs.YtpabbpebefdafaaGreat.Sl
open Go Go.RowKit
set_option linter.unusedVariables false
set_option linter.unusedSimpArgs false
abbrev OA:=Option Addr
abbrev NV:=Nat→Value
abbrev iv(x:Int):Value:=.int .i64 x
abbrev ki:Kn Int:=Kn.int .i64
abbrev pb(b:Nat):Option Addr:=some ⟨b,0,none⟩
theorem gd{α : Type}{c:Prop}[Decidable c]{o:Option α}{r : α}(H:(if c then o else none)=some r):c∧o=some r:=by
 by_cases h:c
 ·rw [if_pos h]at H
  exact ⟨h,H⟩
 ·rw [if_neg h]at H
  cases H
theorem sp{α : Type}{c:Prop}[Decidable c]{a b:Option α}{r : α}(H:(if c then a else b)=some r):(c∧a=some r)∨(¬ c∧b=some r):=by
 by_cases h:c
 ·rw [if_pos h]at H
  exact .inl ⟨h,H⟩
 ·rw [if_neg h]at H
  exact .inr ⟨h,H⟩
theorem bd{α β : Type}{o:Option α}{f : α→Option β}{r : β}(H:o.bind f=some r):∃ t,o=some t∧f t=some r:=Option.bind_eq_some_iff.mp H
theorem si{α : Type}{a r : α}(H:some a=some r):a=r:=Option.some.inj H
def opAt(ops:Array Oper)(i:Nat):Oper:=ops.toList.getD i default
def dstAt(ops:Array Oper)(i:Nat):Nat:=(opAt ops i).dst.getD 0
theorem qEz{ops:Array Oper}{i:Nat}(h:Nat.blt i ops.size=true):ops[i]? = some (opAt ops i):=by
 have hi:i<ops.size:=by simpa [Nat.blt_eq] using h
 unfold opAt
 rw [List.getD_eq_getElem?_getD,List.getElem?_eq_getElem (by simpa using hi),Array.getElem?_eq_getElem hi]
 rfl
def pureE(P:Program)(E:Nat→Value)(o:Oper):Option Value :=
 match o.op with
 | .call c=>match c.callee with
  | .builtin .len=>match c.args.toList,c.argTypes.toList with
   | [x],[t]=>match P.underlying t,ev E x with
    | some (.slice _),.slice _ m _=>some (.int .i64 m)
    | some .string,.string s=>some (.int .i64 s.size)
    | _,_=>none
   | _,_=>none
  | _=>match still P (execOp (ev E) o) with
   | some (.value v)=>some v
   | _=>none
 | .build t parts=>still P (Instr.build t (parts.toList.map fun p=>(p.1,ev E p.2)).toArray)
 | .makeFunc f first caps=>some (.func f (first.toList.map (ev E)).toArray (caps.toList.map (ev E)).toArray)
 | _=>match still P (execOp (ev E) o) with
  | some (.value v)=>some v
  | _=>none
theorem qGU{α β : Type}(f : α→β)(a:Array α):a.map f=(a.toList.map f).toArray:=by
 apply Array.ext'
 rw [Array.toList_map]
theorem qFh{P:Program}{E:Nat→Value}{o:Oper}{v:Value}(h:pureE P E o=some v):YA P E o v:=by
 intro w
 unfold pureE at h
 have fin:∀ {v:Value},(match still P (execOp (ev E) o) with | some (.value v)=>some v | _=>none)=some v→(execOp (ev E) o).run P w = .ok (.value v) w:=by
  intro v h
  cases hs:still P (execOp (ev E) o) with
  | none=>rw [hs]at h; cases h
  | some x =>
   rw [hs]at h
   cases x with
   | value u=>injection h with h; subst h; exact qCp hs w
   | _=>cases h
 split at h
 ·rename_i c hop
  split at h
  ·rename_i hcal
   split at h
   ·rename_i x t hx ht
    have hargs:c.args = #[x]:=Array.ext' hx
    have htys:c.argTypes = #[t]:=Array.ext' ht
    obtain ⟨cal,args,tys⟩:=c
    simp only at hcal hargs htys
    subst hcal hargs htys
    split at h
    ·rename_i hu hv
     injection h with h
     subst h
     exact qHU hop hv hu w
    ·rename_i hu hv
     injection h with h
     subst h
     exact qHD hop hv hu w
    ·cases h
   ·cases h
  ·exact fin h
 ·rename_i t parts hop
  exact qHE _ v hop rfl (fun w=>qCp h w) w
 ·rename_i f first caps hop
  injection h with h
  subst h
  unfold execOp
  simp [hop,Instr.makeFunc,qGU]
 ·exact fin h
section
variable {P:Program} {ops:Array Oper} {Q:Exit→Act→World→Prop} {n:Nat} {E E':Nat→Value} {a:Act} {w:World} {S SX:World→Prop} {D:Dr}
def okS(ops:Array Oper)(n:Nat)(E:Nat→Value)(i:Nat):Bool:=(Nat.blt i ops.size&&okD n (opAt ops i).dst)&&wantE E ops (opAt ops i)
theorem qCm{i:Nat}(h:okS ops n E i=true):ops[i]? = some (opAt ops i)∧okD n (opAt ops i).dst=true∧wantE E ops (opAt ops i)=true:=by
 simp only [okS,Bool.and_eq_true]at h
 exact ⟨qEz h.1.1,h.1.2,h.2⟩
def dstB(ops:Array Oper)(i:Nat):Bool:=(opAt ops i).dst.isSome
theorem qCq{i:Nat}(h:dstB ops i=true):(opAt ops i).dst=some (dstAt ops i):=by
 unfold dstB at h
 unfold dstAt
 cases hd:(opAt ops i).dst with
 | none=>rw [hd]at h; cases h
 | some d=>rfl
def stepK(P:Program)(ops:Array Oper)(n:Nat)(E:Nat→Value)(i:Nat):Option (Nat→Value) :=
 match (Nat.blt i ops.size&&okD n (opAt ops i).dst)&&dstB ops i with
 | true=>match wantE E ops (opAt ops i) with
  | true=>match pureE P E (opAt ops i) with
   | some v=>putE E (some (dstAt ops i)) v
   | none=>none
  | false=>some (upd E (dstAt ops i) undef)
 | false=>none
def runK(P:Program)(ops:Array Oper)(n:Nat):List Nat→(Nat→Value)→Option (Nat→Value)
 | [],E=>some E
 | i :: is,E=>match stepK P ops n E i with
  | some E1=>runK P ops n is E1
  | none=>none
def outK(P:Program)(ops:Array Oper)(n:Nat)(l:List Nat)(E:Nat→Value):Nat→Value :=
 match runK P ops n l E with
 | some E'=>E'
 | none=>E
def okK(P:Program)(ops:Array Oper)(n:Nat)(l:List Nat)(E:Nat→Value):Bool:=(runK P ops n l E).isSome
theorem qEf{E1 E2:Nat→Value}{i:Nat}{is:List (Nat × Nat)}(h:stepK P ops n E i=some E1)(hc:ChainD P S SX ops n E1 is E2):ChainD P S SX ops n E ((i,1) :: is) E2:=by
 unfold stepK at h
 cases hb:(Nat.blt i ops.size&&okD n (opAt ops i).dst)&&dstB ops i with
 | false=>rw [hb]at h; cases h
 | true =>
  rw [hb]at h
  simp only [Bool.and_eq_true]at hb
  obtain ⟨⟨h1,h2⟩,h3⟩:=hb
  have hd:=qCq h3
  have ho:=qEz h1
  cases hw:wantE E ops (opAt ops i) with
  | true =>
   rw [hw]at h
   simp only at h
   cases hp:pureE P E (opAt ops i) with
   | none=>rw [hp]at h; cases h
   | some v =>
    rw [hp]at h
    obtain rfl:=qEE h
    exact .q i (dstAt ops i) ho hd (by rw [hd]at h2; exact h2) hw (qFh hp) hc
  | false =>
   rw [hw]at h
   simp only [Option.some.injEq]at h
   subst h
   refine .p i ?_ hc
   unfold stepE
   rw [ho]
   simp only [h2,hw]
   rw [hd]
theorem qDj{E2:Nat→Value}{is:List (Nat × Nat)}: ∀ {l:List Nat} {E E1:Nat→Value},runK P ops n l E=some E1→ChainD P S SX ops n E1 is E2→ChainD P S SX ops n E (l.map (fun i=>(i,1))++is) E2
 | [],E,E1,h,hc=>by
  rw [runK]at h
  obtain rfl:=Option.some.inj h
  exact hc
 | i :: l,E,E1,h,hc=>by
  rw [runK]at h
  cases hs:stepK P ops n E i with
  | none=>rw [hs]at h; cases h
  | some E3 =>
   rw [hs]at h
   exact qEf hs (qDj h hc)
theorem ChainD.r{E2:Nat→Value}{is:List (Nat × Nat)}(i m:Nat)(hc:ChainD P S SX ops n (outK P ops n (List.range' i m) E) is E2)(h:okK P ops n (List.range' i m) E=true:=by kernel_rfl):ChainD P S SX ops n E ((List.range' i m).map (fun i=>(i,1))++is) E2:=by
 unfold okK at h
 cases hr:runK P ops n (List.range' i m) E with
 | none=>rw [hr]at h; cases h
 | some E1 =>
  unfold outK at hc
  rw [hr]at hc
  exact qDj hr hc
def ldK(P:Program)(ops:Array Oper)(n:Nat)(E:Nat→Value)(i:Nat):Option Addr :=
 match okS ops n E i&&dstB ops i,(opAt ops i).op with
 | true,.load t x=>match aggB P t,ev E x with
  | some false,.pointer (some a)=>some a
  | _,_=>none
 | _,_=>none
def ldnK(P:Program)(ops:Array Oper)(n:Nat)(E:Nat→Value)(i:Nat):Option (Addr × Nat) :=
 match okS ops n E i&&dstB ops i,(opAt ops i).op with
 | true,.load t x=>match aggB P t,ev E x,sizeB P t with
  | some true,.pointer (some a),some z=>some (a,z)
  | _,_,_=>none
 | _,_=>none
theorem qFA{i:Nat}{p:Addr}(h:ldK P ops n E i=some p):okS ops n E i=true∧dstB ops i=true∧∃ t x,(opAt ops i).op = .load t x∧aggB P t=some false∧ev E x = .pointer (some p):=by
 unfold ldK at h
 split at h
 ·rename_i t x hb hop
  simp only [Bool.and_eq_true]at hb
  split at h
  ·rename_i q hg hx
   injection h with h
   subst h
   exact ⟨hb.1,hb.2,t,x,hop,hg,hx⟩
  ·cases h
 ·cases h
theorem qEK{i z:Nat}{p:Addr}(h:ldnK P ops n E i=some (p,z)):okS ops n E i=true∧dstB ops i=true∧∃ t x,(opAt ops i).op = .load t x∧aggB P t=some true∧ev E x = .pointer (some p)∧sizeB P t=some z:=by
 unfold ldnK at h
 split at h
 ·rename_i t x hb hop
  simp only [Bool.and_eq_true]at hb
  split at h
  ·rename_i q z' hg hx hz
   injection h with h
   injection h with h1 h2
   subst h1 h2
   exact ⟨hb.1,hb.2,t,x,hop,hg,hx,hz⟩
  ·cases h
 ·cases h
theorem qFi{E2:Nat→Value}{i:Nat}{is:List (Nat × Nat)}{v:Value}(h:okS ops n E i=true)(hd:dstB ops i=true)(hy:YS P S E (opAt ops i) v)(hc:ChainD P S SX ops n (upd E (dstAt ops i) v) is E2):ChainD P S SX ops n E ((i,0) :: is) E2:=by
 obtain ⟨h1,h2,h3⟩:=qCm h
 have hd':=qCq hd
 exact .v i _ h1 hd' (by rw [hd']at h2; exact h2) h3 hy hc
theorem qFj{E2:Nat→Value}{i:Nat}{is:List (Nat × Nat)}{v:Value}(h:okS ops n E i=true)(hd:dstB ops i=true)(hy:YA P E (opAt ops i) v)(hc:ChainD P S SX ops n (upd E (dstAt ops i) v) is E2):ChainD P S SX ops n E ((i,1) :: is) E2:=by
 obtain ⟨h1,h2,h3⟩:=qCm h
 have hd':=qCq hd
 exact .q i _ h1 hd' (by rw [hd']at h2; exact h2) h3 hy hc
theorem ChainD.c{E2:Nat→Value}{is:List (Nat × Nat)}(i:Nat){p:Addr}{v:Value}(hv:w.cell? p=some v)(hc:ChainD P (Agr w) SX ops n (upd E (dstAt ops i) v) is E2)(h:ldK P ops n E i=some p:=by kernel_rfl):ChainD P (Agr w) SX ops n E ((i,0) :: is) E2:=by
 obtain ⟨h1,h2,t,x,h3,h4,h5⟩:=qFA h
 exact qFi h1 h2 (fun w' hw=>qEx h3 h5 (qDh h4 (hw.cell hv))) hc
theorem ChainD.cs{E2:Nat→Value}{is:List (Nat × Nat)}(i:Nat){p:Addr}{vs:List Value}(hv:∀(j:Nat)(u:Value),vs[j]? = some u→w.cell? (p.add j)=some u)(hc:ChainD P (Agr w) SX ops n (upd E (dstAt ops i) (.agg vs.toArray)) is E2)(h:ldnK P ops n E i=some (p,vs.length):=by kernel_rfl):ChainD P (Agr w) SX ops n E ((i,0) :: is) E2:=by
 obtain ⟨h1,h2,t,x,h3,h4,h5,h6⟩:=qEK h
 exact qFi h1 h2 (fun w' hw=>qEx h3 h5 (qDF h4 h6 (fun j u hj=>hw.cell (hv j u hj)))) hc
def cget(cs:Array Value)(off:Nat):Value:=cs.toList.getD off undef
theorem ChainD.b{E2:Nat→Value}{is:List (Nat × Nat)}(i off:Nat){b:Nat}{cs:Array Value}{e:TypeId}(hb:w.heap[b]? = some (.cells cs e (0,0)))(hc:ChainD P (Agr w) SX ops n (upd E (dstAt ops i) (cget cs off)) is E2)(h:ldK P ops n E i=some ⟨b,off,none⟩:=by kernel_rfl)(hl:Nat.blt off cs.size=true:=by kernel_rfl):ChainD P (Agr w) SX ops n E ((i,0) :: is) E2:=by
 have hl':off<cs.size:=by simpa [Nat.blt_eq] using hl
 refine ChainD.c i (qCS hb ?_) hc h
 unfold cget
 rw [List.getD_eq_getElem?_getD,List.getElem?_eq_getElem (by simpa using hl'),Array.getElem?_eq_getElem hl']
 rfl
theorem ChainD.bn{E2:Nat→Value}{is:List (Nat × Nat)}(i off z:Nat){b:Nat}{cs:Array Value}{e:TypeId}(hb:w.heap[b]? = some (.cells cs e (0,0)))(hc:ChainD P (Agr w) SX ops n (upd E (dstAt ops i) (.agg ((cs.toList.drop off).take z).toArray)) is E2)(h:ldnK P ops n E i=some (⟨b,off,none⟩,z):=by kernel_rfl)(hl:Nat.ble (off+z) cs.size=true:=by kernel_rfl):ChainD P (Agr w) SX ops n E ((i,0) :: is) E2:=by
 have hl':off+z≤cs.size:=Nat.le_of_ble_eq_true hl
 have hz:((cs.toList.drop off).take z).length=z:=by
  simp
  omega
 refine ChainD.cs (p:=⟨b,off,none⟩) i (fun j u hj=>?_) hc (by rw [hz]; exact h)
 rw [qCZ]
 refine qCS hb ?_
 rw [List.getElem?_take]at hj
 split at hj
 ·rw [List.getElem?_drop,Array.getElem?_toList]at hj
  exact hj
 ·cases hj
theorem ChainD.bX{X:Nat→Prop}{E2:Nat→Value}{is:List (Nat × Nat)}(i off:Nat){b:Nat}{cs:Array Value}{e:TypeId}(hb:w.heap[b]? = some (.cells cs e (0,0)))(hx:¬ X b)(hc:ChainD P S (AgrX X w) ops n (upd E (dstAt ops i) (cget cs off)) is E2)(h:ldK P ops n E i=some ⟨b,off,none⟩:=by kernel_rfl)(hl:Nat.blt off cs.size=true:=by kernel_rfl):ChainD P S (AgrX X w) ops n E ((i,2) :: is) E2:=by
 have hl':off<cs.size:=by simpa [Nat.blt_eq] using hl
 obtain ⟨h1,h2,t,x,h3,h4,h5⟩:=qFA h
 obtain ⟨g1,g2,g3⟩:=qCm h1
 have hd':=qCq h2
 refine .xr i _ g1 hd' (by rw [hd']at g2; exact g2) g3 (fun w' hw=>?_) hc
 have hb':w'.heap[b]? = some (.cells cs e (0,0)):=(hw.2 b (qCV hb) hx).trans hb
 refine qEx h3 h5 (qDh h4 (qCS hb' ?_))
 unfold cget
 rw [List.getD_eq_getElem?_getD,List.getElem?_eq_getElem (by simpa using hl'),Array.getElem?_eq_getElem hl']
 rfl
def ixK(P:Program)(ops:Array Oper)(n:Nat)(E:Nat→Value)(i:Nat):Option (Int × Nat × Value) :=
 match okS ops n E i&&dstB ops i,(opAt ops i).op with
 | true,.indexAddr t x y=>match P.underlying t,ev E x,ev E y with
  | some (.slice e),.slice (some p) m _,.int _ j=>match sizeB P e with
   | some z=>some (j,m,.pointer (some (p.add (j.toNat * z))))
   | none=>none
  | _,_,_=>none
 | _,_=>none
def ixV(P:Program)(ops:Array Oper)(n:Nat)(E:Nat→Value)(i:Nat):Value:=((ixK P ops n E i).map (·.2.2)).getD undef
theorem ChainD.x{E2:Nat→Value}{is:List (Nat × Nat)}(i:Nat){j:Int}{m:Nat}(h0:0≤j∧j<(m:Int))(hc:ChainD P S SX ops n (upd E (dstAt ops i) (ixV P ops n E i)) is E2)(h:(ixK P ops n E i).map (fun p=>(p.1,p.2.1))=some (j,m):=by kernel_rfl):ChainD P S SX ops n E ((i,1) :: is) E2:=by
 unfold ixV at hc
 cases hk:ixK P ops n E i with
 | none=>rw [hk]at h; cases h
 | some p =>
  obtain ⟨j',m',v⟩:=p
  rw [hk]at h hc
  simp only [Option.map_some,Option.some.injEq,Prod.mk.injEq,Option.getD_some]at h hc
  obtain ⟨rfl,rfl⟩:=h
  unfold ixK at hk
  split at hk
  ·rename_i t x y hb hop
   simp only [Bool.and_eq_true]at hb
   split at hk
   ·rename_i e p q cp k j2 hu hx hy
    split at hk
    ·rename_i z hz
     simp only [Option.some.injEq,Prod.mk.injEq]at hk
     obtain ⟨rfl,rfl,rfl⟩:=hk
     exact qFj hb.1 hb.2 (ix z hop hx hy hu hz h0.1 h0.2) hc
    ·cases hk
   ·cases hk
  ·cases hk
theorem ChainD.y{E2:Nat→Value}{is:List (Nat × Nat)}(i:Nat){v:Value}(hy:YA P E (opAt ops i) v)(hc:ChainD P S SX ops n (upd E (dstAt ops i) v) is E2)(h:(okS ops n E i&&dstB ops i)=true:=by kernel_rfl):ChainD P S SX ops n E ((i,1) :: is) E2:=by
 simp only [Bool.and_eq_true]at h
 exact qFj h.1 h.2 hy hc
end
section
variable {P:Program} {E:Nat→Value} {o:Oper} {w:World}
def biK(E:Nat→Value)(o:Oper):Option (BinOp × TypeId × Value × Value) :=
 match o.op with
 | .binOp b t x y _=>some (b,t,ev E x,ev E y)
 | _=>none
theorem qDx{b:BinOp}{t:TypeId}{u v:Value}(h:biK E o=some (b,t,u,v)):∃ x y s,o.op = .binOp b t x y s∧ev E x=u∧ev E y=v:=by
 unfold biK at h
 split at h
 ·rename_i hop
  simp only [Option.some.injEq,Prod.mk.injEq]at h
  obtain ⟨rfl,rfl,rfl,rfl⟩:=h
  exact ⟨_,_,_,hop,rfl,rfl⟩
 ·cases h
theorem y_shl(t:TypeId)(k k':IntKind)(n:Nat)(a:Int){b:Int}(hb:0≤b)(h:biK E o=some (.shl,t,.int k a,.int k' b):=by kernel_rfl)(hn:k.bits=n:=by rfl):YA P E o (.int k (k.wrap (a * 2 ^ (min b.toNat n)))):=by
 obtain ⟨_,_,_,h1,h2,h3⟩:=qDx h
 exact x_shl n h1 h2 h3 hn hb
theorem y_eqs{t:TypeId}{xs ys:Array Value}{r:Bool}(hr:∀ w,(Op.equal t (.agg xs) (.agg ys)).run P w = .ok r w)(h:biK E o=some (.eql,t,.agg xs,.agg ys):=by kernel_rfl)(hg:P.eqGuardType P.depth t=false:=by kernel_rfl):YA P E o (.bool r):=by
 obtain ⟨_,_,_,h1,h2,h3⟩:=qDx h
 exact x_eqs h1 h2 h3 hg hr
theorem y_nes{t:TypeId}{xs ys:Array Value}{r:Bool}(hr:∀ w,(Op.equal t (.agg xs) (.agg ys)).run P w = .ok r w)(h:biK E o=some (.neq,t,.agg xs,.agg ys):=by kernel_rfl)(hg:P.eqGuardType P.depth t=false:=by kernel_rfl):YA P E o (.bool (!r)):=by
 obtain ⟨_,_,_,h1,h2,h3⟩:=qDx h
 exact x_nes h1 h2 h3 hg hr
def siK(P:Program)(E:Nat→Value)(o:Oper):Option (Value × Int) :=
 match o.op with
 | .index t x y=>match P.underlying t,ev E y with
  | some .string,.int _ i=>some (ev E x,i)
  | _,_=>none
 | _=>none
theorem qFk{s:ByteArray}{i:Int}(hc:0≤i∧i<(s.size:Int))(h:siK P E o=some (.string s,i):=by kernel_rfl):YA P E o (.int .u8 (byteAt s i)):=by
 unfold siK at h
 split at h
 ·rename_i hop
  split at h
  ·rename_i hu hy
   simp only [Option.some.injEq,Prod.mk.injEq]at h
   obtain ⟨h1,rfl⟩:=h
   exact qHW hop h1 hy hu hc.1 hc.2
  ·cases h
 ·cases h
def slK(P:Program)(E:Nat→Value)(o:Oper):Option (TypeId × Value × Int × Int) :=
 match o.op with
 | .slice t x lo hi none=>match P.underlying t,ev E x with
  | some (.slice e),.slice A m c=>match (lo.map (ev E)),(hi.map (ev E)) with
   | some (.int _ l),some (.int _ h)=>some (e,.slice A m c,l,h)
   | some (.int _ l),none=>some (e,.slice A m c,l,(m:Int))
   | none,some (.int _ h)=>some (e,.slice A m c,0,h)
   | _,_=>none
  | _,_=>none
 | _=>none
theorem qFl{α : Type}{d:Kn α}{F:World}{A:Option Addr}{c:Nat}{xs:List α}{e:TypeId}{lo hi:Int}(hr:Rd d F A c xs)(hc:0≤lo∧lo≤hi∧hi≤(xs.length:Int))(hs:sizeB P e=some d.sz):
  ∃ A' c',Rd d F A' c' (cutl xs lo hi)∧∀ {E:Nat→Value} {o:Oper},slK P E o=some (e,.slice A xs.length c,lo,hi)→YA P E o (.slice A' (cutl xs lo hi).length c'):=by
 obtain ⟨h0,h1,h2⟩:=hc
 obtain ⟨h3,h4⟩:=hr.cut (lo:=lo.toNat) (hi:=hi.toNat) (by omega) (by omega)
 refine ⟨_,_,h4,fun {E o} hk w=>?_⟩
 have hxc:=hr.1
 have key:∀ {low high:Option Value} {t:TypeId},P.underlying t=some (.slice e)→(∀ w:World,(Instr.sliceBounds true xs.length c low high none).run P w = .ok (lo.toNat,hi.toNat,c) w)→(Instr.sliceAt t (.slice A xs.length c) low high none).run P w = .ok (.slice (if c=lo.toNat then A else A.map (·.add (lo.toNat * d.sz))) ((xs.take hi.toNat).drop lo.toNat).length (c - lo.toNat)) w:=by
  intro low high t ht hb
  rw [qEJ ht hs hb,h3]
 unfold slK at hk
 split at hk
 ·rename_i t x lo' hi' hop
  split at hk
  ·rename_i e' A' m' c' hu hx
   split at hk
   ·rename_i k1 l k2 h hl hh
    simp only [Option.some.injEq,Prod.mk.injEq]at hk
    obtain ⟨rfl,hv,rfl,rfl⟩:=hk
    injection hv with q1 q2 q3
    subst q1 q2 q3
    unfold execOp
    simp only [hop,hx,hl,hh,Option.map_none,Sem.run_bind,key hu (fun w=>qFL h0 h1 (by omega) w),Result.andThen_ok]
    rfl
   ·rename_i k1 l hl hh
    simp only [Option.some.injEq,Prod.mk.injEq]at hk
    obtain ⟨rfl,hv,rfl,rfl⟩:=hk
    injection hv with q1 q2 q3
    subst q1 q2 q3
    unfold execOp
    simp only [hop,hx,hl,hh,Option.map_none,Sem.run_bind,key hu (fun w=>by simpa using qDQ (P:=P) (isSlice:=true) (kl:=k1) (cap:=c') (len:=xs.length) h0 h1 w),Result.andThen_ok]
    rfl
   ·rename_i k2 h hl hh
    simp only [Option.some.injEq,Prod.mk.injEq]at hk
    obtain ⟨rfl,hv,rfl,rfl⟩:=hk
    injection hv with q1 q2 q3
    subst q1 q2 q3
    unfold execOp
    simp only [hop,hx,hl,hh,Option.map_none,Sem.run_bind,key hu (fun w=>by simpa using qDR (P:=P) (isSlice:=true) (kh:=k2) (cap:=c') (len:=xs.length) h1 (by omega) w),Result.andThen_ok]
    rfl
   ·cases hk
  ·cases hk
 ·cases hk
end
section
variable {P:Program} {E:Nat→Value} {o:Oper} {W0 W F0 F:World} {N:Nat→Prop} {L:List Asrt} {R:Value→World→Prop}
def callK(E:Nat→Value)(o:Oper):Option (FuncId × List Value) :=
 match o.op with
 | .call c=>match c.callee with
  | .value f=>match ev E f with
   | .func (.func g) first caps=>match first.toList with
    | []=>some (g,c.args.toList.map (ev E)++caps.toList)
    | _=>none
   | _=>none
  | _=>none
 | _=>none
theorem Eff.cl{w:World}{g:FuncId}{args:List Value}(hg:Enters P g)(h:Calls P g args.toArray w fun e w'=>∃ v,e = .returned v∧R v w')(hk:callK E o=some (g,args):=by kernel_rfl):Eff P E o w R:=by
 unfold callK at hk
 split at hk
 ·rename_i c hop
  split at hk
  ·rename_i f hcal
   split at hk
   ·rename_i g' first caps hf
    split at hk
    ·rename_i hfirst
     simp only [Option.some.injEq,Prod.mk.injEq]at hk
     obtain ⟨rfl,rfl⟩:=hk
     obtain ⟨cal,as,ts⟩:=c
     simp only at hcal
     subst hcal
     obtain rfl:first = #[]:=Array.ext' hfirst
     exact Eff.callv hg hop hf _ rfl _ rfl h
    ·cases hk
   ·cases hk
  ·cases hk
 ·cases hk
def boxK(E:Nat→Value)(o:Oper):Option (TypeId × List Value) :=
 match o.op with
 | .box t x=>some (t,(ev E x).cells.toList)
 | _=>none
theorem Eff.bx{t:TypeId}(h:St W0 N F0 W F L)(cs:List Value)(hk:boxK E o=some (t,cs):=by kernel_rfl):Eff P E o W (NewBox W0 N F0 F L cs.toArray t W):=by
 unfold boxK at hk
 split at hk
 ·rename_i hop
  simp only [Option.some.injEq,Prod.mk.injEq]at hk
  obtain ⟨rfl,rfl⟩:=hk
  exact e_box h hop rfl _ (by simp)
 ·cases hk
def allocK(P:Program)(o:Oper):Option (TypeId × List Value) :=
 match o.op with
 | .alloc t=>match zeroB P t with
  | some v=>some (t,v.cells.toList)
  | none=>none
 | _=>none
theorem Eff.al{t:TypeId}(h:St W0 N F0 W F L)(cs:List Value)(hk:allocK P o=some (t,cs):=by kernel_rfl):Eff P E o W (NewBox W0 N F0 F L cs.toArray t W):=by
 unfold allocK at hk
 split at hk
 ·rename_i hop
  split at hk
  ·rename_i v hz
   simp only [Option.some.injEq,Prod.mk.injEq]at hk
   obtain ⟨rfl,rfl⟩:=hk
   exact qHB h hop hz _ (by simp)
  ·cases hk
 ·cases hk
def stoK(P:Program)(E:Nat→Value)(o:Oper)(cs:List Value):Option (Nat × List Value) :=
 match o.op with
 | .store t x y=>match ev E x,sizeB P t with
  | .pointer (some ⟨b,off,none⟩),some z=>match Nat.beq (ev E y).cells.toList.length z&&(Nat.ble (off+z) cs.length&&(ev E y).cells.toList.all (·.oneCell')) with
   | true=>some (b,cs.take off++(ev E y).cells.toList++cs.drop (off+z))
   | false=>none
  | _,_=>none
 | _=>none
theorem Eff.sto{b:Nat}{cs:Array Value}{e:TypeId}(h:St W0 N F0 W F (box b cs e :: L))(cs':List Value)(hk:stoK P E o cs.toList=some (b,cs'):=by kernel_rfl):Eff P E o W (Stored W0 N F0 F L b cs'.toArray e W):=by
 unfold stoK at hk
 split at hk
 ·rename_i t x y hop
  split at hk
  ·rename_i b' off z hx hz
   split at hk
   ·rename_i hb
    simp only [Bool.and_eq_true]at hb
    obtain ⟨h1,h2,h3⟩:=hb
    have h1':=Nat.eq_of_beq_eq_true h1
    simp only [Option.some.injEq,Prod.mk.injEq]at hk
    obtain ⟨rfl,rfl⟩:=hk
    have hsz:(ev E y).cells.size=z:=by simpa using h1'
    subst hsz
    exact qHC h hop hx rfl hz (by simpa using Nat.le_of_ble_eq_true h2) (qEb h3) _ rfl
   ·cases hk
  ·cases hk
 ·cases hk
end
section
variable {P:Program} {E:Nat→Value} {o:Oper} {W0 W F0 F:World} {N:Nat→Prop} {L:List Asrt} {α : Type} {d:Kn α} {e:TypeId} {A:Option Addr} {c n:Nat} {xs ys:List α}
def apK(P:Program)(E:Nat→Value)(o:Oper):Option (TypeId × Value × Value) :=
 match o.op with
 | .call c=>match c.callee with
  | .builtin .append=>match c.args.toList,c.argTypes.toList with
   | [x,y],[t,t']=>match P.underlying t,Nat.beq t t' with
    | some (.slice e),true=>some (e,ev E x,ev E y)
    | _,_=>none
   | _,_=>none
  | _=>none
 | _=>none
def infK(P:Program)(e:TypeId)(sz bytes:Nat):Bool :=
 match P.info? e with
 | some i=>match i.zero with
  | some z=>(Nat.beq i.size sz&&Nat.beq i.bytes bytes)&&(Nat.beq z.cells.size sz&&(Nat.blt 0 sz&&Nat.blt 0 bytes))
  | none=>false
 | none=>false
theorem qCz{sz bytes:Nat}(h:infK P e sz bytes=true):∃ z,(P.info? e).map (fun i=>(i.zero,i.size,i.bytes))=some (some z,sz,bytes)∧z.cells.size=sz∧Nat.blt 0 sz=true∧Nat.blt 0 bytes=true:=by
 unfold infK at h
 split at h
 ·rename_i i hi
  split at h
  ·rename_i z hz
   simp only [Bool.and_eq_true]at h
   obtain ⟨⟨h1,h2⟩,h3,h4,h5⟩:=h
   exact ⟨z,by rw [hi,← Nat.eq_of_beq_eq_true h1,← Nat.eq_of_beq_eq_true h2,← hz]; rfl,Nat.eq_of_beq_eq_true h3,h4,h5⟩
  ·cases h
 ·cases h
theorem Eff.ap {B:Option Addr} (bytes:Nat) (h:St W0 N F0 W F (row d e (.slice A n c) xs :: L)) (hsrc:Src d F W B ys) (hl:((xs.length:Int)+(ys.length:Int)) * (bytes:Int)≤140737488355328) (cb:Nat)
  (hk:apK P E o=some (e,.slice A n c,.slice B ys.length cb):=by kernel_rfl) (hi:infK P e d.sz bytes=true:=by kernel_rfl) :
  Eff P E o W (fun v w'=>∃ A' c',v = .slice A' (xs++ys).length c'∧St W0 N F0 w' F (row d e (.slice A' (xs++ys).length c') (xs++ys) :: L)∧W.heap.size≤w'.heap.size):=by
 obtain ⟨z,h1,h2,h3,h4⟩:=qCz hi
 unfold apK at hk
 split at hk
 ·rename_i cl hop
  split at hk
  ·rename_i hcal
   split at hk
   ·rename_i x y t t' hx ht
    split at hk
    ·rename_i e' hu htt
     simp only [Option.some.injEq,Prod.mk.injEq]at hk
     obtain ⟨rfl,h5,h6⟩:=hk
     obtain rfl:=Nat.eq_of_beq_eq_true htt
     obtain ⟨cal,as,ts⟩:=cl
     simp only at hcal hx ht
     subst hcal
     obtain rfl:as = #[x,y]:=Array.ext' hx
     obtain rfl:ts = #[t,t]:=Array.ext' ht
     exact qGT h hop h5 h6 hu h1 h2 h3 h4 hsrc hl
    ·cases hk
   ·cases hk
  ·cases hk
 ·cases hk
def zerK(P:Program)(e:TypeId):List Value:=match P.info? e with
 | some i=>match i.zero with
  | some z=>z.cells.toList
  | none=>[]
 | none=>[]
def setK(P:Program)(E:Nat→Value)(o:Oper)(sz off:Nat)(cs:List Value):Option (Addr × List Value) :=
 match o.op with
 | .store t x y=>match ev E x,sizeB P t with
  | .pointer (some a),some z=>match (Nat.beq (ev E y).cells.toList.length z&&Nat.ble (off+z) sz)&&((ev E y).cells.toList.all (·.oneCell')&&Nat.beq cs.length sz) with
   | true=>some (a,cs.take off++(ev E y).cells.toList++cs.drop (off+z))
   | false=>none
  | _,_=>none
 | _=>none
theorem Eff.setx {g:Nat} {a:Addr} (yv : α) (off:Nat) {i:Int} (ha:a=⟨g,i.toNat * d.sz+off,none⟩) (h:St W0 N F0 W F (row d e (.slice (some ⟨g,0,none⟩) n c) xs :: L)) (h01:0≤i∧i<(xs.length:Int)) (cs:List Value) (hcs:∀(j:Nat)(u:Value),cs[j]? = some u→W.cell? (((⟨g,0,none⟩:Addr).add (i.toNat * d.sz)).add j)=some u)
  (cs':List Value) (hK:d.K F yv cs') (hk:setK P E o d.sz off cs=some (a,cs'):=by kernel_rfl) :
  Eff P E o W (fun r w'=>r=undef∧St W0 N F0 w' F (row d e (.slice (some ⟨g,0,none⟩) n c) (xs.set i.toNat yv) :: L)∧W.heap.size≤w'.heap.size∧AgrX (fun q=>q=g) W w'):=by
 unfold setK at hk
 split at hk
 ·rename_i t x y hop
  split at hk
  ·rename_i a' z hx hz
   split at hk
   ·rename_i hb
    simp only [Bool.and_eq_true]at hb
    obtain ⟨⟨h1,h2⟩,h3,h4⟩:=hb
    have h1':=Nat.eq_of_beq_eq_true h1
    simp only [Option.some.injEq,Prod.mk.injEq]at hk
    obtain ⟨rfl,rfl⟩:=hk
    have hsz:(ev E y).cells.size=z:=by simpa using h1'
    subst hsz
    exact e_set yv h hop hx ha rfl hz h01.1 h01.2 cs hcs (Nat.eq_of_beq_eq_true h4) (Nat.le_of_ble_eq_true h2) (qEb h3) _ rfl hK
   ·cases hk
  ·cases hk
 ·cases hk
theorem Eff.set {g:Nat} {a:Addr} (yv : α) (off:Nat) {i:Int} (ha:a=⟨g,i.toNat * d.sz+off,none⟩) (h:St W0 N F0 W F (row d e (.slice (some ⟨g,0,none⟩) n c) xs :: L)) (h01:0≤i∧i<(xs.length:Int)) (cs:List Value) (hcs:∀(j:Nat)(u:Value),cs[j]? = some u→W.cell? (((⟨g,0,none⟩:Addr).add (i.toNat * d.sz)).add j)=some u)
  (cs':List Value) (hK:d.K F yv cs') (hk:setK P E o d.sz off cs=some (a,cs'):=by kernel_rfl) :
  Eff P E o W (fun r w'=>r=undef∧St W0 N F0 w' F (row d e (.slice (some ⟨g,0,none⟩) n c) (xs.set i.toNat yv) :: L)∧W.heap.size≤w'.heap.size) :=
 (Eff.setx yv off ha h h01 cs hcs cs' hK hk).mono (fun _ _ q=>⟨q.1,q.2.1,q.2.2.1⟩)
def ap0K(P:Program)(E:Nat→Value)(o:Oper):Option (TypeId × Value × Int) :=
 match o.op with
 | .call c=>match c.callee with
  | .builtin .append=>match c.args.toList,c.argTypes.toList with
   | [x,y],[t,t']=>match P.underlying t,P.underlying t',ev E y with
    | some (.slice e),some (.int _),.int .i64 k=>some (e,ev E x,k)
    | _,_,_=>none
   | _,_=>none
  | _=>none
 | _=>none
def litK(E:Nat→Value)(o:Oper):Option (TypeId × Nat × List (Nat × Value)) :=
 match o.op with
 | .buildSlice t m parts=>some (t,m,parts.toList.map fun p=>(p.1,ev E p.2))
 | _=>none
def litR(P:Program)(E:Nat→Value)(o:Oper)(W:World):Result Value :=
 match litK E o with
 | some (t,m,pl)=>(Instr.buildSlice t m pl.toArray).run P W
 | none => .halt (.stuck "") W
def litM(o:Oper):Nat :=
 match o.op with
 | .buildSlice _ m _=>m
 | _=>0
def litB(o:Oper)(k:Nat):Bool :=
 match o.op with
 | .buildSlice _ m _=>Nat.beq m k&&Nat.ble m maxLen
 | _=>false
theorem Eff.lit {cl:List Value} (h:St W0 N F0 W F L) (xs:List α) (he:Els d F xs cl) (hb:litB o xs.length=true:=by kernel_rfl)
  (hr:litR P E o W = .ok (.slice (some ⟨W.heap.size,0,none⟩) (litM o) (litM o)) (W.alloc (.cells cl.toArray e)):=by kernel_rfl):Eff P E o W (NewRow W0 N F0 F L d e xs W):=by
 unfold litB at hb
 split at hb
 ·rename_i t m parts hop
  simp only [Bool.and_eq_true]at hb
  obtain ⟨h1,h2⟩:=hb
  have h1:=Nat.eq_of_beq_eq_true h1
  unfold litR litK litM at hr
  rw [hop]at hr
  simp only at hr
  exact e_lit h _ xs he hop rfl h1.symm h2 hr
 ·cases hb
def mkK(P:Program)(E:Nat→Value)(o:Oper):Option (TypeId × Int × Int) :=
 match o.op with
 | .makeSlice t x y=>match P.underlying t,ev E x,ev E y with
  | some (.slice e),.int _ i,.int _ j=>some (e,i,j)
  | _,_,_=>none
 | _=>none
theorem qHF(z:Array Value)(k:Nat):madeCells z (k * z.size)=Builtin.zeroCells z k:=rfl
theorem Eff.mk{k:Int}(bytes:Nat)(zd : α)(h:St W0 N F0 W F L)(hl:0≤k∧k * (bytes:Int)≤140737488355328)(hK:d.K F zd (zerK P e))(hk:mkK P E o=some (e,k,k):=by kernel_rfl)(hi:infK P e d.sz bytes=true:=by kernel_rfl):
  Eff P E o W (NewRow W0 N F0 F L d e (List.replicate k.toNat zd) W):=by
 obtain ⟨z,h1,h2,h3,h4⟩:=qCz hi
 obtain ⟨i0,hi0,hzz⟩:=Option.map_eq_some_iff.1 h1
 simp only [Prod.mk.injEq]at hzz
 obtain ⟨hz0,hz1,hz2⟩:=hzz
 obtain ⟨hk0,hl⟩:=hl
 obtain ⟨m,rfl⟩:∃ m:Nat,k=m:=⟨k.toNat,by omega⟩
 simp only [Int.toNat_natCast]
 have hK':d.K F zd z.cells.toList:=by
  unfold zerK at hK
  rw [hi0]at hK
  simp only [hz0]at hK
  exact hK
 have hb0:0<bytes:=by simpa [Nat.blt_eq] using h4
 have hlN:m * bytes≤140737488355328:=by
  have:((m * bytes:Nat):Int)≤140737488355328:=by
   rw [Int.natCast_mul]
   exact hl
  omega
 have hm:m≤140737488355328:=Nat.le_trans (Nat.le_mul_of_pos_right _ hb0) hlN
 unfold mkK at hk
 split at hk
 ·rename_i t x y hop
  split at hk
  ·rename_i e' k1 i1 k2 i2 hu hx hy
   simp only [Option.some.injEq,Prod.mk.injEq]at hk
   obtain ⟨rfl,rfl,rfl⟩:=hk
   have hbb:(i0.bytes:Int) * (m:Int)≤281474976710656:=by
    rw [hz2,Int.mul_comm,← Int.natCast_mul]
    omega
   have hr:=run_make (P:=P) W t e' i0 z hu hi0 hz0 k1 k2 (m:Int) (m:Int) (by omega) (Int.le_refl _) hbb (by omega)
   simp only [Int.toNat_natCast]at hr
   have hexec:(execOp (ev E) o).run P W = .ok (.value (.slice (some ⟨W.heap.size,0,none⟩) m m)) (W.alloc (.cells (madeCells z.cells (m * i0.size)) e')):=by
    unfold execOp
    simp only [hop,hx,hy,Sem.run_bind,hr,Result.andThen_ok]
    rfl
   have hmc:madeCells z.cells (m * i0.size)=Builtin.zeroCells z.cells m:=by rw [hz1,← h2]; exact qHF _ _
   rw [hmc]at hexec
   have hrp:=qDi (F:=F) zd hK' m
   have hll:(List.replicate m zd).length=m:=by simp
   refine Eff.run hexec ⟨_,_,by rw [hll],h.alloc _ _ (fun b hb=>?_) ⟨_,⟨hrp.1,.inr ⟨W.heap.size,m,Builtin.zeroCells z.cells m,by rw [hll],Nat.zero_le _,?_,by rw [hll]; exact Nat.le_refl _,by simp only [maxLen]; omega,?_,?_⟩⟩,hrp⟩,qCe W _⟩
   ·simp [row,Value.ownBlock]at hb
    exact hb.symm
   ·show (W.heap.push _)[W.heap.size]? = _
    simp
   ·rw [size_zeroCells,h2]
   ·rw [hll,List.take_of_length_le]
    rw [Array.length_toList,size_zeroCells,h2]
    exact Nat.le_refl _
  ·cases hk
 ·cases hk
end
section
variable {P:Program} {ops:Array Oper} {Q:Exit→Act→World→Prop} {n:Nat} {E E':Nat→Value} {a:Act} {w:World} {D:Dr}
def Pl(P:Program)(ops:Array Oper)(Q:Exit→Act→World→Prop)(m:Nat)(a:Act)(w:World):Prop:=wpOps P ops Q (List.range' m (ops.size - m)) a w
theorem pl0{id:Nat}(h:Pl P ops Q 0 a w):(Code.region id ops false).wp P Q a w:=by
 refine plain rfl ?_
 rw [List.range_eq_range']
 exact h
theorem qEg{S SX:World→Prop}{is:List (Nat × Nat)}(hSX:∀ w,S w→SX w)(hc:ChainD P S SX ops n E is E'):Chain P S ops n E (is.map Prod.fst) E':=by
 induction hc with
 | nil=>exact .nil
 | p i hs _ ih=>exact .p i hs ih
 | v i d h1 h2 h3 h4 h5 _ ih=>exact .v i d h1 h2 h3 h4 h5 ih
 | q i d h1 h2 h3 h4 h5 _ ih=>exact .v i d h1 h2 h3 h4 h5.s ih
 | xr i d h1 h2 h3 h4 h5 _ ih=>exact .v i d h1 h2 h3 h4 (fun w hw=>h5 w (hSX w hw)) ih
def seqB(ops:Array Oper)(m:Nat):List (Nat × Nat)→Bool
 | []=>true
 | (i,_) :: is=>(Nat.beq i m&&Nat.blt m ops.size)&&seqB ops (m+1) is
theorem qEL:∀ {is:List (Nat × Nat)} {m:Nat},seqB ops m is=true→List.range' m (ops.size - m)=is.map Prod.fst++List.range' (m+is.length) (ops.size - (m+is.length))
 | [],m,_=>by simp
 | (i,b) :: is,m,h=>by
  simp only [seqB,Bool.and_eq_true]at h
  obtain ⟨⟨h1,h2⟩,h3⟩:=h
  obtain rfl:=Nat.eq_of_beq_eq_true h1
  have hlt:i<ops.size:=by simpa [Nat.blt_eq] using h2
  have ih:=qEL h3
  rw [show ops.size - i=(ops.size - (i+1))+1 by omega,List.range'_succ,ih]
  simp only [List.map_cons,List.cons_append,List.length_cons]
  congr 2
  rw [show i+1+is.length=i+(is.length+1) by omega]
theorem plc{m:Nat}{is:List (Nat × Nat)}(hE:Env n E a)(hc:ChainD P (Agr w) (AgrX (fun _=>False) w) ops n E is E')(h:∀ a',Env n E' a'→Pl P ops Q (m+is.length) a' w)(hs:seqB ops m is=true:=by kernel_rfl):Pl P ops Q m a w:=by
 unfold Pl
 rw [qEL hs]
 exact qFa (qEg (fun _ h=>h.x) hc) hE (Agr.refl _) h
theorem ple{m:Nat}{R:Value→World→Prop}(hE:Env n E a)(he:Eff P E (opAt ops m) w R)(h:∀ v w' a',R v w'→Env n (updO E (opAt ops m).dst v) a'→Pl P ops Q (m+1) a' w')(hk:okS ops n E m=true:=by kernel_rfl):Pl P ops Q m a w:=by
 obtain ⟨h1,h2,h3⟩:=qCm hk
 have hlt:m<ops.size:=(Array.getElem?_eq_some_iff.1 h1).1
 unfold Pl
 rw [show ops.size - m=(ops.size - (m+1))+1 by omega,List.range'_succ]
 exact qGy m hE _ h1 rfl h2 h3 he h
theorem pld{m:Nat}(h:Q .normal a w)(hm:Nat.ble ops.size m=true:=by kernel_rfl):Pl P ops Q m a w:=by
 have:=Nat.le_of_ble_eq_true hm
 unfold Pl
 rw [show ops.size - m=0 by omega]
 exact h
def maskL:List (Nat × Nat)→Nat→Nat
 | [],m=>m
 | (i,_) :: is,m=>maskL is (m ||| 1 <<< i)
theorem mny{fuel' m:Nat}(fuel:Nat)[hQ:PQ Q]{is:List (Nat × Nat)}(hs:statB ops=true)(hE:Env n E a)(hc:ChainD P (Agr w) (AgrX D.X w) ops n E is E')(h:∀ a',Env n E' a'→Any P ops Q D fuel (maskL is m) a' w)(ht:takesB ops D is m (maskL is m)=true:=by kernel_rfl)(hf:Nat.beq fuel' (fuel+is.length)=true:=by kernel_rfl):Any P ops Q D fuel' m a w:=by
 rw [Nat.eq_of_beq_eq_true hf]
 exact many (maskL is m) hs hE hc ht h
def loneB(ops:Array Oper)(i m:Nat):Bool:=(List.range ops.size).all fun j=>rdB ops m j == (j == i)
theorem on1{fuel m:Nat}{R:Value→World→Prop}(i:Nat)(hE:Env n E a)(he:Eff P E (opAt ops i) w R)(h:∀ v w' a',R v w'→Env n (updO E (opAt ops i).dst v) a'→Keeps D i w w'∧Any P ops Q D fuel (m ||| 1 <<< i) a' w')(hk:okS ops n E i=true:=by kernel_rfl)(hr:loneB ops i m=true:=by kernel_rfl):Any P ops Q D (fuel+1) m a w:=by
 obtain ⟨h1,h2,h3⟩:=qCm hk
 exact one i _ hE _ h1 rfl h2 h3 (by simp only [aloneB,Bool.and_eq_true,beq_self_eq_true,and_true]; exact hr) he h
theorem pk1{fuel m':Nat}{R:Value→World→Prop}(i:Nat)(hE:Env n E a)(he:Eff P E (opAt ops i) w R)(h:∀ v w' a',R v w'→Env n (updO E (opAt ops i).dst v) a'→Keeps D i w w'∧Any P ops Q D fuel m' a' w')(hk:okS ops n E i=true:=by kernel_rfl):wpOp P ops Q i (fun a' w'=>Keeps D i w w'∧Any P ops Q D fuel m' a' w') a w:=by
 obtain ⟨h1,h2,h3⟩:=qCm hk
 exact qFe i hE _ h1 rfl h2 h3 he h
theorem pk2{fuel m:Nat}(i j:Nat)(h1:wpOp P ops Q i (fun a' w'=>Keeps D i w w'∧Any P ops Q D fuel (m ||| 1 <<< i) a' w') a w)(h2:wpOp P ops Q j (fun a' w'=>Keeps D j w w'∧Any P ops Q D fuel (m ||| 1 <<< j) a' w') a w)(hr:pickB ops i j m=true:=by kernel_rfl):Any P ops Q D (fuel+1) m a w:=pick2 i j _ _ hr rfl rfl h1 h2
theorem dn{fuel m:Nat}(h:Q .normal a w)(hr:((List.range ops.size).all fun j=>m.testBit j)=true:=by kernel_rfl):Any P ops Q D fuel m a w:=qGS hr h
theorem Keeps.of{i:Nat}{w w':World}(h:Agr w w'):Keeps D i w w':=⟨fun _=>h,fun _=>h.x⟩
theorem Keeps.d{i:Nat}{w w':World}(hd:D.ds.contains i=true:=by kernel_rfl)(hc:D.cs.contains i=false:=by kernel_rfl):Keeps D i w w':=⟨fun h=>absurd (List.contains_iff_mem.1 hd) h,fun h=>by rw [List.contains_iff_mem.2 h]at hc; cases hc⟩
theorem Keeps.c{i:Nat}{w w':World}(h:AgrX D.X w w')(hd:D.ds.contains i=true:=by kernel_rfl):Keeps D i w w':=⟨fun h=>absurd (List.contains_iff_mem.1 hd) h,fun _=>h⟩
theorem At.of{l:List (Nat × Value)}(h:l.map (fun p=>E p.1)=l.map Prod.snd:=by kernel_rfl):At E l:=by
 induction l with
 | nil=>exact .nil
 | cons p l ih =>
  simp only [List.map_cons,List.cons.injEq]at h
  exact .cons h.1 (ih h.2)
theorem Env.at(hE:Env n E a){l:List (Nat × Value)}(hA:At E l):∃ J:Nat→Value,Env n (updL J l) a:=hE.norm l hA
theorem Env.set(hE:Env n E a){d:Nat}{v:Value}(h:E d=v):Env n (upd E d v) a:=by
 have e:upd E d v=E:=by
  funext i
  by_cases hi:i=d
  ·subst hi; rw [qCa]; exact h.symm
  ·exact qFV E v hi
 rw [e]
 exact hE
theorem Env.kt(hE:Env n E a)(d:Nat){p:Prop}[Decidable p](c:p)(h:E d = .bool (decide p):=by kernel_rfl):Env n (upd E d (.bool true)) a:=hE.set (by rw [h,decide_eq_true c])
theorem Env.kf(hE:Env n E a)(d:Nat){p:Prop}[Decidable p](c:¬ p)(h:E d = .bool (decide p):=by kernel_rfl):Env n (upd E d (.bool false)) a:=hE.set (by rw [h,decide_eq_false c])
theorem Env.ktn(hE:Env n E a)(d:Nat){p:Prop}[Decidable p](c:p)(h:E d = .bool (!decide p):=by kernel_rfl):Env n (upd E d (.bool false)) a:=hE.set (by rw [h,decide_eq_true c]; rfl)
theorem Env.kfn(hE:Env n E a)(d:Nat){p:Prop}[Decidable p](c:¬ p)(h:E d = .bool (!decide p):=by kernel_rfl):Env n (upd E d (.bool true)) a:=hE.set (by rw [h,decide_eq_false c]; rfl)
theorem Env.bt(hE:Env n E a)(d:Nat){b:Bool}(c:b=true)(h:E d = .bool b:=by kernel_rfl):Env n (upd E d (.bool true)) a:=hE.set (by rw [h,c])
theorem Env.bf(hE:Env n E a)(d:Nat){b:Bool}(c:¬ b=true)(h:E d = .bool b:=by kernel_rfl):Env n (upd E d (.bool false)) a:=hE.set (by rw [h,eq_false_of_ne_true c])
theorem Env.btn(hE:Env n E a)(d:Nat){b:Bool}(c:b=true)(h:E d = .bool (!b):=by kernel_rfl):Env n (upd E d (.bool false)) a:=hE.set (by rw [h,c]; rfl)
theorem Env.bfn(hE:Env n E a)(d:Nat){b:Bool}(c:¬ b=true)(h:E d = .bool (!b):=by kernel_rfl):Env n (upd E d (.bool true)) a:=hE.set (by rw [h,eq_false_of_ne_true c]; rfl)
theorem Env.et{α : Type}[BEq α][LawfulBEq α](hE:Env n E a)(d:Nat){x y : α}(c:x=y)(h:E d = .bool (x == y):=by kernel_rfl):Env n (upd E d (.bool true)) a:=hE.set (by rw [h,beq_iff_eq.2 c])
theorem Env.ef{α : Type}[BEq α][LawfulBEq α](hE:Env n E a)(d:Nat){x y : α}(c:¬ x=y)(h:E d = .bool (x == y):=by kernel_rfl):Env n (upd E d (.bool false)) a:=hE.set (by rw [h,beq_eq_false_iff_ne.2 c])
theorem ct{c:Operand}{x y:Code}(hE:Env n E a)(h:x.wp P Q a w)(he:ev E c = .bool true:=by kernel_rfl):(Code.cond c x y).wp P Q a w:=qEH hE he rfl h
theorem cf{c:Operand}{x y:Code}(hE:Env n E a)(h:y.wp P Q a w)(he:ev E c = .bool false:=by kernel_rfl):(Code.cond c x y).wp P Q a w:=qEI hE he rfl h
theorem ent{f:FuncId}{fn:Func}{c:Code}{args:Array Value}{R:Ending→World→Prop}(n:Nat)(hf:P.funcs[f]? = some fn)(hb:fn.body=some c)(hn:fn.ntmps=n)(h:∀ a,Env n (fun i=>args.getD i undef) a→c.wp P (bodyPost P fn R) a w)(hs:Nat.ble args.size n=true:=by kernel_rfl):Calls P f args w R :=
 enter hf hb hn (Nat.le_of_ble_eq_true hs) h
theorem zz{α : Type}{r : α}{G:Prop}(H:none=some r):G:=by cases H
theorem rg{id:Nat}{y:Code}{is:List (Nat × Nat)}(hE:Env n E a)(hc:ChainD P (Agr w) (AgrX (fun _=>False) w) ops n E is E')(h:∀ a',Env n E' a'→y.wp P Q a' w)(hs:seqB ops 0 is=true:=by kernel_rfl)(hm:Nat.ble ops.size is.length=true:=by kernel_rfl):(Code.seq (Code.region id ops false) y).wp P Q a w :=
 sq fun K hK=>pl0 (plc hE hc (fun a' hE'=>pld (hK _ _ (h a' hE')) (by rw [Nat.zero_add]; exact hm)) hs)
theorem rr{id:Nat}{y:Code}(hE:Env n E a)(h:∀ a',Env n (outK P ops n (List.range' 0 ops.size) E) a'→y.wp P Q a' w)(hk:okK P ops n (List.range' 0 ops.size) E=true:=by kernel_rfl):(Code.seq (Code.region id ops false) y).wp P Q a w :=
 sq fun K hK=>pl0 (plc hE (.r 0 ops.size .nil hk) (fun a' hE'=>pld (hK _ _ (h a' hE')) (by simp [List.length_range'])) (by
  have go:∀(m i:Nat),i+m=ops.size→seqB ops i ((List.range' i m).map (fun i=>(i,1))++[])=true:=by
   intro m
   induction m with
   | zero=>intro i _; rfl
   | succ m ih =>
    intro i hi
    rw [List.range'_succ]
    have h1:=ih (i+1) (by omega)
    show ((Nat.beq i i&&Nat.blt i ops.size)&&seqB ops (i+1) ((List.range' (i+1) m).map (fun i=>(i,1))++[]))=true
    refine (congrArg _ h1).trans ?_
    rw [Bool.and_true,Bool.and_eq_true]
    exact ⟨Nat.beq_refl i,by rw [Nat.blt_eq]; omega⟩
  exact go ops.size 0 (Nat.zero_add _)))
section
variable {β : Type} {o1 o2:Option β} {r : β} {c:Operand} {x y:Code}
theorem Env.ik{p:Prop}[Decidable p](hE:Env n E a)(d:Nat)(H:(if p then o1 else o2)=some r)(h1:p→Env n (upd E d (.bool true)) a→o1=some r→x.wp P Q a w)(h2:¬ p→Env n (upd E d (.bool false)) a→o2=some r→y.wp P Q a w)(h:E d = .bool (decide p):=by kernel_rfl)(hc:c = .tmp d:=by rfl):(Code.cond c x y).wp P Q a w:=by
 subst hc
 rcases sp H with ⟨q,H⟩ | ⟨q,H⟩
 ·exact qEH (hE.kt d q h) (qCa E d _) rfl (h1 q (hE.kt d q h) H)
 ·exact qEI (hE.kf d q h) (qCa E d _) rfl (h2 q (hE.kf d q h) H)
theorem Env.ikn{p:Prop}[Decidable p](hE:Env n E a)(d:Nat)(H:(if p then o1 else o2)=some r)(h1:p→Env n (upd E d (.bool false)) a→o1=some r→y.wp P Q a w)(h2:¬ p→Env n (upd E d (.bool true)) a→o2=some r→x.wp P Q a w)(h:E d = .bool (!decide p):=by kernel_rfl)(hc:c = .tmp d:=by rfl):(Code.cond c x y).wp P Q a w:=by
 subst hc
 rcases sp H with ⟨q,H⟩ | ⟨q,H⟩
 ·exact qEI (hE.ktn d q h) (qCa E d _) rfl (h1 q (hE.ktn d q h) H)
 ·exact qEH (hE.kfn d q h) (qCa E d _) rfl (h2 q (hE.kfn d q h) H)
theorem Env.ib{b:Bool}(hE:Env n E a)(d:Nat)(H:(if b=true then o1 else o2)=some r)(h1:b=true→Env n (upd E d (.bool true)) a→o1=some r→x.wp P Q a w)(h2:¬ b=true→Env n (upd E d (.bool false)) a→o2=some r→y.wp P Q a w)(h:E d = .bool b:=by kernel_rfl)(hc:c = .tmp d:=by rfl):(Code.cond c x y).wp P Q a w:=by
 subst hc
 rcases sp H with ⟨q,H⟩ | ⟨q,H⟩
 ·exact qEH (hE.bt d q h) (qCa E d _) rfl (h1 q (hE.bt d q h) H)
 ·exact qEI (hE.bf d q h) (qCa E d _) rfl (h2 q (hE.bf d q h) H)
theorem Env.ibn{b:Bool}(hE:Env n E a)(d:Nat)(H:(if b=true then o1 else o2)=some r)(h1:b=true→Env n (upd E d (.bool false)) a→o1=some r→y.wp P Q a w)(h2:¬ b=true→Env n (upd E d (.bool true)) a→o2=some r→x.wp P Q a w)(h:E d = .bool (!b):=by kernel_rfl)(hc:c = .tmp d:=by rfl):(Code.cond c x y).wp P Q a w:=by
 subst hc
 rcases sp H with ⟨q,H⟩ | ⟨q,H⟩
 ·exact qEI (hE.btn d q h) (qCa E d _) rfl (h1 q (hE.btn d q h) H)
 ·exact qEH (hE.bfn d q h) (qCa E d _) rfl (h2 q (hE.bfn d q h) H)
end
theorem qCL{id:Nat}(h:Q .normal a w):Exit.inBlock id Q .normal a w:=h
theorem qDT(h:Q .ret a w):Exit.noGoto Q .ret a w:=h
def resK(E:Nat→Value):List ResultVar→Option (List Value)
 | []=>some []
 | .tmp t :: rs=>match resK E rs with
  | some vs=>some (E t :: vs)
  | none=>none
 | .cell _ _ :: _=>none
theorem qDU:∀ {rs:List ResultVar} {vs:List Value},resK E rs=some vs→ResV P E w rs vs
 | [],vs,h=>by
  simp only [resK,Option.some.injEq]at h
  subst h
  exact .nil
 | .tmp t :: rs,vs,h=>by
  simp only [resK]at h
  cases hr:resK E rs with
  | none=>rw [hr]at h; cases h
  | some us =>
   rw [hr]at h
   simp only [Option.some.injEq]at h
   subst h
   exact .tmp rfl (qDU hr)
 | .cell _ _ :: _,vs,h=>by simp [resK]at h
theorem rt1{fn:Func}{R:Ending→World→Prop}{v:Value}(hE:Env n E a)(h:R (.returned v) w)(hr:resK E fn.results.toList=some [v]:=by kernel_rfl):bodyPost P fn R .ret a w:=by
 cases hl:fn.results.toList with
 | nil=>rw [hl]at hr; simp [resK]at hr
 | cons r rs =>
  cases rs with
  | cons r2 rs2 =>
   rw [hl]at hr
   cases r with
   | cell _ _=>simp [resK]at hr
   | tmp t =>
    cases r2 with
    | cell _ _=>simp [resK]at hr
    | tmp t2 =>
     simp only [resK]at hr
     cases hx:resK E rs2 with
     | none=>rw [hx]at hr; simp at hr
     | some us=>rw [hx]at hr; simp at hr
  | nil =>
   rw [hl]at hr
   exact ret1 hE (show fn.results = #[r] from Array.ext' hl) (qDU hr) h
theorem rtN{fn:Func}{R:Ending→World→Prop}{vs:List Value}(hE:Env n E a)(h:R (.returned (.tuple vs.toArray)) w)(hr:resK E fn.results.toList=some vs:=by kernel_rfl)(hl:Nat.beq vs.length 1=false:=by kernel_rfl):bodyPost P fn R .ret a w :=
 retN (rs:=fn.results.toList) hE (by simp) (fun e=>by rw [e]at hl; cases hl) (qDU hr) h
end
section
variable {W0 W F0 F:World} {N:Nat→Prop} {L:List Asrt}
abbrev Sm(W F w' F':World)(L:List Asrt):Prop:=St W (mine W []) F w' F' L
def pick(is:List Nat)(m:Nat)(L:List Asrt):List Asrt:=(is.flatMap fun i=>L[i]?.toList)++L.drop m
def pickOk:List Nat→Nat→Bool
 | [],_=>true
 | i :: is,m=>(Nat.blt i m&&is.all fun j => !Nat.beq i j)&&pickOk is m
theorem qDy{is:List Nat}{m:Nat}{A:Asrt}(h:A ∈ pick is m L):A ∈ L:=by
 rcases List.mem_append.1 h with h | h
 ·obtain ⟨i,_,hi⟩:=List.mem_flatMap.1 h
  rw [Option.mem_toList]at hi
  exact List.mem_of_getElem? hi
 ·exact List.mem_of_mem_drop h
theorem qFm{R:Asrt→Asrt→Prop}(hs:∀ {A B},R A B→R B A)(hp:L.Pairwise R)(m:Nat):∀(is:List Nat),pickOk is m=true→(pick is m L).Pairwise R
 | [],_=>hp.sublist (List.drop_sublist m L)
 | i :: is,h=>by
  rw [pickOk,Bool.and_eq_true,Bool.and_eq_true,Nat.blt_eq,List.all_eq_true]at h
  obtain ⟨⟨h1,h2⟩,h3⟩:=h
  have ih:=qFm hs hp m is h3
  have e:pick (i :: is) m L=L[i]?.toList++pick is m L:=by
   unfold pick
   rw [List.flatMap_cons,List.append_assoc]
  rw [e]
  cases hi:L[i]? with
  | none=>exact ih
  | some A =>
   refine List.pairwise_cons.2 ⟨fun B hB=>?_,ih⟩
   have hat:∀ j,j≠i→L[j]? = some B→R A B:=fun j hj hB=>by
    rw [List.pairwise_iff_getElem]at hp
    obtain ⟨a1,a2⟩:=List.getElem?_eq_some_iff.1 hi
    obtain ⟨b1,b2⟩:=List.getElem?_eq_some_iff.1 hB
    rcases Nat.lt_or_gt_of_ne hj with h | h
    ·have:=hp j i b1 a1 h
     rw [a2,b2]at this
     exact hs this
    ·have:=hp i j a1 b1 h
     rwa [a2,b2]at this
   have hB:B ∈ (is.flatMap fun i=>L[i]?.toList)++L.drop m:=hB
   rcases List.mem_append.1 hB with hB | hB
   ·obtain ⟨j,hj,hB⟩:=List.mem_flatMap.1 hB
    rw [Option.mem_toList]at hB
    refine hat j (fun e=>?_) hB
    have:=h2 j hj
    rw [e,Nat.beq_refl]at this
    cases this
   ·obtain ⟨j,hj,e⟩:=List.getElem_of_mem hB
    rw [List.length_drop]at hj
    rw [List.getElem_drop]at e
    exact hat (m+j) (by omega) (by rw [List.getElem?_eq_getElem (by omega),e])
theorem St.pm(h:St W0 N F0 W F L)(is:List Nat)(m:Nat)(hk:pickOk is m=true:=by kernel_rfl):St W0 N F0 W F (pick is m L) :=
 { h with own:=⟨h.own.sub,fun B hB=>h.own.ok B (qDy hB),fun B hB=>h.own.free B (qDy hB),qFm (fun {A B} h b ha hb=>h b hb ha) h.own.apart m is hk⟩,new:=fun B hB=>h.new B (qDy hB) }
theorem St.ba{b:Nat}{cs:Array Value}{e:TypeId}(h:St W0 N F0 W F L)(i:Nat)(hi:L[i]? = some (Sl.box b cs e):=by exact rfl):W.heap[b]? = some (.cells cs e (0,0)):=h.blk_at hi
theorem St.ra{α : Type}{d:Kn α}{A:Option Addr}{c e n:Nat}{xs:List α}(h:St W0 N F0 W F L)(i:Nat)(hi:L[i]? = some (row d e (.slice A n c) xs):=by exact rfl):(row d e (.slice A n c) xs).ok F W:=h.own.ok _ (List.mem_of_getElem? hi)
theorem St.giveb{b:Nat}{cs:Array Value}{e:TypeId}(h:St W0 N F0 W F (Sl.box b cs e :: L)):∃ F',Sub F F'∧F'.heap[b]? = some (.cells cs e (0,0))∧St W0 N F0 W F' L:=by
 obtain ⟨F',h1,h2,h3⟩:=h.freeze
 exact ⟨F',h1,(h2 b rfl).trans h.own.head,h3⟩
theorem St.ne{i j b b':Nat}{cs cs':Array Value}{e e':TypeId}(h:St W0 N F0 W F L)(hi:L[i]? = some (Sl.box b cs e))(hj:L[j]? = some (Sl.box b' cs' e'))(hij:i≠j):b≠b':=by
 intro hb
 subst hb
 have hp:=h.own.apart
 rw [List.pairwise_iff_getElem]at hp
 obtain ⟨hi1,hi2⟩:=List.getElem?_eq_some_iff.1 hi
 obtain ⟨hj1,hj2⟩:=List.getElem?_eq_some_iff.1 hj
 rcases Nat.lt_or_gt_of_ne hij with hlt | hgt
 ·exact hp i j hi1 hj1 hlt b (by rw [hi2]; rfl) (by rw [hj2]; rfl)
 ·exact hp j i hj1 hi1 hgt b (by rw [hj2]; rfl) (by rw [hi2]; rfl)
theorem St.fc(h:St W0 N F0 W F L){p:Addr}{cs:List Value}(hc:∀(j:Nat)(u:Value),cs[j]? = some u→F.cell? (p.add j)=some u)(j:Nat){u:Value}(hu:cs[j]? = some u:=by rfl):W.cell? (p.add j)=some u:=h.own.sub.cell (hc j u hu)
theorem St.fcs(h:St W0 N F0 W F L){p:Addr}{cs:List Value}(hc:∀(j:Nat)(u:Value),cs[j]? = some u→F.cell? (p.add j)=some u):∀(j:Nat)(u:Value),cs[j]? = some u→W.cell? (p.add j)=some u:=fun j u hu=>h.own.sub.cell (hc j u hu)
end
end Go.Proofs.YtpabbpebefdafaaGreat.Sl
