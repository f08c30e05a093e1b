import Derived.Test.YtpabbpebefdafaaSlS
import Derived.Lib.ConvBytes
import Derived.Laws.BytesArg
namespace Go.Proofs.Ytpabbpebefdafaa.Sl
open Go Go.RowKit Go.Proofs
set_option linter.unusedVariables false
set_option linter.unusedSimpArgs false
def sbytes(s:ByteArray):List Int:=s.data.toList.map fun u=>(u.toNat:Int)
theorem qQ(s:ByteArray):(sbytes s).length=s.size:=by
 unfold sbytes
 rw [List.length_map]
 rfl
def sbx(b:Nat)(e:TypeId)(n:Nat)(xs:List Int):Asrt :=
 ⟨(· = b),fun _ W=>∃ cur z,W.heap[b]? = some (.cells cur e (z,z+1))∧cur.size=z∧xs.length=n∧n≤z∧∀(i:Nat)(u:Int),xs[i]? = some u→cur[i]? = some (.int .u8 u),
  fun _ h=>h,fun hl ⟨cur,z,h,r⟩=>⟨cur,z,(hl b rfl).trans h,r⟩,fun {F W b'} ⟨cur,z,h,_⟩ hb=>by rw [show b'=b from hb]; exact (Array.getElem?_eq_some_iff.1 h).1⟩
section
variable {P:Program} {E:Nat→Value} {o:Oper} {W0 W W' F0 F:World} {N:Nat→Prop} {L:List Asrt} {b n:Nat} {e:TypeId} {xs:List Int} {A:Asrt}
theorem St.fresh(h:St W0 N F0 W F L)(A:Asrt)(h1:St W0 N F0 W' F L)(hf:∀ b,A.fp b→b=W.heap.size)(ho:A.ok F W'):St W0 N F0 W' F (A :: L):=by
 refine { h1 with own:=⟨h1.own.sub,fun B hB=>?_,fun B hB b hb=>?_,List.pairwise_cons.2 ⟨fun B hB b hb hb2=>?_,h.own.apart⟩⟩,new:=fun B hB b hb=>?_ }
 ·rcases List.mem_cons.1 hB with rfl | hB
  ·exact ho
  ·exact h1.own.ok B hB
 ·rcases List.mem_cons.1 hB with rfl | hB
  ·intro c e z hc
   have:=qK (h.own.sub b c e z hc)
   rw [hf b hb]at this
   omega
  ·exact h.own.free B hB b hb
 ·have:=h.own.lt hB hb2
  rw [hf b hb]at this
  omega
 ·rcases List.mem_cons.1 hB with rfl | hB
  ·rw [hf b hb]; exact h.at_size
  ·exact h.new B hB b hb
def sbK(P:Program)(E:Nat→Value)(o:Oper):Option (ByteArray × TypeId) :=
 match o.op with
 | .convert t t' x=>match P.underlying t,P.underlying t',ev E x with
  | some .string,some (.slice e),.string s=>match P.underlying e with
   | some (.int .u8)=>some (s,e)
   | _=>none
  | _,_,_=>none
 | _=>none
theorem Eff.sb(h:St W0 N F0 W F L)(s:ByteArray)(hk:sbK P E o=some (s,e):=by kernel_rfl):Eff P E o W (fun v w'=>∃ b c,v = .slice (some ⟨b,0,none⟩) (sbytes s).length c∧St W0 N F0 w' F (sbx b e (sbytes s).length (sbytes s) :: L)∧Agr W w'):=by
 unfold sbK at hk
 split at hk
 ·rename_i t t' x hop
  split at hk
  ·rename_i e' s' hu hu' hx
   split at hk
   ·rename_i he
    simp only [Option.some.injEq,Prod.mk.injEq]at hk
    obtain ⟨rfl,rfl⟩:=hk
    have hrun:(execOp (ev E) o).run P W = .ok (.value (.slice (some ⟨W.heap.size,0,none⟩) (sbytes s').length (grownCap W s'.size 0 e'))) (Go.Lib.bytesWorld W e' s'):=by
     unfold execOp
     simp [hop,hx,Go.Lib.run_convert_string_bytes W t t' e' s' hu hu' he,qQ]
    have ha:Agr W (Go.Lib.bytesWorld W e' s'):=⟨by rw [Go.Lib.bytesWorld_size]; omega,fun b hb=>Go.Lib.bytesWorld_at_old W e' s' b hb⟩
    have h1:=h.on (W':=Go.Lib.bytesWorld W e' s') rfl rfl rfl ha (by show W.drawn≤W.drawn+1; omega)
    refine Eff.run hrun ⟨_,_,rfl,h.fresh _ h1 (fun b hb=>hb) ⟨_,_,Go.Lib.bytesWorld_at_new W e' s',rfl,rfl,?_,fun i u hi=>?_⟩,ha⟩
    ·rw [qQ]
     simp [Go.Lib.bytesCells]
    ·unfold sbytes at hi
     rw [List.getElem?_map]at hi
     cases hq:s'.data.toList[i]? with
     | none=>rw [hq]at hi; cases hi
     | some q =>
      rw [hq]at hi
      simp only [Option.map_some,Option.some.injEq]at hi
      subst hi
      have hlt:i<s'.data.size:=by
       have:=(List.getElem?_eq_some_iff.1 hq).1
       simpa using this
      unfold Go.Lib.bytesCells
      rw [Array.getElem?_append_left (by simpa using hlt),Array.getElem?_map]
      rw [Array.getElem?_toList]at hq
      rw [hq]
      rfl
   ·cases hk
  ·cases hk
 ·cases hk
theorem qBP{W:World}(h:(sbx b e n xs).ok F W){i:Int}(h01:0≤i∧i<(n:Int)):W.cell? ((⟨b,0,none⟩:Addr).add (i.toNat * 1))=some (.int .u8 (nth 0 xs i)):=by
 obtain ⟨cur,z,hb,hz,hl,hn,hc⟩:=h
 rw [qY,Nat.zero_add,Nat.mul_one]
 refine qT hb (hc _ _ ?_)
 have hlt:i.toNat<xs.length:=by omega
 rw [List.getElem?_eq_getElem hlt]
 simp [nth,hlt,h01.1]
def sbsK(P:Program)(E:Nat→Value)(o:Oper):Option (Addr × Int) :=
 match o.op with
 | .store t x y=>match ev E x,ev E y,sizeB P t with
  | .pointer (some a),.int .u8 u,some 1=>some (a,u)
  | _,_,_=>none
 | _=>none
theorem Eff.sbs(h:St W0 N F0 W F (sbx b e n xs :: L)){i:Int}(u:Int)(h01:0≤i∧i<(n:Int))(hk:sbsK P E o=some ((⟨b,0,none⟩:Addr).add (i.toNat * 1),u):=by kernel_rfl):
  Eff P E o W (fun r w'=>r=undef∧St W0 N F0 w' F (sbx b e n (xs.set i.toNat u) :: L)∧W.heap.size≤w'.heap.size):=by
 rw [qY,Nat.zero_add,Nat.mul_one]at hk
 obtain ⟨cur,z,hb,hz,hl,hn,hc⟩:=h.own.head
 have hlt:i.toNat<cur.size:=by omega
 unfold sbsK at hk
 split at hk
 ·rename_i t x y hop
  split at hk
  ·rename_i a u' hx hy hs
   simp only [Option.some.injEq,Prod.mk.injEq]at hk
   obtain ⟨rfl,rfl⟩:=hk
   have hcell:W.cell? ⟨b,i.toNat,none⟩=some cur[i.toNat]:=by simp [World.cell?,hb,hlt]
   have hfro:W.frozen? ⟨b,i.toNat,none⟩=false:=by
    simp only [World.frozen?,hb,Bool.and_eq_false_iff,decide_eq_false_iff_not]
    left
    omega
   have hst:(store (⟨b,i.toNat,none⟩:Addr) (.int .u8 u')).run P W = .ok () (W.setRow b (cur.setIfInBounds i.toNat (.int .u8 u'))):=by
    rw [run_store P W _ (.int .u8 u') _ rfl,hcell]
    simp [hfro,setCell_eq_setRow W b i.toNat cur e (z,z+1) (.int .u8 u') hb]
   have hsv:(storeVar t ⟨b,i.toNat,none⟩ (.int .u8 u')).run P W = .ok () (W.setRow b (cur.setIfInBounds i.toNat (.int .u8 u'))):=by
    have hadd:(⟨b,i.toNat,none⟩:Addr).add 0=⟨b,i.toNat,none⟩:=by rw [qY,Nat.add_zero]
    have hcs:(Value.int .u8 u').cells = #[.int .u8 u']:=rfl
    simp [storeVar,qV hs,hcs,storeCells,hadd,hst]
   have hrun:(execOp (ev E) o).run P W = .ok .skip (W.setRow b (cur.setIfInBounds i.toNat (.int .u8 u'))):=by
    unfold execOp
    simp [hop,hx,hy,Instr.storeAt,Instr.sureAddr,hsv]
   have hb':=setRow_heap W b cur (cur.setIfInBounds i.toNat (.int .u8 u')) e (z,z+1) hb
   obtain ⟨r1,r2,r3,r4⟩:=qR W b (cur.setIfInBounds i.toNat (.int .u8 u'))
   refine Eff.skip hrun ⟨rfl,h.turn (sbx b e n (xs.set i.toNat u')) r1 r2 r3 r4 (fun k _ hk=>setRow_other W b k _ hk) (fun k hk=>.inl hk) ⟨_,_,hb',by rw [Array.size_setIfInBounds]; exact hz,by rw [List.length_set]; exact hl,hn,fun j v hj=>?_⟩ (Nat.le_refl _),r4⟩
   rw [List.getElem?_set]at hj
   rw [Array.getElem?_setIfInBounds]
   split at hj
   ·rename_i hij
    rw [if_pos hij]
    split at hj
    ·rw [if_pos (by omega)]
     cases hj
     rfl
    ·cases hj
   ·rename_i hij
    rw [if_neg hij]
    exact hc j v hj
  ·cases hk
 ·cases hk
def stK(P:Program)(E:Nat→Value)(o:Oper):Option (Nat × Nat) :=
 match o.op with
 | .convert t t' x=>match P.underlying t,P.underlying t',ev E x with
  | some (.slice e),some .string,.slice (some ⟨b,0,none⟩) n _=>match P.underlying e with
   | some (.int .u8)=>some (b,n)
   | _=>none
  | _,_,_=>none
 | _=>none
theorem qBZ{W:World}(h:(sbx b e n xs).ok F W)(hk:stK P E o=some (b,n):=by kernel_rfl):YS P (Agr W) E o (.string (strOfNums xs)):=by
 intro w' hw
 obtain ⟨cur,z,hb,hz,hl,hn,hc⟩:=h
 unfold stK at hk
 split at hk
 ·rename_i t t' x hop
  split at hk
  ·rename_i e' b' n' c' hu hu' hx
   split at hk
   ·rename_i he
    simp only [Option.some.injEq,Prod.mk.injEq]at hk
    obtain ⟨rfl,rfl⟩:=hk
    have hr:=run_convert_bytes_arg (P:=P) w' t e' hu he b' 0 n' c' xs hl (fun i hi=>by
     refine qT (hw.blk hb) (hc _ _ ?_)
     have hlt:i<xs.length:=by omega
     rw [Nat.zero_add,List.getElem?_eq_getElem hlt]
     simp [List.getD,hlt]) t' hu'
    unfold execOp
    simp [hop,hx,hr]
   ·cases hk
  ·cases hk
 ·cases hk
end
theorem ChainD.ys{P:Program}{ops:Array Oper}{n:Nat}{SX:World→Prop}{E:Nat→Value}{w:World}{E2:Nat→Value}{is:List (Nat × Nat)}(i:Nat){v:Value}(hy:YS P (Agr w) E (opAt ops i) v)(hc:ChainD P (Agr w) SX ops n (upd E (dstAt ops i) v) is E2)(h:(okS ops n E i&&dstB ops i)=true:=by kernel_rfl):ChainD P (Agr w) SX ops n E ((i,0) :: is) E2:=by
 simp only [Bool.and_eq_true]at h
 exact qAj h.1 h.2 hy hc
end Go.Proofs.Ytpabbpebefdafaa.Sl
