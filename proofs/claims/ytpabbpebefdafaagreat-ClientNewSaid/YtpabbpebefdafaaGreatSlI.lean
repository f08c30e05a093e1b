import Derived.Test.YtpabbpebefdafaaGreatSlK
namespace Go.Proofs.YtpabbpebefdafaaGreat.Sl
open Go Go.RowKit
set_option linter.unusedVariables false
set_option linter.unusedSimpArgs false
section
variable {P:Program} {E:Nat→Value} {o:Oper} {W0 W F0 F:World} {N:Nat→Prop} {L:List Asrt} {α : Type} {d:Kn α} {e:TypeId} {A:Option Addr} {c n:Nat} {xs:List α}
def slcK(P:Program)(E:Nat→Value)(o:Oper):Option (TypeId × Nat × Value × Option Value × Option Value) :=
 match o.op with
 | .slice t x lo hi none=>match P.underlying t with
  | some (.slice e)=>match sizeB P e with
   | some z=>some (e,z,ev E x,lo.map (ev E),hi.map (ev E))
   | none=>none
  | _=>none
 | _=>none
theorem qDL{z lo hi:Nat}{low high:Option Value}(h:slcK P E o=some (e,z,.slice A n c,low,high))(hb:∀ w:World,(Instr.sliceBounds true n c low high none).run P w = .ok (lo,hi,c) w):YA P E o (.slice (if c=lo then A else A.map (·.add (lo * z))) (hi - lo) (c - lo)):=by
 intro w
 unfold slcK at h
 split at h
 ·rename_i t x lo' hi' hop
  split at h
  ·rename_i e' hu
   split at h
   ·rename_i z' hz
    simp only [Option.some.injEq,Prod.mk.injEq]at h
    obtain ⟨rfl,rfl,hx,rfl,rfl⟩:=h
    unfold execOp
    simp only [hop,hx,Option.map_none,Sem.run_bind,qEJ hu hz hb,Result.andThen_ok]
    rfl
   ·cases h
  ·cases h
 ·cases h
theorem y_pre{k:IntKind}{hi:Int}(hr:(row d e (.slice A n c) xs).ok F W)(h01:0≤hi∧hi≤(n:Int))(h:slcK P E o=some (e,d.sz,.slice A n c,none,some (.int k hi)):=by kernel_rfl):YA P E o (.slice A (cutl xs 0 hi).length c):=by
 obtain ⟨hn,hxc,_,_⟩:=qCN hr
 have hl:(cutl xs 0 hi).length=hi.toNat:=by
  simp only [cutl,Int.toNat_zero,List.drop_zero,List.length_take]
  omega
 have h1:=qDL h (fun w=>qDR (len:=n) h01.1 (by omega) w)
 rw [hl]
 have e1:(if c=0 then A else A.map (·.add (0 * d.sz)))=A:=by
  split
  ·rfl
  ·cases A with
   | none=>rfl
   | some a=>simp [Addr.add]
 rw [e1]at h1
 simpa using h1
theorem St.shrink{hi:Int}(h:St W0 N F0 W F (row d e (.slice A n c) xs :: L))(h01:0≤hi∧hi≤(n:Int)):St W0 N F0 W F (row d e (.slice A (cutl xs 0 hi).length c) (cutl xs 0 hi) :: L):=by
 obtain ⟨hn,hxc,hcm,_⟩:=qCN h.own.head
 subst hn
 have hl:(cutl xs 0 hi).length=hi.toNat:=by
  simp only [cutl,Int.toNat_zero,List.drop_zero,List.length_take]
  omega
 have hx:cutl xs 0 hi=xs.take hi.toNat:=by simp [cutl]
 have hok:(row d e (.slice A (cutl xs 0 hi).length c) (cutl xs 0 hi)).ok F W:=by
  obtain ⟨inner,hown,hr⟩:=h.own.head
  have hle:hi.toNat * d.sz≤xs.length * d.sz:=Nat.mul_le_mul_right _ (by omega)
  refine ⟨inner.take (hi.toNat * d.sz),?_,?_⟩
  ·refine ⟨by rw [List.length_take,hown.1,hl]; omega,?_⟩
   rcases hown.2 with ⟨hv,hq⟩ | ⟨g,cap,cur,hv,hg0,hg,hc2,hm,hz,ht⟩
   ·injection hv with q1 q2 q3
    refine .inl ⟨by rw [q1,q3,show (cutl xs 0 hi).length=0 by omega],by omega⟩
   ·injection hv with q1 q2 q3
    subst q1 q3
    exact .inr ⟨g,c,cur,rfl,hg0,hg,by omega,hm,hz,by rw [hl,← ht,List.take_take,Nat.min_eq_left hle]⟩
  ·rw [hx]
   refine ⟨by rw [List.length_take,hr.1,List.length_take,Nat.min_eq_left hle,Nat.min_eq_left (by omega)],fun j p hj=>?_⟩
   rw [List.getElem?_take]at hj
   split at hj
   ·rename_i hjl
    have h2:=hr.2 j p hj
    have hle2:j * d.sz+d.sz≤hi.toNat * d.sz:=by rw [← Nat.succ_mul]; exact Nat.mul_le_mul_right _ hjl
    rw [List.drop_take,List.take_take,Nat.min_eq_left (by omega)]
    exact h2
   ·cases hj
 exact h.turn _ rfl rfl rfl (Nat.le_refl _) (fun b _ _=>rfl) (fun b hb=>.inl (by cases A <;> exact hb)) hok (Nat.le_refl _)
theorem y_suf{k:IntKind}{lo:Int}(hr:(row d e (.slice A n c) xs).ok F W)(h01:0≤lo∧lo≤(n:Int)):∃ A' c',(n - lo.toNat=0∨∃ g,A=some ⟨g,0,none⟩∧A'=some ⟨g,lo.toNat * d.sz,none⟩)∧∀ {E:Nat→Value} {o:Oper},slcK P E o=some (e,d.sz,.slice A n c,some (.int k lo),none)→YA P E o (.slice A' (n - lo.toNat) c'):=by
 obtain ⟨hn,hxc,_,inner,_,h4⟩:=qCN hr
 refine ⟨_,_,?_,fun h=>qDL h (fun w=>qDQ (len:=n) (cap:=c) h01.1 h01.2 w)⟩
 rcases Nat.eq_zero_or_pos (n - lo.toNat) with h0 | h0
 ·exact .inl h0
 ·obtain ⟨g,cur,rfl,_⟩:=h4 (by omega)
  have hne:¬ c=lo.toNat:=by
   clear h4
   omega
  refine .inr ⟨g,rfl,?_⟩
  rw [if_neg hne]
  simp [qCZ]
def clrK(P:Program)(E:Nat→Value)(o:Oper):Option (TypeId × Value) :=
 match o.op with
 | .call c=>match c.callee with
  | .builtin .clear=>match c.args.toList,c.argTypes.toList with
   | [x],[t]=>match P.underlying t with
    | some (.slice e)=>some (e,ev E x)
    | _=>none
   | _,_=>none
  | _=>none
 | _=>none
theorem Eff.clr {A':Option Addr} {c':Nat} {lo:Int} (bytes:Nat) (zd : α) (h:St W0 N F0 W F (row d e (.slice A n c) xs :: L)) (h01:0≤lo∧lo≤(n:Int)) (hA:n - lo.toNat=0∨∃ g,A=some ⟨g,0,none⟩∧A'=some ⟨g,lo.toNat * d.sz,none⟩) (hK:d.K F zd (zerK P e))
  (hk:clrK P E o=some (e,.slice A' (n - lo.toNat) c'):=by kernel_rfl) (hi:infK P e d.sz bytes=true:=by kernel_rfl) :
  Eff P E o W (fun v w'=>v = .tuple #[]∧St W0 N F0 w' F (row d e (.slice A n c) (xs.take lo.toNat++List.replicate (n - lo.toNat) zd) :: L)∧W.heap.size≤w'.heap.size):=by
 obtain ⟨z,h1,h2,h3,h4⟩:=qCz hi
 obtain ⟨i0,hi0,hzz⟩:=Option.map_eq_some_iff.1 h1
 simp only [Prod.mk.injEq]at hzz
 obtain ⟨hz0,hz1,hz2⟩:=hzz
 have hK':d.K F zd z.cells.toList:=by
  unfold zerK at hK
  rw [hi0]at hK
  simp only [hz0]at hK
  exact hK
 obtain ⟨hn,hxc,hcm,inner,hr,hf⟩:=qCN h.own.head
 subst hn
 have hrun:∀ v w1,(∀ t,P.underlying t=some (.slice e)→(Builtin.clear_ #[t] o.type #[.slice A' (xs.length - lo.toNat) c']).run P W = .ok v w1)→(execOp (ev E) o).run P W = .ok (.value v) w1:=by
  intro v w1 hc
  unfold clrK at hk
  split at hk
  ·rename_i cl hop
   split at hk
   ·rename_i hcal
    split at hk
    ·rename_i x t hx ht
     split at hk
     ·rename_i e' hu
      simp only [Option.some.injEq,Prod.mk.injEq]at hk
      obtain ⟨rfl,hv⟩:=hk
      obtain ⟨cal,as,ts⟩:=cl
      simp only at hcal hx ht
      subst hcal
      obtain rfl:as = #[x]:=Array.ext' hx
      obtain rfl:ts = #[t]:=Array.ext' ht
      have:=hc t hu
      unfold execOp
      simp [hop,resolve,invoke,builtin,hv,this]
     ·cases hk
    ·cases hk
   ·cases hk
  ·cases hk
 rcases hA with h0 | ⟨g,rfl,rfl⟩
 ·rw [h0]
  have hx:xs.take lo.toNat=xs:=List.take_of_length_le (by omega)
  simp only [List.replicate_zero,List.append_nil,hx]
  refine Eff.run (hrun (.tuple #[]) W (fun t ht=>?_)) ⟨rfl,h,Nat.le_refl _⟩
  rw [h0]
  cases A' with
  | none=>simp [Builtin.clear_,run_underlying ht]
  | some a=>simp [Builtin.clear_,run_underlying ht]
 ·rcases Nat.eq_zero_or_pos (xs.length - lo.toNat) with h0 | h0
  ·rw [h0]
   have hx:xs.take lo.toNat=xs:=List.take_of_length_le (by omega)
   simp only [List.replicate_zero,List.append_nil,hx]
   refine Eff.run (hrun (.tuple #[]) W (fun t ht=>?_)) ⟨rfl,h,Nat.le_refl _⟩
   rw [h0]
   simp [Builtin.clear_,run_underlying ht]
  ·obtain ⟨g',cur,he,hg,hsz,ht⟩:=hf (by omega)
   injection he with he
   injection he with he
   subst he
   have hzr:=qDi (F:=F) zd hK' (xs.length - lo.toNat)
   have hzl:(Builtin.zeroCells z.cells (xs.length - lo.toNat)).toList.length=(xs.length - lo.toNat) * d.sz:=by rw [Array.length_toList,size_zeroCells,h2]
   have hsum:lo.toNat * d.sz+(xs.length - lo.toNat) * d.sz=xs.length * d.sz:=by rw [← Nat.add_mul]; congr 1; omega
   have hle:xs.length * d.sz≤cur.size:=by rw [hsz]; exact Nat.mul_le_mul_right _ hxc
   have hst:=run_storeCells_at P g (lo.toNat * d.sz) e (Builtin.zeroCells z.cells (xs.length - lo.toNat)).toList 0 cur W hg (by rw [hzl]; simp only [Nat.add_zero]; omega) hzr.one
   simp only [Nat.add_zero]at hst
   have hcl:∀ t,P.underlying t=some (.slice e)→(Builtin.clear_ #[t] o.type #[.slice (some ⟨g,lo.toNat * d.sz,none⟩) (xs.length - lo.toNat) c']).run P W = .ok (.tuple #[]) (W.setRow g (cur.toList.take (lo.toNat * d.sz)++(Builtin.zeroCells z.cells (xs.length - lo.toNat)).toList++cur.toList.drop (lo.toNat * d.sz+(Builtin.zeroCells z.cells (xs.length - lo.toNat)).toList.length)).toArray):=by
    intro t ht'
    obtain ⟨m,hm⟩:∃ m,xs.length - lo.toNat=m+1:=⟨xs.length - lo.toNat - 1,by omega⟩
    rw [hm]at hst ⊢
    simp [Builtin.clear_,run_underlying ht',zeroValue,typeInfo,hi0,hz0,hst]
   refine Eff.run (hrun _ _ hcl) ⟨rfl,?_,(qCU W g _).2.2.2⟩
   obtain ⟨q1,q2,q3,q4⟩:=qCU W g (cur.toList.take (lo.toNat * d.sz)++(Builtin.zeroCells z.cells (xs.length - lo.toNat)).toList++cur.toList.drop (lo.toNat * d.sz+(Builtin.zeroCells z.cells (xs.length - lo.toNat)).toList.length)).toArray
   have hll:(xs.take lo.toNat++List.replicate (xs.length - lo.toNat) zd).length=xs.length:=by
    simp only [List.length_append,List.length_take,List.length_replicate]
    omega
   have hpre:RepsK d F (xs.take lo.toNat) (inner.take (lo.toNat * d.sz)):=by
    have hle3:lo.toNat * d.sz≤xs.length * d.sz:=Nat.mul_le_mul_right _ (by omega)
    refine ⟨by rw [List.length_take,hr.1,List.length_take,Nat.min_eq_left hle3,Nat.min_eq_left (by omega)],fun j p hj=>?_⟩
    rw [List.getElem?_take]at hj
    split at hj
    ·rename_i hjl
     have h5:=hr.2 j p hj
     have hle2:j * d.sz+d.sz≤lo.toNat * d.sz:=by rw [← Nat.succ_mul]; exact Nat.mul_le_mul_right _ hjl
     rw [List.drop_take,List.take_take,Nat.min_eq_left (by omega)]
     exact h5
    ·cases hj
   have hreps:=hpre.append hzr
   refine h.turn _ q1 q2 q3 q4 (fun k _ hk=>setRow_other W g k _ (fun he=>hk (by simp [row,Value.ownBlock,he]))) (fun k hk=>.inl hk) ⟨_,⟨by rw [hreps.1],.inr ⟨g,c,_,by rw [hll],Nat.zero_le _,setRow_heap W g cur _ e (0,0) hg,by rw [hll]; exact hxc,hcm,?_,?_⟩⟩,hreps⟩ (Nat.le_refl _)
   ·simp only [List.size_toArray,List.length_append,List.length_take,List.length_drop,Array.length_toList,hzl]
    omega
   ·rw [hll]
    have e1:cur.toList.take (lo.toNat * d.sz)=inner.take (lo.toNat * d.sz):=by rw [← ht,List.take_take,Nat.min_eq_left (by omega)]
    rw [e1]
    simp only [List.toList_toArray]
    rw [List.take_left' (by rw [List.length_append,List.length_take,hr.1,hzl]; omega)]
end
end Go.Proofs.YtpabbpebefdafaaGreat.Sl
