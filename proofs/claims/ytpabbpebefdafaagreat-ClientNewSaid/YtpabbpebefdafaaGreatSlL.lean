import Derived.Test.YtpabbpebefdafaaGreatSlI
import Derived.Laws.CopyRow
import Derived.Lib.Overlaps
import Derived.Laws.Externs
namespace Go.Proofs.YtpabbpebefdafaaGreat.Sl
open Go Go.RowKit
set_option linter.unusedVariables false
set_option linter.unusedSimpArgs false
section
variable {P:Program} {E:Nat→Value} {o:Oper} {W0 W F0 F:World} {N:Nat→Prop} {L:List Asrt} {α : Type} {d:Kn α} {e:TypeId} {A:Option Addr} {c n g:Nat} {xs:List α}
theorem St.unrow(h:St W0 N F0 W F (row d e (.slice A n c) xs :: L))(hp:0<xs.length):∃ g cur,A=some ⟨g,0,none⟩∧cur.size=c * d.sz∧RepsK d F xs (cur.toList.take (xs.length * d.sz))∧St W0 N F0 W F (Sl.box g cur e :: L):=by
 obtain ⟨hn,hxc,hcm,inner,hr,hf⟩:=qCN h.own.head
 obtain ⟨g,cur,rfl,hg,hsz,ht⟩:=hf hp
 refine ⟨g,cur,rfl,hsz,by rw [ht]; exact hr,?_⟩
 exact h.turn (Sl.box g cur e) rfl rfl rfl (Nat.le_refl _) (fun _ _ _=>rfl) (fun b hb=>.inl (by rw [show b=g from hb]; simp [row,Value.ownBlock])) hg (Nat.le_refl _)
theorem St.rerow{cur:Array Value}(h:St W0 N F0 W F (Sl.box g cur e :: L))(ys:List α)(hs:cur.size=c * d.sz)(hc:ys.length≤c)(hm:c≤maxLen)(hr:RepsK d F ys (cur.toList.take (ys.length * d.sz))):St W0 N F0 W F (row d e (.slice (some ⟨g,0,none⟩) ys.length c) ys :: L) :=
 h.turn _ rfl rfl rfl (Nat.le_refl _) (fun _ _ _=>rfl) (fun b hb=>.inl (by simp [row,Value.ownBlock]at hb; exact hb.symm)) ⟨_,⟨hr.1,.inr ⟨g,c,cur,rfl,Nat.zero_le _,h.own.head,hc,hm,hs,rfl⟩⟩,hr⟩ (Nat.le_refl _)
theorem y_hi{z:Nat}{k:IntKind}{hi:Int}(h:0≤hi∧hi≤(c:Int))(hk:slcK P E o=some (e,z,.slice (some ⟨g,0,none⟩) n c,none,some (.int k hi)):=by kernel_rfl):YA P E o (.slice (some ⟨g,0,none⟩) hi.toNat c):=by
 have h1:=qDL hk (fun w=>qDR (len:=n) h.1 h.2 w)
 have e1:(if c=0 then (some ⟨g,0,none⟩:Option Addr) else (some ⟨g,0,none⟩:Option Addr).map (·.add (0 * z)))=some ⟨g,0,none⟩:=by
  split
  ·rfl
  ·simp [Addr.add]
 rw [e1]at h1
 simpa using h1
theorem y_lo{z:Nat}{k:IntKind}{lo:Int}(h:0≤lo∧lo≤(n:Int))(hc:lo<(c:Int))(hk:slcK P E o=some (e,z,.slice (some ⟨g,0,none⟩) n c,some (.int k lo),none):=by kernel_rfl):YA P E o (.slice (some ⟨g,lo.toNat * z,none⟩) (n - lo.toNat) (c - lo.toNat)):=by
 have h1:=qDL hk (fun w=>qDQ (len:=n) (cap:=c) h.1 h.2 w)
 rw [if_neg (by omega)]at h1
 simpa [qCZ] using h1
def capK(P:Program)(E:Nat→Value)(o:Oper):Option Value :=
 match o.op with
 | .call c=>match c.callee with
  | .builtin .cap=>match c.args.toList,c.argTypes.toList with
   | [x],[t]=>match P.underlying t with
    | some (.slice _)=>some (ev E x)
    | _=>none
   | _,_=>none
  | _=>none
 | _=>none
theorem y_cap(hk:capK P E o=some (.slice A n c):=by kernel_rfl):YA P E o (.int .i64 c):=by
 intro w
 unfold capK at hk
 split at hk
 ·rename_i cl hop
  split at hk
  ·rename_i hcal
   split at hk
   ·rename_i x t hx ht
    split at hk
    ·rename_i e' hu
     injection hk with hv
     obtain ⟨cal,as,ts⟩:=cl
     simp only at hcal hx ht
     subst hcal
     obtain rfl:as = #[x]:=Array.ext' hx
     obtain rfl:ts = #[t]:=Array.ext' ht
     unfold execOp
     simp [hop,resolve,invoke,builtin,Builtin.cap_,run_underlying hu,hv,goInt]
    ·cases hk
   ·cases hk
  ·cases hk
 ·cases hk
def cpyK(P:Program)(E:Nat→Value)(o:Oper):Option (TypeId × Value × Value) :=
 match o.op with
 | .call c=>match c.callee with
  | .builtin .copy=>match c.args.toList,c.argTypes.toList with
   | [x,y],[t,t']=>match P.underlying t with
    | some (.slice e)=>some (e,ev E x,ev E y)
    | _=>none
   | _,_=>none
  | _=>none
 | _=>none
theorem Eff.cpy {cur:Array Value} {off dn dc sn sc z:Nat} {sa:Addr} (h:St W0 N F0 W F (Sl.box g cur e :: L)) (news:List Value) (hl:news.length=Nat.min sn dn * z) (hsrc:∀ j u,news[j]? = some u→W.cell? (sa.add j)=some u) (h1:∀ u ∈ news,u.oneCell'=true) (hf:off+news.length≤cur.size) (hz:sizeB P e=some z)
  (hk:cpyK P E o=some (e,.slice (some ⟨g,off,none⟩) dn dc,.slice (some sa) sn sc):=by kernel_rfl) :
  Eff P E o W (fun v w'=>v = .int .i64 (Nat.min sn dn:Nat)∧St W0 N F0 w' F (Sl.box g (cur.toList.take off++news++cur.toList.drop (off+news.length)).toArray e :: L)∧W.heap.size≤w'.heap.size∧w'.heap[g]? = some (.cells (cur.toList.take off++news++cur.toList.drop (off+news.length)).toArray e (0,0))∧∀ b,b≠g→b<W.heap.size→w'.heap[b]? = W.heap[b]?):=by
 unfold cpyK at hk
 split at hk
 ·rename_i cl hop
  split at hk
  ·rename_i hcal
   split at hk
   ·rename_i x y t t' hx ht
    split at hk
    ·rename_i e' hu
     simp only [Option.some.injEq,Prod.mk.injEq]at hk
     obtain ⟨rfl,hv1,hv2⟩:=hk
     obtain ⟨cal,as,ts⟩:=cl
     simp only at hcal hx ht
     subst hcal
     obtain rfl:as = #[x,y]:=Array.ext' hx
     obtain rfl:ts = #[t,t']:=Array.ext' ht
     have hg:=h.own.head
     have hld:=run_loadCells_list (P:=P) W sa news hsrc
     have hst:=run_storeCells_at P g off e' news 0 cur W hg (by simpa using hf) h1
     simp only [Nat.add_zero]at hst
     obtain ⟨i,hi,hiz⟩:=Option.map_eq_some_iff.1 hz
     have hrun:(Builtin.copy_ #[t,t'] o.type #[.slice (some ⟨g,off,none⟩) dn dc,.slice (some sa) sn sc]).run P W = .ok (goInt (Nat.min sn dn)) (W.setRow g (cur.toList.take off++news++cur.toList.drop (off+news.length)).toArray):=by
      simp [Builtin.copy_,run_underlying hu,Builtin.lenOf,Builtin.firstCells,sizeOf,typeInfo,hi,hiz,← hl,hld,hst]
     have hexec:(execOp (ev E) o).run P W = .ok (.value (goInt (Nat.min sn dn))) (W.setRow g (cur.toList.take off++news++cur.toList.drop (off+news.length)).toArray):=by
      unfold execOp
      simp [hop,resolve,invoke,builtin,hv1,hv2,hrun]
     obtain ⟨h2,h3⟩:=qEd (cs':=(cur.toList.take off++news++cur.toList.drop (off+news.length)).toArray) h
     exact Eff.run hexec ⟨rfl,h2,(qCU W g _).2.2.2,h3,fun b hb _=>setRow_other W g b _ hb⟩
    ·cases hk
   ·cases hk
  ·cases hk
 ·cases hk
theorem Eff.gro {cur:Array Value} {j bytes z:Nat} {k:Int} (h:St W0 N F0 W F L) (hg:W.heap[g]? = some (.cells cur e (0,0))) (hk0:0<k) (hroom:(c:Int)<(j:Int)+k) (hj:j * z≤cur.size) (hl:((j:Int)+k) * (bytes:Int)≤140737488355328) (hi:infK P e z bytes=true)
  (hk:ap0K P E o=some (e,.slice (some ⟨g,0,none⟩) j c,k):=by kernel_rfl) :
  Eff P E o W (fun v w'=>∃ b arr c2,v = .slice (some ⟨b,0,none⟩) (j+k.toNat) c2∧arr.size=c2 * z∧j+k.toNat≤c2∧c2≤maxLen∧arr.toList.take (j * z)=cur.toList.take (j * z)∧St W0 N F0 w' F (Sl.box b arr e :: L)∧Agr W w'):=by
 obtain ⟨zv,h1,h2,h3,h4⟩:=qCz hi
 obtain ⟨i0,hi0,hzz⟩:=Option.map_eq_some_iff.1 h1
 simp only [Prod.mk.injEq]at hzz
 obtain ⟨hz0,hz1,hz2⟩:=hzz
 have hs0:0<z:=by simpa [Nat.blt_eq] using h3
 have hb0:0<bytes:=by simpa [Nat.blt_eq] using h4
 obtain ⟨m,rfl⟩:∃ m:Nat,k=m:=⟨k.toNat,by omega⟩
 simp only [Int.toNat_natCast]
 have hlN:(j+m) * bytes≤140737488355328:=by
  have:(((j+m) * bytes:Nat):Int)≤140737488355328:=by
   rw [Int.natCast_mul,Int.natCast_add]
   exact hl
  omega
 have hlen:j+m≤140737488355328:=Nat.le_trans (Nat.le_mul_of_pos_right _ hb0) hlN
 have hmb:m * bytes≤140737488355328:=Nat.le_trans (Nat.mul_le_mul_right _ (Nat.le_add_left _ _)) hlN
 have hil:(cur.toList.take (j * z)).length=j * z:=by simp; omega
 have hold:(Builtin.firstCells i0.size j (.slice (some ⟨g,0,none⟩) j c)).run P W.drew = .ok (cur.toList.take (j * z)).toArray W.drew:=by
  refine run_firstCells_some (P:=P) (w:=W.drew) i0.size j ⟨g,0,none⟩ j c _ (by rw [hil,hz1]) (fun q u hq=>?_)
  rw [qCZ,Nat.zero_add]
  refine qCS (w:=W.drew) hg ?_
  rw [List.getElem?_take]at hq
  split at hq
  ·rwa [Array.getElem?_toList]at hq
  ·cases hq
 unfold ap0K at hk
 split at hk
 ·rename_i cl hop
  split at hk
  ·rename_i hcal
   split at hk
   ·rename_i x y t t' hx ht
    split at hk
    ·rename_i e' kn k' hu hu' hy
     simp only [Option.some.injEq,Prod.mk.injEq]at hk
     obtain ⟨rfl,hv,rfl⟩:=hk
     obtain ⟨cal,as,ts⟩:=cl
     simp only at hcal hx ht
     subst hcal
     obtain rfl:as = #[x,y]:=Array.ext' hx
     obtain rfl:ts = #[t,t']:=Array.ext' ht
     have hrun:=Go.Lib.run_append_grow_zeros (P:=P) W t t' o.type e' i0 zv .i64 kn hu hu' hi0 hz0 (some ⟨g,0,none⟩) j c (cur.toList.take (j * z)) hold m (by omega) (by rw [hz1]; exact hs0) (by omega) (by omega) (by rw [hz2]; omega) (by rw [hz2]; exact growslice_fits (by omega) hlN)
     have hexec:(execOp (ev E) o).run P W = .ok (.value (.slice (some ⟨W.heap.size,0,none⟩) (j+m) (grownCap W (j+m) c e'))) (W.drew.alloc (.cells ((cur.toList.take (j * z)).toArray++Builtin.zeroCells zv.cells m++Builtin.zeroCells zv.cells (grownCap W (j+m) c e' - (j+m))) e')):=by
      unfold execOp
      simp only [hop,resolve,invoke,builtin,Sem.run_bind,Sem.run_pure,Result.andThen_ok,List.map_toArray,List.map_cons,List.map_nil,hv,hy,hrun]
     have hge:=grownCap_ge W (j+m) c e'
     have hgm:=grownCap_le_maxLen W (j+m) c e' (by simp only [maxLen]; omega)
     refine Eff.run hexec ⟨_,_,_,rfl,?_,hge,hgm,?_,(h.drew).box _ _,(Agr.drew W).trans (qCe W.drew _)⟩
     ·simp only [Array.size_append,List.size_toArray,size_zeroCells,h2,hil,← Nat.add_mul]
      congr 1
      omega
     ·simp only [Array.toList_append,List.toList_toArray,List.append_assoc]
      rw [List.take_left' hil]
    ·cases hk
   ·cases hk
  ·cases hk
 ·cases hk
theorem Eff.ext{f:FuncId}{args:List Value}{v:Value}{R:Value→World→Prop}(hr:(callFunc f args.toArray).run P W = .ok (.value v) W)(hR:R v W)(hk:callK E o=some (f,args):=by kernel_rfl):Eff P E o W R:=by
 unfold callK at hk
 split at hk
 ·rename_i cl hop
  split at hk
  ·rename_i fo hcal
   split at hk
   ·rename_i g' first caps hf
    split at hk
    ·rename_i hfirst
     simp only [Option.some.injEq,Prod.mk.injEq]at hk
     obtain ⟨rfl,rfl⟩:=hk
     obtain ⟨cal,as,ts⟩:=cl
     simp only at hcal
     subst hcal
     obtain rfl:first = #[]:=Array.ext' hfirst
     have e1 : #[]++as.map (ev E)++caps=(as.toList.map (ev E)++caps.toList).toArray:=by
      apply Array.ext'
      simp
     refine Eff.run (v:=v) (w':=W) ?_ hR
     unfold execOp
     simp only [hop,resolve,hf,Deferred.ofValue,Sem.run_bind,Sem.run_pure,Result.andThen_ok,invoke]
     rw [e1]
     exact hr
    ·cases hk
   ·cases hk
  ·cases hk
 ·cases hk
variable {F:World} {x : α}
theorem qCn{cs inner out:List Value}{j:Nat}(hr:RepsK d F xs inner)(hx:d.K F x cs)(hj:j≤xs.length)(ho:out=inner.take (j * d.sz)++cs++inner.drop (j * d.sz)):RepsK d F (xs.take j++x :: xs.drop j) out:=by
 subst ho
 have hjl:j * d.sz≤xs.length * d.sz:=Nat.mul_le_mul_right _ hj
 have h1:RepsK d F (xs.take j) (inner.take (j * d.sz)):=by
  refine ⟨by rw [List.length_take,hr.1,List.length_take,Nat.min_eq_left hjl,Nat.min_eq_left hj],fun q p hq=>?_⟩
  rw [List.getElem?_take]at hq
  split at hq
  ·rename_i hqj
   have h5:=hr.2 q p hq
   have hle2:q * d.sz+d.sz≤j * d.sz:=by rw [← Nat.succ_mul]; exact Nat.mul_le_mul_right _ hqj
   rw [List.drop_take,List.take_take,Nat.min_eq_left (by omega)]
   exact h5
  ·cases hq
 have h2:RepsK d F [x] cs:=by
  have hl:=d.len hx
  refine ⟨by rw [hl]; simp,fun q p hq=>?_⟩
  cases q with
  | zero =>
   simp at hq
   subst hq
   rw [Nat.zero_mul,List.drop_zero,← hl,List.take_length]
   exact hx
  | succ q=>simp at hq
 have h3:RepsK d F (xs.drop j) (inner.drop (j * d.sz)):=by
  refine ⟨by rw [List.length_drop,hr.1,List.length_drop,Nat.sub_mul],fun q p hq=>?_⟩
  rw [List.getElem?_drop]at hq
  have h5:=hr.2 _ p hq
  rw [List.drop_drop,← Nat.add_mul]
  exact h5
 have:=(h1.append h2).append h3
 simpa [List.append_assoc] using this
theorem qEM{sz n i cap:Nat}{cur inner cs:List Value}(ht:cur.take (n * sz)=inner)(hcl:cs.length=sz)(hi:i≤n)(hn:n+1≤cap)(hs:cur.length=cap * sz):
  let c1:=cur.take ((i+1) * sz)++inner.drop (i * sz)++cur.drop ((i+1) * sz+(inner.drop (i * sz)).length)
  let c2:=c1.take (i * sz)++cs++c1.drop (i * sz+cs.length)
  c2.take ((n+1) * sz)=inner.take (i * sz)++cs++inner.drop (i * sz)∧c2.length=cap * sz∧c1.length=cap * sz:=by
 have h1:n * sz+sz≤cap * sz:=by rw [← Nat.succ_mul]; exact Nat.mul_le_mul_right _ hn
 have h2:i * sz≤n * sz:=Nat.mul_le_mul_right _ hi
 have hil:inner.length=n * sz:=by rw [← ht,List.length_take,hs]; omega
 have hid:(inner.drop (i * sz)).length=n * sz - i * sz:=by rw [List.length_drop,hil]
 rw [Nat.add_mul,Nat.one_mul,Nat.add_mul n 1,Nat.one_mul]
 intro c1 c2
 have hc1:c1.length=cap * sz:=by
  simp only [c1,List.length_append,List.length_take,List.length_drop,hs,hil]
  omega
 have hc2:c2.length=cap * sz:=by
  simp only [c2,List.length_append,List.length_take,List.length_drop,hc1,hcl]
  omega
 refine ⟨?_,hc2,hc1⟩
 apply List.ext_getElem?
 intro j
 have e1:∀ m,m<i * sz+sz→c1[m]? = cur[m]?:=by
  intro m hm
  simp only [c1]
  rw [List.getElem?_append_left (by simp only [List.length_append,List.length_take,hs]; omega),List.getElem?_append_left (by simp only [List.length_take,hs]; omega),List.getElem?_take]
  rw [if_pos (by omega)]
 have e2:∀ m,i * sz+sz≤m→m<n * sz+sz→c1[m]? = inner[m - sz]?:=by
  intro m hm hm2
  simp only [c1]
  rw [List.getElem?_append_left (by simp only [List.length_append,List.length_take,hs,hid]; omega),List.getElem?_append_right (by simp only [List.length_take,hs]; omega),List.getElem?_drop]
  congr 1
  simp only [List.length_take,hs]
  omega
 have e0:∀ m,m<n * sz→inner[m]? = cur[m]?:=by
  intro m hm
  rw [← ht,List.getElem?_take,if_pos hm]
 have hlt:(inner.take (i * sz)).length=i * sz:=by rw [List.length_take,hil]; omega
 rw [List.getElem?_take]
 by_cases hj:j<n * sz+sz
 ·rw [if_pos hj]
  by_cases ha:j<i * sz
  ·have l:c2[j]? = cur[j]?:=by
    simp only [c2]
    rw [List.getElem?_append_left (by simp only [List.length_append,List.length_take,hc1]; omega),List.getElem?_append_left (by simp only [List.length_take,hc1]; omega),List.getElem?_take,if_pos ha,e1 j (by omega)]
   rw [l,List.getElem?_append_left (by rw [List.length_append,hlt]; omega),List.getElem?_append_left (by rw [hlt]; omega),List.getElem?_take,if_pos ha,e0 j (by omega)]
  ·by_cases hb:j<i * sz+sz
   ·have l:c2[j]? = cs[j - i * sz]?:=by
     simp only [c2]
     rw [List.getElem?_append_left (by simp only [List.length_append,List.length_take,hc1]; omega),List.getElem?_append_right (by simp only [List.length_take,hc1]; omega)]
     congr 1
     simp only [List.length_take,hc1]
     omega
    rw [l,List.getElem?_append_left (by rw [List.length_append,hlt]; omega),List.getElem?_append_right (by rw [hlt]; omega),hlt]
   ·have l:c2[j]? = inner[j - sz]?:=by
     simp only [c2]
     rw [List.getElem?_append_right (by simp only [List.length_append,List.length_take,hc1]; omega),List.getElem?_drop,hcl]
     have e3:i * sz+sz+(j - (c1.take (i * sz)++cs).length)=j:=by
      simp only [List.length_append,List.length_take,hc1,hcl]
      omega
     rw [e3,e2 j (by omega) hj]
    rw [l,List.getElem?_append_right (by rw [List.length_append,hlt]; omega),List.getElem?_drop,List.length_append,hlt,hcl]
    congr 1
    omega
 ·rw [if_neg hj,List.getElem?_eq_none (by simp only [List.length_append,hlt,hcl,hid]; omega)]
theorem qDk{sz n i cap:Nat}{c0 inner cs:List Value}(ht:c0.take (i * sz)=inner.take (i * sz))(hil:inner.length=n * sz)(hcl:cs.length=sz)(hi:i≤n)(hn:n+1≤cap)(hs:c0.length=cap * sz):
  let c1:=c0.take (i * sz)++cs++c0.drop (i * sz+cs.length)
  let c2:=c1.take ((i+1) * sz)++inner.drop (i * sz)++c1.drop ((i+1) * sz+(inner.drop (i * sz)).length)
  c2.take ((n+1) * sz)=inner.take (i * sz)++cs++inner.drop (i * sz)∧c2.length=cap * sz∧c1.length=cap * sz:=by
 have h1:n * sz+sz≤cap * sz:=by rw [← Nat.succ_mul]; exact Nat.mul_le_mul_right _ hn
 have h2:i * sz≤n * sz:=Nat.mul_le_mul_right _ hi
 have hid:(inner.drop (i * sz)).length=n * sz - i * sz:=by rw [List.length_drop,hil]
 have hlt:(inner.take (i * sz)).length=i * sz:=by rw [List.length_take,hil]; omega
 rw [Nat.add_mul,Nat.one_mul,Nat.add_mul n 1,Nat.one_mul]
 intro c1 c2
 have hc1:c1.length=cap * sz:=by
  simp only [c1,List.length_append,List.length_take,List.length_drop,hs,hcl]
  omega
 have hc2:c2.length=cap * sz:=by
  simp only [c2,List.length_append,List.length_take,List.length_drop,hc1,hil]
  omega
 refine ⟨?_,hc2,hc1⟩
 have t1:c1.take (i * sz+sz)=inner.take (i * sz)++cs:=by
  simp only [c1]
  rw [ht]
  exact List.take_left' (by rw [List.length_append,hlt,hcl])
 simp only [c2]
 rw [t1]
 exact List.take_left' (by rw [List.length_append,List.length_append,hlt,hcl,hid]; omega)
end
end Go.Proofs.YtpabbpebefdafaaGreat.Sl
