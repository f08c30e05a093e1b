import Derived.Test.YthgfhlbjkmjlpaaGreatSlL
namespace Go.Proofs.YthgfhlbjkmjlpaaGreat.Sl
open Go Go.RowKit
set_option linter.unusedVariables false
set_option linter.unusedSimpArgs false
section
variable {P:Program} {E:Nat->Value} {o:Oper} {W0 W F0 F:World} {N:Nat->Prop} {L:List Asrt} {α : Type} {d:Kn α} {e:TypeId} {A:Option Addr} {c n g:Nat} {xs ys:List α}
theorem ChainD.bnX{S:World->Prop}{ops:Array Oper}{n:Nat}{w:World}{X:Nat->Prop}{E E2:Nat->Value}{is:List (Nat × Nat)}(i off z:Nat){b:Nat}{cs:Array Value}{e:TypeId}(hb:w.heap[b]? = some (.cells cs e (0,0)))(hx:¬ X b)(hc:ChainD P S (AgrX X w) ops n (upd E (dstAt ops i) (.agg ((cs.toList.drop off).take z).toArray)) is E2)(h:ldnK P ops n E i=some (⟨b,off,none⟩,z):=by kernel_rfl)(hl:Nat.ble (off+z) cs.size=true:=by kernel_rfl):ChainD P S (AgrX X w) ops n E ((i,2) :: is) E2:=by
 have hl':off+z<=cs.size:=Nat.le_of_ble_eq_true hl
 have hz:((cs.toList.drop off).take z).length=z:=by
  simp
  omega
 obtain ⟨h1,h2,t,x,h3,h4,h5,h6⟩:=qFt h
 obtain ⟨g1,g2,g3⟩:=qDQ h1
 have hd':=qDX h2
 refine .xr i _ g1 hd' (by rw [hd']at g2; exact g2) g3 (fun w' hw=>?_) hc
 have hb':w'.heap[b]? = some (.cells cs e (0,0)):=(hw.2 b (qCs hb) hx).trans hb
 refine qHA h3 h5 (qDy h4 (by rw [hz]; exact h6) fun j u hj=>?_)
 rw [qCr]
 refine qCl hb' ?_
 rw [List.getElem?_take]at hj
 split at hj
 ·rw [List.getElem?_drop,Array.getElem?_toList]at hj
  exact hj
 ·cases hj
theorem St.ne_row{i j b m:Nat}{cs:Array Value}{e':TypeId}(h:St W0 N F0 W F L)(hi:L[i]? = some (Sl.box b cs e'))(hj:L[j]? = some (row d e (.slice (some ⟨g,0,none⟩) m c) xs))(hij:i≠j):b≠g:=by
 intro hb
 subst hb
 have hp:=h.own.apart
 rw [List.pairwise_iff_getElem]at hp
 obtain ⟨hi1,hi2⟩:=List.getElem?_eq_some_iff.1 hi
 obtain ⟨hj1,hj2⟩:=List.getElem?_eq_some_iff.1 hj
 rcases Nat.lt_or_gt_of_ne hij with hlt | hgt
 ·exact hp i j hi1 hj1 hlt b (by rw [hi2]; rfl) (by rw [hj2]; simp [row,Value.ownBlock])
 ·exact hp j i hj1 hi1 hgt b (by rw [hj2]; simp [row,Value.ownBlock]) (by rw [hi2]; rfl)
def slc3K(P:Program)(E:Nat->Value)(o:Oper):Option (TypeId × Nat × Value × Value × Value × Value) :=
 match o.op with
 | .slice t x (some lo) (some hi) (some mx)=>match P.underlying t with
  | some (.slice e)=>match sizeB P e with
   | some z=>some (e,z,ev E x,ev E lo,ev E hi,ev E mx)
   | none=>none
  | _=>none
 | _=>none
theorem qGd{len cap:Nat}{kl kh km:IntKind}{lo hi mx:Int}(h0:0<=lo)(h1:lo<=hi)(h2:hi<=mx)(h3:mx<=cap)(w:World):(Instr.sliceBounds true len cap (some (.int kl lo)) (some (.int kh hi)) (some (.int km mx))).run P w = .ok (lo.toNat,hi.toNat,mx.toNat) w:=by
 have a:(0:Int)<=hi:=by omega
 have b:(0:Int)<=mx:=by omega
 have c1:hi<=((mx.toNat:Nat):Int):=by omega
 have c2:lo<=((hi.toNat:Nat):Int):=by omega
 have m1:max mx 0=mx:=by omega
 have m2:max hi 0=hi:=by omega
 simp [Instr.sliceBounds,Instr.sliceBound,asIntOf,h0,a,b,h3,h2,h1,m1,m2]
theorem qJi{z:Nat}{kl kh km:IntKind}{lo hi mx:Int}(h0:0<=lo)(h1:lo<=hi)(h2:hi<=mx)(h3:mx<=(c:Int))(hk:slc3K P E o=some (e,z,.slice A n c,.int kl lo,.int kh hi,.int km mx):=by kernel_rfl):YA P E o (.slice (if mx.toNat=lo.toNat then A else A.map (·.add (lo.toNat * z))) (hi.toNat - lo.toNat) (mx.toNat - lo.toNat)):=by
 intro w
 unfold slc3K at hk
 split at hk
 ·rename_i t x lo' hi' mx' hop
  split at hk
  ·rename_i e' hu
   split at hk
   ·rename_i z' hz
    simp only [Option.some.injEq,Prod.mk.injEq]at hk
    obtain ⟨rfl,rfl,hx,hl,hh,hm⟩:=hk
    unfold execOp
    simp [hop,hx,hl,hh,hm,Instr.sliceAt,Instr.slice,run_underlying hu,qDE hz,qGd (P:=P) (len:=n) h0 h1 h2 h3]
   ·cases hk
  ·cases hk
 ·cases hk
theorem y_mid{z:Nat}{k k':IntKind}{lo hi:Int}(h0:0<=lo)(h1:lo<=hi)(h2:hi<=(c:Int))(hc:lo<(c:Int))(hk:slcK P E o=some (e,z,.slice (some ⟨g,0,none⟩) n c,some (.int k lo),some (.int k' hi)):=by kernel_rfl):YA P E o (.slice (some ⟨g,lo.toNat * z,none⟩) (hi.toNat - lo.toNat) (c - lo.toNat)):=by
 have h1:=qDf hk fun w=>qFC (len:=n) h0 h1 h2 w
 rw [if_neg (by omega)]at h1
 simpa [qCr] using h1
theorem qJj{z:Nat}{k:IntKind}{lo:Int}(h:0<=lo/\lo<=(n:Int))(hk:slcK P E o=some (e,z,.slice (some ⟨g,0,none⟩) n c,some (.int k lo),none):=by kernel_rfl):YA P E o (.slice (if c=lo.toNat then some ⟨g,0,none⟩ else some ⟨g,lo.toNat * z,none⟩) (n - lo.toNat) (c - lo.toNat)):=by
 have h1:=qDf hk fun w=>qDo (len:=n) (cap:=c) h.1 h.2 w
 have e1:(if c=lo.toNat then (some ⟨g,0,none⟩:Option Addr) else (some ⟨g,0,none⟩:Option Addr).map (·.add (lo.toNat * z)))=if c=lo.toNat then some ⟨g,0,none⟩ else some ⟨g,lo.toNat * z,none⟩:=by
  split
  ·rfl
  ·simp [qCr]
 rw [e1]at h1
 exact h1
theorem Eff.apf {cur:Array Value} {i m sc z bytes:Nat} {sa:Option Addr} (h:St W0 N F0 W F (Sl.box g cur e :: L)) (news:List Value) (hl:news.length=m * z) (hsrc:0<m->∃ a,sa=some a/\∀ j u,news[j]? = some u->W.cell? (a.add j)=some u) (h1:∀ u ∈ news,u.oneCell'=true) (hf:i * z+news.length<=cur.size) (hroom:i+m<=c) (hi:infK P e z bytes=true)
  (hk:apK P E o=some (e,.slice (some ⟨g,0,none⟩) i c,.slice sa m sc):=by kernel_rfl) :
  Eff P E o W (fun v w'=>v = .slice (some ⟨g,0,none⟩) (i+m) c/\St W0 N F0 w' F (Sl.box g (cur.toList.take (i * z)++news++cur.toList.drop (i * z+news.length)).toArray e :: L)/\W.heap.size<=w'.heap.size):=by
 obtain ⟨zv,hzi,hz1,_,_⟩:=qDY hi
 obtain ⟨i0,hi0,hzz⟩:=Option.map_eq_some_iff.1 hzi
 simp only [Prod.mk.injEq]at hzz
 obtain ⟨_,hsz,_⟩:=hzz
 subst hsz
 unfold apK at hk
 split at hk
 ·rename_i cl hop
  split at hk
  ·rename_i hcal
   split at hk
   ·rename_i x y t t' hx ht
    split at hk
    ·rename_i e' hu htt
     simp only [Option.some.injEq,Prod.mk.injEq]at hk
     obtain ⟨rfl,hv1,hv2⟩:=hk
     obtain ⟨cal,as,ts⟩:=cl
     simp only at hcal hx ht
     subst hcal
     obtain rfl:=Nat.eq_of_beq_eq_true htt
     obtain rfl:as = #[x,y]:=Array.ext' hx
     obtain rfl:ts = #[t,t]:=Array.ext' ht
     have hg:=h.own.head
     have hst:=run_storeCells_at P g (i * i0.size) e' news 0 cur W hg (by simpa using hf) h1
     simp only [Nat.add_zero]at hst
     have hrun:(Builtin.append_ #[t,t] o.type #[.slice (some ⟨g,0,none⟩) i c,.slice sa m sc]).run P W = .ok (.slice (some ⟨g,0,none⟩) (i+m) c) (W.setRow g (cur.toList.take (i * i0.size)++news++cur.toList.drop (i * i0.size+news.length)).toArray):=by
      rcases Nat.eq_zero_or_pos m with h0 | h0
      ·subst h0
       have hn:news=[]:=List.eq_nil_of_length_eq_zero (by simpa using hl)
       subst hn
       have hroom2:i<=c:=hroom
       simp only [List.append_nil,List.length_nil,Nat.add_zero,List.take_append_drop,Array.toArray_toList]at hst
       cases sa with
       | none=>simp [Builtin.append_,run_underlying hu,sizeOf,typeInfo,hi0,Builtin.lenOf,Builtin.firstCells,hroom2,Addr.add_lit,hst]
       | some a=>simp [Builtin.append_,run_underlying hu,sizeOf,typeInfo,hi0,Builtin.lenOf,Builtin.firstCells,hroom2,Addr.add_lit,loadCells,loadCellsFrom,hst]
      ·obtain ⟨a,rfl,hs⟩:=hsrc h0
       have hld:=run_firstCells_some (P:=P) W i0.size m a m sc news hl hs
       simp [Builtin.append_,run_underlying hu,sizeOf,typeInfo,hi0,Builtin.lenOf,hroom,hld,Addr.add_lit,hst]
     have hexec:(execOp (ev E) o).run P W = .ok (.value (.slice (some ⟨g,0,none⟩) (i+m) c)) (W.setRow g (cur.toList.take (i * i0.size)++news++cur.toList.drop (i * i0.size+news.length)).toArray):=by
      unfold execOp
      simp [hop,resolve,invoke,builtin,hv1,hv2,hrun]
     obtain ⟨h2,h3⟩:=qFZ (cs':=(cur.toList.take (i * i0.size)++news++cur.toList.drop (i * i0.size+news.length)).toArray) h
     exact Eff.run hexec ⟨rfl,h2,(qCp W g _).2.2.2⟩
    ·cases hk
   ·cases hk
  ·cases hk
 ·cases hk
variable {inner:List Value}
theorem RepsK.takeK{j:Nat}(hr:RepsK d F xs inner)(hj:j<=xs.length):RepsK d F (xs.take j) (inner.take (j * d.sz)):=by
 have hjl:j * d.sz<=xs.length * d.sz:=Nat.mul_le_mul_right _ hj
 refine ⟨by rw [List.length_take,hr.1,List.length_take,Nat.min_eq_left hjl,Nat.min_eq_left hj],fun q p hq=>?_⟩
 rw [List.getElem?_take]at hq
 split at hq
 ·rename_i hqj
  have h5:=hr.2 q p hq
  have hle2:q * d.sz+d.sz<=j * d.sz:=by rw [← Nat.succ_mul]; exact Nat.mul_le_mul_right _ hqj
  rw [List.drop_take,List.take_take,Nat.min_eq_left (by omega)]
  exact h5
 ·cases hq
theorem RepsK.dropK{j:Nat}(hr:RepsK d F xs inner):RepsK d F (xs.drop j) (inner.drop (j * d.sz)):=by
 refine ⟨by rw [List.length_drop,hr.1,List.length_drop,Nat.sub_mul],fun q p hq=>?_⟩
 rw [List.getElem?_drop]at hq
 have h5:=hr.2 _ p hq
 rw [List.drop_drop,← Nat.add_mul]
 exact h5
theorem qHF{i j:Nat}{cur:List Value}(hr:RepsK d F xs (cur.take (xs.length * d.sz)))(hij:i<=j)(hj:j<=xs.length)(hc:xs.length * d.sz<=cur.length):
  RepsK d F (xs.take i++xs.drop j++xs.drop (i+(xs.length - j))) ((cur.take (i * d.sz)++(cur.take (xs.length * d.sz)).drop (j * d.sz)++cur.drop (i * d.sz+((cur.take (xs.length * d.sz)).drop (j * d.sz)).length)).take (xs.length * d.sz)):=by
 have h1:i * d.sz<=j * d.sz:=Nat.mul_le_mul_right _ hij
 have h2:j * d.sz<=xs.length * d.sz:=Nat.mul_le_mul_right _ hj
 have hl1:(cur.take (i * d.sz)).length=i * d.sz:=by rw [List.length_take]; omega
 have hl2:((cur.take (xs.length * d.sz)).drop (j * d.sz)).length=xs.length * d.sz - j * d.sz:=by rw [List.length_drop,List.length_take]; omega
 have e3:i * d.sz+(xs.length * d.sz - j * d.sz)=(i+(xs.length - j)) * d.sz:=by rw [Nat.add_mul,Nat.sub_mul]
 have h3:(i+(xs.length - j)) * d.sz<=xs.length * d.sz:=Nat.mul_le_mul_right _ (by omega)
 have a:=RepsK.takeK hr (show i<=xs.length by omega)
 have b:=RepsK.dropK (j:=j) hr
 have cc:=RepsK.dropK (j:=i+(xs.length - j)) hr
 rw [List.take_take,Nat.min_eq_left (by omega)]at a
 have:=(a.append b).append cc
 have e:(cur.take (i * d.sz)++(cur.take (xs.length * d.sz)).drop (j * d.sz)++cur.drop (i * d.sz+((cur.take (xs.length * d.sz)).drop (j * d.sz)).length)).take (xs.length * d.sz)=cur.take (i * d.sz)++(cur.take (xs.length * d.sz)).drop (j * d.sz)++(cur.take (xs.length * d.sz)).drop ((i+(xs.length - j)) * d.sz):=by
  rw [hl2,e3,List.take_append,List.take_of_length_le (by rw [List.length_append,hl1,hl2]; omega),List.length_append,hl1,hl2,e3,List.drop_take,List.drop_take]
 rw [e]
 exact this
end
end Go.Proofs.YthgfhlbjkmjlpaaGreat.Sl
