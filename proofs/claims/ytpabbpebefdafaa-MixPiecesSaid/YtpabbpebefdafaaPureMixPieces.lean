import Derived.Test.YtpabbpebefdafaaMixn
import Derived.Test.YtpabbpebefdafaaPiecn
import Derived.Lib.EndianBits
import Derived.Test.YtpabbpebefdafaaMIoMixPieces
namespace Go.Proofs.Ytpabbpebefdafaa.MI
open Go Go.RowKit Go.Proofs.Ytpabbpebefdafaa.Sl
set_option linter.unusedVariables false
set_option linter.unusedSimpArgs false
theorem lA{α : Type}{a b:List α}: (a++b).length=a.length+b.length:=List.length_append
theorem w64n(i:Nat)(h:i<9223372036854775807):w64 ((i:Int)+1)=((i+1:Nat):Int):=by rw [qh (by omega) (by omega)]; omega
theorem qk{α : Type}(z : α)(l:List α)(i:Nat)(h:i<l.length):nth z l (i:Int)=l[i]:=by simp [nth,h]
def Ev{β : Type}(f:Nat→Option β)(v : β):Prop:=∃ K,∀ k,K≤k→f k=some v
theorem Ev.c{β : Type}(v : β):Ev (fun _=>some v) v:=⟨0,fun _ _=>rfl⟩
theorem Ev.cv{β : Type}{v w : β}(h:v=w):Ev (fun _=>some v) w:=⟨0,fun _ _=>congrArg some h⟩
theorem Ev.s{β : Type}{f g:Nat→Option β}{v : β}(h:∀ k,f (k+1)=g k)(hg:Ev g v):Ev f v:=by
 obtain ⟨K,hK⟩:=hg
 refine ⟨K+1,fun k hk=>?_⟩
 obtain ⟨k,rfl⟩:∃ m,k=m+1:=⟨k - 1,by omega⟩
 rw [h]
 exact hK k (by omega)
theorem Ev.b{α β : Type}{f:Nat→Option α}{g:Nat→α→Option β}{a : α}{v : β}(hf:Ev f a)(hg:Ev (fun k=>g k a) v):Ev (fun k=>(f k).bind (g k)) v:=by
 obtain ⟨K,hK⟩:=hf
 obtain ⟨L,hL⟩:=hg
 refine ⟨K+L,fun k hk=>?_⟩
 show (f k).bind (g k)=some v
 rw [hK k (by omega),Option.bind_some]
 exact hL k (by omega)
theorem Ev.i{β : Type}{c:Prop}[Decidable c]{f g:Nat→Option β}{v : β}(hf:c→Ev f v)(hg:¬ c→Ev g v):Ev (fun k=>if c then f k else g k) v:=by
 by_cases h:c
 ·simpa only [if_pos h] using hf h
 ·simpa only [if_neg h] using hg h
theorem Ev.t{β : Type}{c:Prop}[Decidable c]{f g:Nat→Option β}{v : β}(h:c)(hf:Ev f v):Ev (fun k=>if c then f k else g k) v:=Ev.i (fun _=>hf) (fun n=>absurd h n)
theorem Ev.n{β : Type}{c:Prop}[Decidable c]{f g:Nat→Option β}{v : β}(h:¬ c)(hg:Ev g v):Ev (fun k=>if c then f k else g k) v:=Ev.i (fun n=>absurd n h) (fun _=>hg)
theorem Ev.one{α : Type}{f:Nat→Option α}{v : α}(hf:Ev f v):∃ k,f k=some v:=by
 obtain ⟨K,hK⟩:=hf
 exact ⟨K,hK _ (by omega)⟩
namespace Mix
theorem u64n(n:Nat)(h:n<18446744073709551616):IntKind.u64.wrap (n:Int)=n:=by rw [IntKind.wrap_u64]; omega
theorem qAs(a b:Nat)(ha:a<18446744073709551616)(hb:b<18446744073709551616):IntKind.u64.wrap (((BitVec.ofInt 64 (a:Int) ^^^ BitVec.ofInt 64 (b:Int)).toNat:Int))=((a ^^^ b:Nat):Int):=by
 have h:(BitVec.ofInt 64 (a:Int) ^^^ BitVec.ofInt 64 (b:Int)).toNat=a ^^^ b:=by
  rw [BitVec.toNat_xor,BitVec.ofInt_natCast,BitVec.ofInt_natCast,BitVec.toNat_ofNat,BitVec.toNat_ofNat,Nat.mod_eq_of_lt (by omega),Nat.mod_eq_of_lt (by omega)]
 rw [h,u64n _ (Mixn.xor_lt ha hb)]
theorem sh_i(x:Nat)(hx:x<18446744073709551616):IntKind.u64.wrap (((BitVec.ofInt 64 (x:Int) ^^^ BitVec.ofInt 64 ((x:Int).fdiv 4294967296)).toNat:Int))=((Mixn.sh x:Nat):Int):=by
 have e:(x:Int).fdiv 4294967296=((x / 4294967296:Nat):Int):=by rw [Int.fdiv_eq_ediv_of_nonneg _ (by omega)]; omega
 rw [e,qAs _ _ hx (by omega)]
 rfl
theorem mf_i(n:Nat):IntKind.u64.wrap ((n:Int) * 15485907386658061715)=((Mixn.mf n:Nat):Int):=by
 rw [IntKind.wrap_u64]
 rfl
theorem mix(x:Nat)(hx:x<18446744073709551616):Ev (fun k=>qF.f k (x:Int)) ((Mixn.mix x:Nat):Int):=by
 unfold qF.f
 refine .s (qF.l6_s · _ _) (.t (by omega) ?_)
 rw [sh_i x hx,mf_i]
 refine .s (qF.l6_s · _ _) (.t (by decide) ?_)
 rw [sh_i _ (Mixn.mf_lt _),mf_i]
 refine .s (qF.l6_s · _ _) (.n (by decide) (.cv ?_))
 rw [sh_i _ (Mixn.mf_lt _)]
 rfl
theorem qBa(s n:Nat)(hs:s<18446744073709551616)(hn:n<18446744073709551616):IntKind.u64.wrap ((IntKind.u64.wrap (((BitVec.ofInt 64 (s:Int) ^^^ BitVec.ofInt 64 (n:Int)).toNat:Int)))+11400714819323198485)=((((s ^^^ n)+11400714819323198485) % 18446744073709551616:Nat):Int):=by
 rw [qAs _ _ hs hn,IntKind.wrap_u64]
 rfl
def ofN(l:List Nat):List Int:=l.map Int.ofNat
theorem qy(l:List Nat)(i:Nat)(h:i<(ofN l).length):(ofN l)[i]=((l[i]'(by simpa [ofN] using h):Nat):Int):=by simp [ofN]
theorem qBB(l:List Nat)(hl:∀ x ∈ l,x<18446744073709551616)(hn:l.length<4611686018427387904):∀(d i s:Nat),i+d=l.length→s<18446744073709551616→Ev (fun k=>qE.l10 k (ofN l) (s:Int) (i:Int)) (((l.drop i).foldl Mixn.step s:Nat):Int):=by
 have hlen:(ofN l).length=l.length:=List.length_map ..
 intro d
 induction d with
 | zero =>
  intro i s hi hs
  refine .s (qE.l10_s · _ _ _) (.n (by omega) (.cv ?_))
  rw [List.drop_eq_nil_of_le (by omega)]
  rfl
 | succ d ih =>
  intro i s hi hs
  have h1:i<l.length:=by omega
  refine .s (qE.l10_s · _ _ _) (.t (by omega) (.t (by omega) ?_))
  rw [qk _ _ _ (by omega),qy,qBa s _ hs (hl _ (List.getElem_mem h1)),w64n i (by omega),List.drop_eq_getElem_cons h1]
  exact .b (mix _ (Nat.mod_lt _ (by decide))) (ih (i+1) _ (by omega) (Mixn.step_lt _ _))
theorem fold(s:Nat)(hs:s<18446744073709551616)(l:List Nat)(hl:∀ x ∈ l,x<18446744073709551616)(hn:l.length<4611686018427387904):Ev (fun k=>qE.f k (s:Int) (ofN l)) ((Mixn.fold s l:Nat):Int):=by
 unfold qE.f
 exact .b (mix s hs) (qBB l hl hn l.length 0 _ (by omega) (Mixn.mix_lt _))
def bN(s:ByteArray)(i:Nat):Nat:=(s.data.toList.getD i 0).toNat
theorem bN_at(s:ByteArray)(i:Nat):byteAt s (i:Int)=(bN s i:Int):=by
 unfold byteAt bN
 rw [Int.toNat_natCast]
theorem bN_lt(s:ByteArray)(i:Nat):bN s i<256:=UInt8.toNat_lt _
theorem dlen(s:ByteArray):s.data.toList.length=s.size:=rfl
theorem qW(s:ByteArray)(i:Nat)(h:s.size≤i):bN s i=0:=by
 unfold bN
 rw [List.getD_eq_getElem?_getD,List.getElem?_eq_none (by rw [dlen]; exact h)]
 rfl
theorem qBb(a b:Nat)(ha:a<18446744073709551616)(hb:b<18446744073709551616):IntKind.u64.wrap (((BitVec.ofInt 64 (a:Int) ||| BitVec.ofInt 64 (b:Int)).toNat:Int))=((a ||| b:Nat):Int):=by
 have h:(BitVec.ofInt 64 (a:Int) ||| BitVec.ofInt 64 (b:Int)).toNat=a ||| b:=by
  rw [BitVec.toNat_or,BitVec.ofInt_natCast,BitVec.ofInt_natCast,BitVec.toNat_ofNat,BitVec.toNat_ofNat,Nat.mod_eq_of_lt (by omega),Nat.mod_eq_of_lt (by omega)]
 have h2:=Nat.or_lt_two_pow (n:=64) (x:=a) (y:=b) (by omega) (by omega)
 rw [h,u64n _ (by omega)]
theorem qBH(c r:Nat)(hc:c<256)(hr:r<8):c * 2 ^ (8 * r)<18446744073709551616:=by
 have h1:c * 2 ^ (8 * r)≤255 * 2 ^ (8 * r):=Nat.mul_le_mul_right _ (by omega)
 have h2:2 ^ (8 * r)≤2 ^ 56:=Nat.pow_le_pow_right (by decide) (by omega)
 have h3:(255:Nat) * 2 ^ 56<18446744073709551616:=by decide
 exact Nat.lt_of_le_of_lt (Nat.le_trans h1 (Nat.mul_le_mul_left _ h2)) h3
theorem w8(r:Nat)(hr:r<8):w64 (8 * (r:Int))=((8 * r:Nat):Int):=by rw [qh (by omega) (by omega)]; omega
theorem qBC(c r:Nat)(hc:c<256)(hr:r<8):IntKind.u64.wrap ((IntKind.u64.wrap (c:Int)) * 2 ^ (min (w64 (8 * (r:Int))).toNat 64))=((c * 2 ^ (8 * r):Nat):Int):=by
 have hm:min (8 * r) 64=8 * r:=by omega
 rw [u64n c (by omega),w8 r hr,Int.toNat_natCast,hm]
 have e:(c:Int) * 2 ^ (8 * r)=((c * 2 ^ (8 * r):Nat):Int):=by simp
 rw [e,u64n _ (qBH c r hc hr)]
theorem qU(a b:List Nat):ofN (a++b)=ofN a++ofN b:=List.map_append
theorem qI(a:List Nat):(ofN a).length=a.length:=List.length_map _
theorem tmod8(i:Nat):Int.tmod (i:Int) 8=((i % 8:Nat):Int):=by rw [Int.tmod_eq_emod_of_nonneg (Int.natCast_nonneg _),Int.natCast_emod]; rfl
theorem qBD(A:List Nat)(v:Nat)(hA:A.length≤1000000):w64 (((ofN (A++[v])).length:Int) - 1)=(A.length:Int):=by
 rw [qI,lA,List.length_singleton,qh (by omega) (by omega)]
 omega
theorem qBE(A:List Nat)(v:Nat):nth 0 (ofN (A++[v])) (A.length:Int)=(v:Int):=by
 rw [qk _ _ _ (by rw [qI,lA,List.length_singleton]; omega),qy]
 simp
theorem qBF(A:List Nat)(v u:Nat):(ofN (A++[v])).set A.length (u:Int)=ofN (A++[u]):=by
 rw [qU,qU,List.set_append_right _ _ (by rw [qI]; exact Nat.le_refl _),qI,Nat.sub_self]
 rfl
theorem qAO (s:ByteArray) (x i:Nat) (A:List Nat) (v r:Nat) (hA:A.length≤1000000) (hi:i<s.size) (hs:s.size≤1000000) (hr:r=i % 8) (hv:v<256 ^ r) (w:Int)
  (hc:Ev (fun k=>qD.l14 k (x:Int) s (ofN (A++[v+bN s i * 256 ^ r])) ((i+1:Nat):Int)) w):Ev (fun k=>qD.j38 k (x:Int) s (i:Int) (ofN (A++[v]))) w:=by
 have hr8:r<8:=by omega
 have hp:256 ^ r≤72057594037927936:=Nat.le_trans (Nat.pow_le_pow_right (by decide) (show r≤7 by omega)) (by decide)
 refine .s (qD.j38_s · _ _ _ _) ?_
 rw [qBD A v hA,tmod8,← hr]
 refine .t ⟨by omega,by rw [qI,lA,List.length_singleton]; omega⟩ (.t (by omega) (.t (by rw [w8 r hr8]; omega) ?_))
 rw [qBE,bN_at,qBC _ _ (bN_lt s i) hr8,qBb v _ (by omega) (qBH _ _ (bN_lt s i) hr8),Mixn.or_byte v _ r hv,Int.toNat_natCast,qBF,w64n i (by omega)]
 exact hc
theorem qBG(s:ByteArray)(x:Nat)(hx:x<18446744073709551616)(hn:s.size≤1000000):∀(d i:Nat),i+d=s.size →
  Ev (fun k=>qD.l14 k (x:Int) s (ofN (Mixn.lst (bN s) s.size i)) (i:Int)) ((Mixn.fold x (Mixn.lst (bN s) s.size s.size):Nat):Int):=by
 have hw:∀ i,∀ y ∈ Mixn.lst (bN s) s.size i,y<18446744073709551616:=fun i=>Mixn.lst_lt _ (bN_lt s) _ i (by omega)
 intro d
 induction d with
 | zero =>
  intro i hi
  obtain rfl:i=s.size:=by omega
  have hl:=Mixn.lst_length (bN s) s.size s.size
  exact .s (qD.l14_s · _ _ _ _) (.n (by omega) (.b (fold x hx _ (hw _) (by omega)) (.c _)))
 | succ d ih =>
  intro i hi
  have hl:=Mixn.lst_length (bN s) s.size i
  have ih:=ih (i+1) (by omega)
  refine .s (qD.l14_s · _ _ _ _) (.t (by omega) ?_)
  rw [tmod8]
  by_cases h8:i % 8=0
  ·refine .t (by rw [h8]; rfl) (.t (by rw [qI]; omega) ?_)
   rw [Mixn.lst_first _ _ _ h8]at ih
   rw [show ofN (Mixn.lst (bN s) s.size i)++[(0:Int)]=ofN (Mixn.lst (bN s) s.size i++[0]) from (qU _ [0]).symm]
   refine qAO s x i _ 0 0 (by omega) (by omega) hn h8.symm (by decide) _ ?_
   rw [show 0+bN s i * 256 ^ 0=bN s i by simp]
   exact ih
  ·obtain ⟨A,e1,e2⟩:=Mixn.lst_more (bN s) s.size i h8
   have hA:(A++[Mixn.pc (bN s) (i / 8) (i % 8)]).length≤i / 8+2:=e1 ▸ hl
   rw [lA]at hA
   rw [e2]at ih
   rw [e1]
   exact .n (by omega) (qAO s x i A _ (i % 8) (by omega) (by omega) hn rfl (Mixn.pc_lt (bN_lt s) _ _) _ ih)
theorem text(s:ByteArray)(x:Nat)(hx:x<18446744073709551616)(hn:s.size≤1000000):Ev (fun k=>qD.f k (x:Int) s) ((Mixn.fold x (Mixn.lst (bN s) s.size s.size):Nat):Int):=by
 unfold qD.f
 have h:=qBG s x hx hn s.size 0 (by omega)
 rw [Mixn.lst_zero]at h
 rw [u64n _ (by omega)]
 exact h
theorem inner (s:ByteArray) (hn:s.size≤1000000) (X:List Int) (i v t u:Nat) (hi:i<s.size) (ht:t<8) (hv:v<72057594037927936) (hu:u=v * 256+bN s (i+t)) (w:List Int)
  (hc:Ev (fun k=>qA.l27 k s X (i:Int) (u:Int) ((t:Int) - 1)) w):Ev (fun k=>qA.l27 k s X (i:Int) (v:Int) (t:Int)) w:=by
 have hb:=bN_lt s (i+t)
 have h1:w64 ((i:Int)+(t:Int))=((i+t:Nat):Int):=by rw [qh (by omega) (by omega)]; omega
 have h2:w64 ((t:Int) - 1)=(t:Int) - 1:=qh (by omega) (by omega)
 have h3:IntKind.u64.wrap ((v:Int) * 256)=((v * 256:Nat):Int):=by rw [IntKind.wrap_u64]; omega
 refine .s (qA.l27_s · _ _ _ _ _) (.t (by omega) ?_)
 rw [h1,h2,h3,bN_at]
 by_cases hlt:i+t<s.size
 ·have h4:IntKind.u64.wrap (((v * 256:Nat):Int)+IntKind.u64.wrap (bN s (i+t):Int))=(u:Int):=by
   rw [u64n _ (by omega),IntKind.wrap_u64,hu]
   omega
  refine .t (by omega) (.t (by omega) ?_)
  rw [h4]
  exact hc
 ·have h4:=qW s (i+t) (by omega)
  refine .n (by omega) ?_
  rw [show v * 256=u by omega]
  exact hc
theorem step8 (s:ByteArray) (hn:s.size≤1000000) (X:List Int) (j:Nat) (hi:8 * j<s.size) (hX:X.length<1000000000) (w:List Int)
  (hc:Ev (fun k=>qA.l14 k s (X++[((Mixn.pc (bN s) j 8:Nat):Int)]) ((8 * (j+1):Nat):Int)) w):Ev (fun k=>qA.l14 k s X ((8 * j:Nat):Int)) w:=by
 have b0:=bN_lt s (8 * j+0); have b1:=bN_lt s (8 * j+1); have b2:=bN_lt s (8 * j+2); have b3:=bN_lt s (8 * j+3); have b4:=bN_lt s (8 * j+4); have b5:=bN_lt s (8 * j+5); have b6:=bN_lt s (8 * j+6); have b7:=bN_lt s (8 * j+7)
 have hh:=Mixn.horner (bN s) j
 obtain ⟨v7,h7⟩:∃ v,v=0 * 256+bN s (8 * j+7):=⟨_,rfl⟩
 obtain ⟨v6,h6⟩:∃ v,v=v7 * 256+bN s (8 * j+6):=⟨_,rfl⟩
 obtain ⟨v5,h5⟩:∃ v,v=v6 * 256+bN s (8 * j+5):=⟨_,rfl⟩
 obtain ⟨v4,h4⟩:∃ v,v=v5 * 256+bN s (8 * j+4):=⟨_,rfl⟩
 obtain ⟨v3,h3⟩:∃ v,v=v4 * 256+bN s (8 * j+3):=⟨_,rfl⟩
 obtain ⟨v2,h2⟩:∃ v,v=v3 * 256+bN s (8 * j+2):=⟨_,rfl⟩
 obtain ⟨v1,h1⟩:∃ v,v=v2 * 256+bN s (8 * j+1):=⟨_,rfl⟩
 obtain ⟨v0,h0⟩:∃ v,v=v1 * 256+bN s (8 * j+0):=⟨_,rfl⟩
 have hv0:Mixn.pc (bN s) j 8=v0:=by
  rw [← hh,h0,h1,h2,h3,h4,h5,h6,h7,Nat.zero_mul,Nat.zero_add]
 rw [hv0]at hc
 clear hh hv0
 have hend:Ev (fun k=>qA.l27 k s X ((8 * j:Nat):Int) (v0:Int) (-1)) w:=by
  refine .s (qA.l27_s · _ _ _ _ _) (.n (by decide) (.t (by omega) ?_))
  rw [show w64 (((8 * j:Nat):Int)+8)=((8 * (j+1):Nat):Int) by rw [qh (by omega) (by omega)]; omega]
  exact hc
 refine .s (qA.l14_s · _ _ _) (.t (by omega) ?_)
 refine inner s hn X (8 * j) 0 7 v7 hi (by omega) (by omega) h7 w ?_
 refine inner s hn X (8 * j) v7 6 v6 hi (by omega) (by omega) h6 w ?_
 refine inner s hn X (8 * j) v6 5 v5 hi (by omega) (by omega) h5 w ?_
 refine inner s hn X (8 * j) v5 4 v4 hi (by omega) (by omega) h4 w ?_
 refine inner s hn X (8 * j) v4 3 v3 hi (by omega) (by omega) h3 w ?_
 refine inner s hn X (8 * j) v3 2 v2 hi (by omega) (by omega) h2 w ?_
 refine inner s hn X (8 * j) v2 1 v1 hi (by omega) (by omega) h1 w ?_
 exact inner s hn X (8 * j) v1 0 v0 hi (by omega) (by omega) h0 w hend
theorem qAT(s:ByteArray)(hn:s.size≤1000000):∀(d j:Nat),j+d=(s.size+7) / 8 →
  Ev (fun k=>qA.l14 k s (ofN (s.size :: (List.range j).map fun j=>Mixn.pc (bN s) j 8)) ((8 * j:Nat):Int)) (ofN (s.size :: (List.range ((s.size+7) / 8)).map fun j=>Mixn.pc (bN s) j 8)):=by
 intro d
 induction d with
 | zero =>
  intro j hj
  obtain rfl:j=(s.size+7) / 8:=by omega
  exact .s (qA.l14_s · _ _ _) (.n (by omega) (.c _))
 | succ d ih =>
  intro j hj
  have h:=ih (j+1) (by omega)
  rw [List.range_succ,List.map_append,← List.cons_append,qU]at h
  exact step8 s hn _ j (by omega) (by rw [qI,List.length_cons,List.length_map,List.length_range]; omega) _ h
theorem pieces(s:ByteArray)(hn:s.size≤1000000):Ev (fun k=>qA.f k s) (ofN (Mixn.lst (bN s) s.size s.size)):=by
 unfold qA.f
 rw [u64n _ (by omega),Mixn.lst_all _ _ (qW s)]
 exact qAT s hn _ 0 (Nat.zero_add _)
theorem qAP(x:Nat)(l:List Nat)(hl:∀ y ∈ l,y<18446744073709551616)(k:Nat)(hk:k<l.length)(v:Nat)(hv:v<18446744073709551616):Mixn.fold x l=Mixn.fold x (l.set k v)↔v=l[k]:=by
 have e:l.set k v=l.take k++v :: l.drop (k+1):=by rw [List.set_eq_take_append_cons_drop,if_pos hk]
 have e0:l=l.take k++l[k] :: l.drop (k+1):=by rw [← List.drop_eq_getElem_cons hk,List.take_append_drop]
 constructor
 ·intro h
  rw [e]at h
  have h2:Mixn.fold x (l.take k++l[k] :: l.drop (k+1))=Mixn.fold x (l.take k++v :: l.drop (k+1)):=by
   rw [← e0]
   exact h
  exact (Mixn.fold_set_inj x _ _ _ _ (hl _ (List.getElem_mem hk)) hv (fun z hz=>hl z (List.mem_of_mem_drop hz)) h2).symm
 ·intro h
  rw [e,h,← e0]
theorem qBc(y:ByteArray)(i:Nat)(hi:i<y.size)(u:Nat)(hu:u<256)(j:Nat):bN (strOfNums ((sbytes y).set i (u:Int))) j=if j=i then u else bN y j:=by
 unfold bN sbytes
 rw [strOfNums_data,List.getD_eq_getElem?_getD,List.getD_eq_getElem?_getD,List.getElem?_map,List.getElem?_set]
 by_cases h:i=j
 ·subst h
  rw [if_pos rfl,if_pos (by rw [List.length_map,dlen]; exact hi),if_pos rfl]
  simp only [Option.map_some,Option.getD_some,Int.toNat_natCast]
  rw [UInt8.toNat_ofNat']
  omega
 ·rw [if_neg h,if_neg (fun e=>h e.symm),List.getElem?_map]
  cases y.data.toList[j]? with
  | none=>rfl
  | some c =>
   simp only [Option.map_some,Option.getD_some,Int.toNat_natCast]
   rw [UInt8.toNat_ofNat']
   have:=UInt8.toNat_lt c
   omega
theorem qAQ(y:ByteArray)(i:Nat)(u:Int):(strOfNums ((sbytes y).set i u)).size=y.size:=by
 rw [strOfNums_size,List.length_set,qQ]
theorem qBd(b b':Nat→Nat)(j i:Nat)(hi:i / 8=j)(h:∀ q,q≠i→b' q=b q):Mixn.pc b' j 8=Mixn.pc b j 8↔b' i=b i:=by
 have e0:8 * j+0≠i→b' (8 * j+0)=b (8 * j+0):=h _
 have e1:8 * j+1≠i→b' (8 * j+1)=b (8 * j+1):=h _
 have e2:8 * j+2≠i→b' (8 * j+2)=b (8 * j+2):=h _
 have e3:8 * j+3≠i→b' (8 * j+3)=b (8 * j+3):=h _
 have e4:8 * j+4≠i→b' (8 * j+4)=b (8 * j+4):=h _
 have e5:8 * j+5≠i→b' (8 * j+5)=b (8 * j+5):=h _
 have e6:8 * j+6≠i→b' (8 * j+6)=b (8 * j+6):=h _
 have e7:8 * j+7≠i→b' (8 * j+7)=b (8 * j+7):=h _
 rw [← Mixn.horner,← Mixn.horner]
 have ht:i=8 * j+0∨i=8 * j+1∨i=8 * j+2∨i=8 * j+3∨i=8 * j+4∨i=8 * j+5∨i=8 * j+6∨i=8 * j+7:=by omega
 clear h
 rcases ht with rfl | rfl | rfl | rfl | rfl | rfl | rfl | rfl <;> omega
theorem qBR(b b':Nat→Nat)(j i:Nat)(hi:i / 8≠j)(h:∀ q,q≠i→b' q=b q):Mixn.pc b' j 8=Mixn.pc b j 8:=by
 rw [← Mixn.horner,← Mixn.horner,h (8 * j+0) (by omega),h (8 * j+1) (by omega),h (8 * j+2) (by omega),h (8 * j+3) (by omega),h (8 * j+4) (by omega),h (8 * j+5) (by omega),h (8 * j+6) (by omega),h (8 * j+7) (by omega)]
theorem qBS(y:ByteArray)(i:Nat)(hi:i<y.size)(b':Nat→Nat)(h:∀ q,q≠i→b' q=bN y q)(hz:∀ q,y.size≤q→b' q=0):
  Mixn.lst b' y.size y.size=(Mixn.lst (bN y) y.size y.size).set (i / 8+1) (Mixn.pc b' (i / 8) 8):=by
 rw [Mixn.lst_all _ _ hz,Mixn.lst_all _ _ (qW y),List.set_cons_succ]
 congr 1
 refine List.ext_getElem (by simp) (fun q h1 h2=>?_)
 rw [List.getElem_set]
 simp only [List.getElem_map,List.getElem_range]
 by_cases hq:i / 8=q
 ·rw [if_pos hq,hq]
 ·rw [if_neg hq]
  exact qBR _ _ q i hq h
theorem qBT(y:ByteArray)(i:Nat)(hi:i<y.size):∃ h:i / 8+1<(Mixn.lst (bN y) y.size y.size).length,(Mixn.lst (bN y) y.size y.size)[i / 8+1]=Mixn.pc (bN y) (i / 8) 8:=by
 have hl:i / 8+1<(Mixn.lst (bN y) y.size y.size).length:=by
  rw [Mixn.lst_all _ _ (qW y),List.length_cons,List.length_map,List.length_range]
  omega
 refine ⟨hl,?_⟩
 have:(Mixn.lst (bN y) y.size y.size)[i / 8+1]? = some (Mixn.pc (bN y) (i / 8) 8):=by
  rw [Mixn.lst_all _ _ (qW y),List.getElem?_cons_succ,List.getElem?_map,List.getElem?_range (by omega)]
  rfl
 rw [List.getElem?_eq_getElem hl]at this
 exact Option.some.inj this
theorem qAt(x:Nat)(hx:x<18446744073709551616)(y:ByteArray)(hn:y.size≤1000000)(i:Nat)(hi:i<y.size)(u:Nat)(hu:u<256):
  Mixn.fold x (Mixn.lst (bN (strOfNums ((sbytes y).set i (u:Int)))) y.size y.size)=Mixn.fold x (Mixn.lst (bN y) y.size y.size)↔u=bN y i:=by
 have hb:=qBc y i hi u hu
 generalize hg:bN (strOfNums ((sbytes y).set i (u:Int)))=b' at *
 have h:∀ q,q≠i→b' q=bN y q:=fun q hq=>by rw [hb,if_neg hq]
 have hz:∀ q,y.size≤q→b' q=0:=fun q hq=>by rw [hb,if_neg (by omega),qW y q hq]
 have h8:∀ q,b' q<256:=fun q=>by
  rw [hb]
  have:=bN_lt y q
  split <;> omega
 obtain ⟨hl,he⟩:=qBT y i hi
 rw [qBS y i hi b' h hz]
 have hv:Mixn.pc b' (i / 8) 8<18446744073709551616:=Nat.lt_of_lt_of_le (Mixn.pc_lt h8 _ _) (by decide)
 have h1:=qAP x _ (Mixn.lst_lt _ (bN_lt y) y.size y.size (by omega)) (i / 8+1) hl _ hv
 rw [he,qBd (bN y) b' (i / 8) i rfl h,hb,if_pos rfl]at h1
 rw [← h1]
 exact ⟨Eq.symm,Eq.symm⟩
theorem qBU(l:List Nat)(k v:Nat):(ofN l).set k (v:Int)=ofN (l.set k v):=by
 unfold ofN
 rw [List.map_set]
 rfl
theorem rem_i(z n:Nat)(hn:0<n)(hz:z<18446744073709551616)(hn2:n≤1000000):w64 ((z:Int).tmod (IntKind.u64.wrap (n:Int)))=((z % n:Nat):Int):=by
 have:=Nat.mod_lt z hn
 rw [u64n n (by omega),Int.tmod_eq_emod_of_nonneg (Int.natCast_nonneg _),← Int.natCast_emod,qh (by omega) (by omega)]
theorem beqs{a b c d:Int}(h:a=b↔c=d):(a == b)=(c == d):=by
 rw [Bool.eq_iff_iff,beq_iff_eq,beq_iff_eq]
 exact h
theorem awake0(k:Nat):qB.f (k+100)=some true:=by kernel_rfl
theorem awake:Ev (fun k=>qB.f k) true:=by
 refine ⟨100,fun k hk=>?_⟩
 obtain ⟨k,rfl⟩:∃ m,k=m+100:=⟨k - 100,by omega⟩
 exact awake0 k
theorem law(x:Nat)(hx:x<18446744073709551616)(y:ByteArray)(z0 z1:Nat)(h0:z0<18446744073709551616)(h1:z1<18446744073709551616):Ev (fun k=>qC.f k (x:Int) y ⟨(z0:Int),(z1:Int)⟩) true:=by
 unfold qC.f
 refine .i (fun _=>.b awake (.c _)) (fun c=>?_)
 refine .b (pieces y (by omega)) ?_
 have hL:=Mixn.lst_lt _ (bN_lt y) y.size y.size (by omega)
 have hlen:=Mixn.lst_length (bN y) y.size y.size
 have hpos:0<(Mixn.lst (bN y) y.size y.size).length:=by
  rw [Mixn.lst_all _ _ (qW y),List.length_cons]
  omega
 obtain ⟨L,hLe⟩:∃ L,L=Mixn.lst (bN y) y.size y.size:=⟨_,rfl⟩
 rw [← hLe]at hL hlen hpos ⊢
 have hq:=Nat.mod_lt z0 hpos
 have hw:w64 ((z0:Int).tmod (IntKind.u64.wrap ((ofN L).length:Int)))=((z0 % L.length:Nat):Int):=by rw [qI]; exact rem_i z0 _ hpos h0 (by omega)
 obtain ⟨q,hqe⟩:∃ q,q=z0 % L.length:=⟨_,rfl⟩
 rw [← hqe]at hq hw
 refine .t (by rw [qI]; simp only [List.length_nil]; omega) (.t (by rw [qI,u64n _ (by omega)]; omega) ?_)
 show Ev (fun k=>if 0≤w64 ((z0:Int).tmod (IntKind.u64.wrap ((ofN L).length:Int)))∧_ then _ else _) _
 simp only [hw,List.nil_append,Int.toNat_natCast,qBU]
 refine .t (by rw [qI]; omega) (.t (by rw [qI]; omega) (.b (fold x hx L hL (by omega)) (.b (fold x hx (L.set q z1) (fun v hv=>?_) (by rw [List.length_set]; omega)) (.t ?_ ?_))))
 ·rcases List.mem_or_eq_of_mem_set hv with hv | rfl
  ·exact hL v hv
  ·exact h1
 ·refine beqs ?_
  rw [qk _ _ _ (by rw [qI,List.length_set]; omega),qk _ _ _ (by rw [qI]; omega),qy,qy,List.getElem_set_self]
  have:=qAP x L hL q (by omega) z1 h1
  omega
 ·refine .i (fun _=>.b awake (.c _)) (fun c0=>?_)
  have hn0:0<y.size:=by omega
  have hi:=Nat.mod_lt z0 hn0
  have hw2:=rem_i z0 y.size hn0 h0 (by omega)
  obtain ⟨i,hie⟩:∃ i,i=z0 % y.size:=⟨_,rfl⟩
  rw [← hie]at hi hw2
  have hu:IntKind.u8.wrap (z1:Int)=((z1 % 256:Nat):Int):=by
   simp only [IntKind.wrap,IntKind.bits,IntKind.signed]
   simp
  obtain ⟨u,hue⟩:∃ u,u=z1 % 256:=⟨_,rfl⟩
  have hu8:u<256:=by omega
  rw [← hue]at hu
  refine .t (by rw [u64n _ (by omega)]; omega) ?_
  simp only [hw2,Int.toNat_natCast,hu]
  have ht:=text (strOfNums ((sbytes y).set i (u:Int))) x hx (by rw [qAQ]; omega)
  rw [qAQ]at ht
  refine .t (by rw [qQ]; omega) (.t (by omega) (.b ht (.b (text y x hx (by omega)) (.t ?_ (.b awake (.c _))))))
  refine beqs ?_
  rw [qk _ _ _ (by rw [List.length_set,qQ]; omega),List.getElem_set_self,bN_at]
  have:=qAt x hx y (by omega) i hi u hu8
  omega
end Mix
theorem u64wf{x:Int}(h:(Lit.int .u64 x).wf=true):∃ n:Nat,x=n∧n<18446744073709551616:=by
 simp only [Lit.wf,IntKind.min,IntKind.max,IntKind.signed,IntKind.bits,Bool.and_eq_true,decide_eq_true_eq]at h
 refine ⟨x.toNat,?_,?_⟩
 ·have:=h.1
  simp at this
  omega
 ·have h1:=h.1
  have h2:=h.2
  simp at h1 h2
  omega
theorem pureMixPieces:PureMixPieces:=by
 intro x y z hx _ hz
 obtain ⟨x,rfl,hx'⟩:=u64wf hx
 obtain ⟨z0,z1⟩:=z
 obtain ⟨z0,e0,h0⟩:=u64wf hz.1
 obtain ⟨z1,e1,h1⟩:=u64wf hz.2
 simp only at e0 e1
 subst e0 e1
 exact Ev.one (Mix.law x hx' y z0 z1 h0 h1)
end Go.Proofs.Ytpabbpebefdafaa.MI
