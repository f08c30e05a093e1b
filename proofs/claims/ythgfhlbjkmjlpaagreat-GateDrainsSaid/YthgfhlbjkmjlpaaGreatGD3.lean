import Derived.Test.YthgfhlbjkmjlpaaGreatGD2
namespace Go.Proofs.YthgfhlbjkmjlpaaGreat.GD
open Go Go.RowKit Go.Proofs.YthgfhlbjkmjlpaaGreat.Sl
set_option linter.unusedVariables false
set_option linter.unusedSimpArgs false
set_option maxHeartbeats 4000000
set_option maxRecDepth 100000
def qBs.f(k:Nat)(x:qD)(y:Int):Option Bool:=(qy.f k x.f6 y).bind fun t8=>(some t8)
def qBs.Post(W F:World)(r:Bool)(v:Value)(w':World):Prop:=∃(F':World),v = .bool r/\Sm W F w' F' []
theorem qBs.calls(k:Nat)(x:qD)(y:Int)(A0_4:OA)(c0_4:Nat)(A0_5:OA)(c0_5:Nat)(A0_6:OA)(c0_6:Nat)(r:Bool)(W F:World)(hown:Sub F W)(g0_4:Rd qA.k F A0_4 c0_4 x.f4)(g0_5:Rd qE.k F A0_5 c0_5 x.f5)(g0_6:Rd qC.k F A0_6 c0_6 x.f6)(H:qBs.f k x y=some r):
    Cr 131 #[.agg (mA x A0_4 c0_4 A0_5 c0_5 A0_6 c0_6),iv y] W (qBs.Post W F r):=by
 have S:=sT hown
 unfold qBs.f at H
 refine ent 9 rfl rfl rfl fun a E=>?_
 refine sq fun K1 hK1=>pl0 (plx (t:=26) E S (mL x A0_4 c0_4 A0_5 c0_5 A0_6 c0_6) fun b2 u3 hb2 S a E=>plx (t:=3) E S [iv y] fun b4 u5 hb4 S a E=>plc E (.r 2 1 .nil) fun a E=>pld (hK1 _ _ (sq fun K6 hK6=>pl0 (plc E (.r 0 1<|.b 1 6 (S.ba 1)<|.r 2 1<|.nil) fun a E=>?_))))
 obtain ⟨t8,h9,H⟩:=bd H
 refine plq E S en156 (qy.calls k x.f6 y _ _ _ _ _ _ (Sub.refl _) (g0_6.mono S.own.sub) (S.ba 0) h9) fun u7 S a E=>plc E (.r 4 1 .nil) fun a E=>pld (hK6 _ _ (wp_ret ?_))
 have S:=S.pm [] 2
 obtain rfl:=si H
 exact rt1 E ⟨_,rfl,_,rfl,S⟩
set_option maxRecDepth 100000 in
theorem qCZ.same(b:Bool){c:Bool}(p:Addr)(W:World)(h:W.cell? p=some (.bool c))(hc:c=b):Calls Tryz.prog 128 #[.pointer (some p),.bool b] W fun e w'=>∃ v,e = .returned v/\(v=iv 7/\w'=W):=by
 subst hc
 refine enter (n:=13) rfl rfl rfl (Nat.le_of_ble_eq_true rfl) fun a hE=>?_
 refine sq fun K0 hK0=>?_
 refine pl0 ?_
 refine plc hE (.r 0 1 .nil) fun a hE=>?_
 refine pld ?_
 refine hK0 _ _ ?_
 refine sq fun K1 hK1=>?_
 refine sq fun K2 hK2=>?_
 refine pl0 ?_
 refine plc hE (.r 0 2<|.c 2 h<|.r 3 2 .nil) fun a hE=>?_
 refine pld ?_
 refine hK2 _ _ ?_
 replace hE:=hE.et 9 (rfl:c=c)
 refine ct hE ?_
 refine sq fun K3 hK3=>?_
 refine pl0 ?_
 refine plc hE (.r 0 1 .nil) fun a hE=>?_
 refine pld ?_
 refine hK3 _ _ ?_
 refine wp_ret (qCc ?_)
 exact rt1 hE ⟨_,rfl,rfl,rfl⟩
set_option maxRecDepth 100000 in
theorem qCZ.turn {W0:World} {N:Nat->Prop} {F0 W F:World} {L:List Asrt} {xs:List qA} {g n c:Nat} {i:Int} {p:Addr} (hS:St W0 N F0 W F (row qA.k 68 (.slice (pb g) n c) xs :: L)) (yv:qA) (off:Nat) (h01:0<=i/\i<(xs.length:Int)) (cs:List Value) (hcs:∀(j:Nat)(u:Value),cs[j]? = some u->W.cell? (((⟨g,0,none⟩:Addr).add (i.toNat * (qA.k).sz)).add j)=some u) (cur to:Bool) (cs':List Value) (hcur:cs[off]? = some (.bool cur)) (hK:(qA.k).K F yv cs') (hne:¬ cur=to) (hp:p=((⟨g,0,none⟩:Addr).add (i.toNat * (qA.k).sz)).add off:=by rfl)
  (hk:cs'=cs.take off++[.bool to]++cs.drop (off+1):=by rfl) (hl:Nat.beq cs.length (qA.k).sz=true:=by kernel_rfl) (ho:Nat.ble (off+1) (qA.k).sz=true:=by kernel_rfl):Calls Tryz.prog 128 #[.pointer (some p),.bool to] W fun e w'=>∃ v,e = .returned v/\(v=iv 0/\St W0 N F0 w' F (row qA.k 68 (.slice (pb g) n c) (xs.set i.toNat yv) :: L)/\AgrX (fun q=>q=g) W w'):=by
 subst hp
 subst hk
 have h:=hcs off _ hcur
 refine enter (n:=13) rfl rfl rfl (Nat.le_of_ble_eq_true rfl) fun a hE=>?_
 refine sq fun K0 hK0=>?_
 refine pl0 ?_
 refine plc hE (.r 0 1 .nil) fun a hE=>?_
 refine pld ?_
 refine hK0 _ _ ?_
 refine sq fun K1 hK1=>?_
 refine sq fun K2 hK2=>?_
 refine pl0 ?_
 refine plc hE (.r 0 2<|.c 2 h<|.r 3 2 .nil) fun a hE=>?_
 refine pld ?_
 refine hK2 _ _ ?_
 replace hE:=hE.ef 9 hne
 refine cf hE ?_
 refine wp_skip ?_
 refine hK1 _ _ ?_
 refine sq fun K3 hK3=>?_
 refine pl0 ?_
 refine plc hE (.r 0 3 .nil) fun a hE=>?_
 refine ple hE (.setx (d:=qA.k) (n:=n) (i:=i) yv off (ea1 _ _ _) hS h01 cs hcs _ hK ?_) ?_
 ·unfold setK
  show (match (Nat.beq [Value.bool to].length 1&&Nat.ble (off+1) (qA.k).sz)&&(true&&Nat.beq cs.length (qA.k).sz) with
   | true=>some (((⟨g,0,none⟩:Addr).add (i.toNat * (qA.k).sz)).add off,cs.take off++[.bool to]++cs.drop (off+1))
   | false=>none)=some _
  rw [hl,ho]
  rfl
 rintro _ w1 a ⟨rfl,hS,hz,hX⟩ hE
 refine pld ?_
 refine hK3 _ _ ?_
 refine sq fun K4 hK4=>?_
 refine pl0 ?_
 refine plc hE (.r 0 1 .nil) fun a hE=>?_
 refine pld ?_
 refine hK4 _ _ ?_
 refine wp_ret ?_
 exact rt1 hE ⟨_,rfl,rfl,hS,hX⟩
def qCD.f(k:Nat)(x:qE)(xf0_:qF):Option Bool:=(qAG.f k x.f1 xf0_.f1).bind fun t6=>(some t6)
def qCD.Post(W F:World)(r:Bool)(v:Value)(w':World):Prop:=∃(F':World),v = .bool r/\Sm W F w' F' []
theorem qCD.calls(k:Nat)(x:qE)(xf0_:qF)(A0_1:OA)(c0_1:Nat)(pf0_:Nat)(Af0_6:OA)(cf0_6:Nat)(r:Bool)(W F:World)(hown:Sub F W)(g0_1:Rd ki F A0_1 c0_1 x.f1)(gf0_6:Rd ki F Af0_6 cf0_6 xf0_.f6)(hpf0_:F.heap[pf0_]? = some (.cells (dA xf0_ Af0_6 cf0_6) 29 (0,0)))(H:qCD.f k x xf0_=some r):
    Cr 130 #[.agg #[iv x.f0,.slice A0_1 x.f1.length c0_1],.pointer (pb pf0_)] W (qCD.Post W F r):=by
 have S:=sT hown
 unfold qCD.f at H
 refine ent 9 rfl rfl rfl fun a E=>?_
 refine sq fun K1 hK1=>pl0 (plx (t:=75) E S [iv x.f0,.slice A0_1 x.f1.length c0_1] fun b2 u3 hb2 S a E=>plc E (.r 1 1 .nil) fun a E=>pld (hK1 _ _ (sq fun K4 hK4=>pl0 (plc E (.r 0 1<|.b 1 1 hb2<|.r 2 1<|.b 3 1 (S.own.sub _ _ _ _ hpf0_)<|.nil) fun a E=>?_))))
 obtain ⟨t6,h7,H⟩:=bd H
 refine plq E S en75 (qAG.calls k x.f1 xf0_.f1 _ _ _ _ _ S.own.sub g0_1 h7) fun u5 S a E=>plc E (.r 5 1 .nil) fun a E=>pld (hK4 _ _ (wp_ret ?_))
 have S:=S.tail
 obtain rfl:=si H
 exact rt1 E ⟨_,rfl,_,rfl,S⟩
def qc.l5:Nat->List qE->qF->Int->Option Int
 | 0,_,_,_=>none
 | k+1,x,x1c0_,x4=>if x4<(x.length:Int) then (if 0<=x4/\x4<(x.length:Int) then ((qCD.f k (nth qE.z x x4) x1c0_).bind fun t24=>(if t24=true then (some x4) else (qc.l5 k x x1c0_ (w64 (x4+1))))) else (none)) else (some (-1))
theorem qc.l5_s k x x1c0_ x4:type_of% (qc.l5.eq_2 x x1c0_ x4 k):=qc.l5.eq_2 x x1c0_ x4 k
def qc.f(k:Nat)(x:List qE)(x1c0_:qF):Option Int:=qc.l5 k x x1c0_ 0
def qc.Post(W F:World)(r:Int)(v:Value)(w':World):Prop:=∃(F':World),v=iv r/\Sm W F w' F' []
theorem qc.calls(k:Nat)(x:List qE)(x1c0_:qF)(A0_0:OA)(c0_0:Nat)(p1c0_:Nat)(A1c0_6:OA)(c1c0_6:Nat)(r:Int)(W F:World)(hown:Sub F W)(g0_0:Rd qE.k F A0_0 c0_0 x)(g1c0_6:Rd ki F A1c0_6 c1c0_6 x1c0_.f6)(hp1c0_:F.heap[p1c0_]? = some (.cells (dA x1c0_ A1c0_6 c1c0_6) 29 (0,0)))(H:qc.f k x x1c0_=some r):
    Cr 155 #[.slice A0_0 x.length c0_0,.func (.func 130) #[] #[.pointer (pb p1c0_)]] W (qc.Post W F r):=by
 have S:=sT hown
 unfold qc.f at H
 refine ent 19 rfl rfl rfl fun a E=>?_
 refine rr E fun a E=>(sq fun K2 hK2=>rr E fun a E=>(wp_block ?_))
 refine wp_loop_ghost (fun kq6 a w'=>∃(G:NV)(x4:Int),kq6<=k/\Env 19 G a/\At G [(0,.slice A0_0 x.length c0_0),(1,.func (.func 130) #[] #[.pointer (pb p1c0_)]),(7,iv (x.length:Int)),(8,iv x4)]/\Sm W F w' F []/\qc.l5 kq6 x x1c0_ x4=some r) k ⟨_,0,Nat.le_refl _,E,.of,S,H⟩ ?_
 rintro kq6 a u8 ⟨G,x4,hkq,E,A,S,H⟩
 obtain _ | k7:=kq6
 exact zz H
 rw [qc.l5_s]at H
 obtain ⟨J,E⟩:=E.at A
 refine rr E fun a E=>(sq fun K10 hK10=>E.ik 9 H (fun c11 E H=>?_) fun c11 E H=>?_)
 refine wp_skip (hK10 _ _ (sq fun K12 hK12=>wp_block (rr E fun a E=>(sq fun K14 hK14=>pl0 ?_))))
 obtain ⟨c15,H⟩:=gd H
 have hE_:=E
 obtain ⟨ad16,rfl⟩:=g0_0.addr c15.1 c15.2
 replace E:=hE_
 obtain ⟨cs18,⟨A20,c21,rfl,g22⟩,hc19⟩:=g0_0.el qE.z x4 c15.1 c15.2
 refine plc E (.r 0 3<|.x 3 c15<|.cs 4 (S.fcs hc19)<|.nil) fun a E=>?_
 obtain ⟨t24,h25,H⟩:=bd H
 refine plq E S en130 (qCD.calls k7 (nth qE.z x x4) x1c0_ _ _ _ _ _ _ _ _ S.own.sub g22 g1c0_6 hp1c0_ h25) fun u23 S a E=>pld (hK14 _ _ (E.ib 16 H (fun c26 E H=>?_) fun c26 E H=>?_))
 refine rr E fun a E=>(wp_ret (qCd (qCc (qCc (qCd (qCc ?_))))))
 obtain rfl:=si H
 exact rt1 E ⟨_,rfl,_,rfl,S⟩
 refine wp_skip ?_
 refine qCe ?_
 refine hK12 _ _ (pl0 (plc E (.r 0 2 .nil) fun a E=>pld ?_))
 exact qCf ⟨k7,by omega,_,(w64 (x4+1)),by omega,E,.of,S,H⟩
 refine wp_exit ?_
 refine hK2 _ _ (rr E fun a E=>(wp_ret ?_))
 obtain rfl:=si H
 exact rt1 E ⟨_,rfl,_,rfl,S⟩
def qv.f(k:Nat)(x:List qE)(x1c0_:qF):Option Bool:=(qc.f k x x1c0_).bind fun t4=>(some (decide (t4>=0)))
def qv.Post(W F:World)(r:Bool)(v:Value)(w':World):Prop:=∃(F':World),v = .bool r/\Sm W F w' F' []
theorem qv.calls(k:Nat)(x:List qE)(x1c0_:qF)(A0_0:OA)(c0_0:Nat)(p1c0_:Nat)(A1c0_6:OA)(c1c0_6:Nat)(r:Bool)(W F:World)(hown:Sub F W)(g0_0:Rd qE.k F A0_0 c0_0 x)(g1c0_6:Rd ki F A1c0_6 c1c0_6 x1c0_.f6)(hp1c0_:F.heap[p1c0_]? = some (.cells (dA x1c0_ A1c0_6 c1c0_6) 29 (0,0)))(H:qv.f k x x1c0_=some r):
    Cr 129 #[.slice A0_0 x.length c0_0,.func (.func 130) #[] #[.pointer (pb p1c0_)]] W (qv.Post W F r):=by
 have S:=sT hown
 unfold qv.f at H
 refine ent 9 rfl rfl rfl fun a E=>?_
 refine rr E fun a E=>(sq fun K2 hK2=>pl0 (plc E (.r 0 2 .nil) fun a E=>?_))
 obtain ⟨t4,h5,H⟩:=bd H
 refine plq E S en155 (qc.calls k x x1c0_ _ _ _ _ _ _ _ _ S.own.sub g0_0 g1c0_6 hp1c0_ h5) fun u3 S a E=>plc E (.r 3 2 .nil) fun a E=>pld (hK2 _ _ (wp_ret ?_))
 obtain rfl:=si H
 exact rt1 E ⟨_,rfl,_,rfl,S⟩
def qAj.f(x:List qA)(y:Int)(p:Int):Option (List qA):=if 0<=y/\y<=p/\p<=(x.length:Int)/\x.length<=1000000 then some (x.take y.toNat++x.drop p.toNat) else none
def qAj.Post(x:List qA)(y:Int)(p:Int)(A0_0:OA)(c0_0:Nat)(W F:World)(r:List qA)(v:Value)(w':World):Prop:=∃(F':World)(RA0_0:OA)(rc0_0:Nat),v = .slice RA0_0 r.length rc0_0/\St W (mine W [row qA.k 68 (.slice A0_0 x.length c0_0) x]) F w' F' [row qA.k 68 (.slice RA0_0 r.length rc0_0) r]
set_option maxHeartbeats 4000000 in
set_option maxRecDepth 100000 in
theorem qAj.calls(x:List qA)(y:Int)(p:Int)(A0_0:OA)(c0_0:Nat)(r:List qA)(W F:World)(hown:Own W F [row qA.k 68 (.slice A0_0 x.length c0_0) x])(H:qAj.f x y p=some r):
    Cr 132 #[.slice A0_0 x.length c0_0,iv y,iv p] W (qAj.Post x y p A0_0 c0_0 W F r):=by
 have S:=St.start hown
 unfold qAj.f at H
 by_cases hc:0<=y/\y<=p/\p<=(x.length:Int)/\x.length<=1000000
 rotate_left
 ·
  rw [if_neg hc]at H; cases H
 rw [if_pos hc]at H
 have hr:=Option.some.inj H
 clear H
 obtain ⟨h0,h1,h2,hmax⟩:=hc
 obtain ⟨i,rfl⟩:∃ i:Nat,y=i:=⟨y.toNat,by omega⟩
 obtain ⟨j,rfl⟩:∃ j:Nat,p=j:=⟨p.toNat,by omega⟩
 simp only [Int.toNat_natCast]at hr
 have hxc:x.length<=c0_0/\c0_0<=maxLen:=by
  obtain ⟨_,q1,q2,_⟩:=qCg (S.row_at (i:=0) rfl)
  exact ⟨q1,q2⟩
 refine enter (n:=33) rfl rfl rfl (Nat.le_of_ble_eq_true rfl) fun a E=>?_
 refine rr E fun a E=>(rg E (.r 0 5<|.y 5 (qJi (e:=68) (z:=6) (A:=A0_0) (n:=x.length) (c:=c0_0) (kl:=.i64) (kh:=.i64) (km:=.i64) (lo:=(i:Int)) (hi:=(j:Int)) (mx:=(x.length:Int)) (by omega) (by omega) (by omega) (by omega)) .nil) fun a E=>(sq fun K2 hK2=>rr E fun a E=>?_))
 by_cases hij:(i:Int)=(j:Int)
 ·
  replace E:=E.et 16 hij
  refine ct E ?_
  obtain rfl:i=j:=by omega
  obtain rfl:x=r:=by rw [← hr,List.take_append_drop]
  refine rr E fun a E=>(wp_ret (qCc ?_))
  exact rt1 E ⟨_,rfl,F,_,_,rfl,S⟩
 replace E:=E.ef 16 hij
 refine cf E (wp_skip (hK2 _ _ ?_))
 have hE_:=E
 obtain ⟨g,cur,rfl,hsz,hrep,S⟩:=S.unrow (by omega)
 replace E:=hE_
 replace hsz:cur.size=c0_0 * 6:=hsz
 obtain ⟨inner,hin⟩:∃ inner,inner=cur.toList.take (x.length * 6):=⟨_,rfl⟩
 have hil:inner.length=x.length * 6:=by rw [hin]; exact hrep.1
 have hnz:x.length * 6<=c0_0 * 6:=Nat.mul_le_mul_right _ hxc.1
 have hjz:j * 6<=x.length * 6:=Nat.mul_le_mul_right _ (by omega)
 have hiz:i * 6<=j * 6:=Nat.mul_le_mul_right _ (by omega)
 have hidl:(inner.drop (j * 6)).length=(x.length - j) * 6:=by rw [List.length_drop,hil,Nat.sub_mul]
 have hrep2:RepsK qA.k F x inner:=by rw [hin]; exact hrep
 have hione:∀ u ∈ inner.drop (j * 6),u.oneCell'=true:=fun u hu=>hrep2.one u (List.mem_of_mem_drop hu)
 have higet:∀ q u,(inner.drop (j * 6))[q]? = some u->cur[j * 6+q]? = some u:=fun q u hq=>by
  rw [List.getElem?_drop,hin,List.getElem?_take]at hq
  split at hq
  ·
   rwa [Array.getElem?_toList]at hq
  ·
   cases hq
 refine rr E fun a E=>(sq fun K6 hK6=>?_)
 refine drawn 8 ⟨[6],[],fun q=>False⟩ mixed rfl (by kernel_rfl) fun hst=>?_
 have S:=S.drew
 have hbg:=S.ba 0
 refine mny 2 hst E (.r 0 2<|.y 2 (y_hi (e:=68) (z:=6) (g:=g) (n:=x.length) (c:=c0_0) (k:=.i64) (hi:=(i:Int)) ⟨by omega,by omega⟩)<|.r 3 2<|.y 5 (qJj (e:=68) (z:=6) (g:=g) (n:=x.length) (c:=c0_0) (k:=.i64) (lo:=(j:Int)) ⟨by omega,by omega⟩) .nil) fun a E=>?_
 refine on1 6 E (.apf (e:=68) (g:=g) (i:=(i:Int).toNat) (m:=x.length - (j:Int).toNat) (c:=c0_0) (sc:=c0_0 - (j:Int).toNat) (z:=6) (bytes:=40) (sa:=if c0_0=(j:Int).toNat then some ⟨g,0,none⟩ else some ⟨g,(j:Int).toNat * 6,none⟩) S (inner.drop (j * 6)) (by rw [hidl,Int.toNat_natCast]) (fun hm=>⟨⟨g,j * 6,none⟩,by
      rw [Int.toNat_natCast]at hm ⊢
      rw [if_neg (by omega)],fun q u hq=>by rw [qCr]; exact qCl hbg (higet q u hq)⟩) hione (by
      rw [Int.toNat_natCast,hidl,hsz,Nat.sub_mul]
      omega) (by rw [Int.toNat_natCast,Int.toNat_natCast]; omega) (by kernel_rfl)) ?_
 rintro _ w1 a ⟨rfl,S,hz⟩ E
 refine ⟨.d,?_⟩
 refine mny 0 hst E (.r 7 1 .nil) fun a E=>?_
 refine dn ?_
 simp only [Int.toNat_natCast]at S E
 refine hK6 _ _ ?_
 have hlen:(x.take i++x.drop j++x.drop (i+(x.length - j))).length=x.length:=by
  rw [List.length_append,List.length_append,List.length_take,List.length_drop,List.length_drop]
  omega
 have hrr:=qHF (d:=qA.k) (F:=F) (xs:=x) (i:=i) (j:=j) (cur:=cur.toList) hrep (by omega) (by omega) (by
    show x.length * 6<=cur.size
    rw [hsz]
    exact hnz)
 have hS2:=S.rerow (d:=qA.k) (c:=c0_0) (x.take i++x.drop j++x.drop (i+(x.length - j))) (by
    show (cur.toList.take (i * 6)++inner.drop (j * 6)++cur.toList.drop (i * 6+(inner.drop (j * 6)).length)).length=c0_0 * 6
    rw [List.length_append,List.length_append,hidl,List.length_take,List.length_drop,show cur.toList.length=c0_0 * 6 from hsz,Nat.sub_mul]
    omega) (by rw [hlen]; exact hxc.1) hxc.2 (by rw [hlen,hin]; exact hrr)
 rw [hlen]at hS2
 refine sq fun K7 hK7=>pl0 (plc E (.r 0 4<|.y 4 (y_mid (e:=68) (z:=6) (g:=g) (n:=i+(x.length - j)) (c:=c0_0) (k:=.i64) (k':=.i64) (lo:=((i+(x.length - j):Nat):Int)) (hi:=(x.length:Int)) (by omega) (by omega) (by omega) (by omega)) .nil) fun a E=>ple E (.clr (d:=qA.k) (e:=68) (A:=some ⟨g,0,none⟩) (n:=x.length) (c:=c0_0) (c':=c0_0 - ((i+(x.length - j):Nat):Int).toNat) (A':=some ⟨g,((i+(x.length - j):Nat):Int).toNat * 6,none⟩) (lo:=((i+(x.length - j):Nat):Int)) 40 qA.z hS2 ⟨by omega,by omega⟩ (.inr ⟨g,rfl,rfl⟩) (by rw [zr68]; exact rfl)) ?_)
 rintro _ w2 a ⟨rfl,hS3,hz2⟩ E
 refine pld (hK7 _ _ (rr E fun a E=>(wp_ret ?_)))
 have hS4:=hS3.shrink (hi:=((i+(x.length - j):Nat):Int)) ⟨by omega,by omega⟩
 have hl1:(x.take i++x.drop j).length=i+(x.length - j):=by
  rw [List.length_append,List.length_take,List.length_drop]
  omega
 have hcut:∀ t:List qA,cutl ((x.take i++x.drop j++x.drop (i+(x.length - j))).take ((i+(x.length - j):Nat):Int).toNat++t) 0 ((i+(x.length - j):Nat):Int)=r:=by
  intro t
  unfold cutl
  have e1:(x.take i++x.drop j++x.drop (i+(x.length - j))).take (i+(x.length - j))=x.take i++x.drop j:=by
   rw [← hl1,List.take_left']
   rfl
  rw [Int.toNat_natCast,Int.toNat_zero,List.drop_zero,← hr,e1,← hl1,List.take_left']
  rfl
 rw [hcut]at hS4
 have hrl:r.length=i+(x.length - j):=by rw [← hr]; exact hl1
 rw [← hrl]at E
 exact rt1 E ⟨_,rfl,F,_,_,rfl,hS4⟩
mutual
def qAq.j45:Nat->qD->Int->qF->Bool->Option (qD × Int)
 | 0,_,_,_,_=>none
 | k+1,x,y,z,y44=>if y44=true then (if ((nth qA.z x.f4 y).f4)=(z.f0 == 3) then (some (x,7)) else (some ((⟨x.f0,x.f1,x.f2,x.f3,(x.f4.set (y).toNat (⟨(nth qA.z x.f4 y).f0,(nth qA.z x.f4 y).f1,(nth qA.z x.f4 y).f2,(nth qA.z x.f4 y).f3,(z.f0 == 3),(nth qA.z x.f4 y).f5⟩:qA)),x.f5,x.f6⟩:qD),0))) else (if z.f0=5 then (qAq.j64 k x y z true) else (qAq.j64 k x y z (z.f0 == 6)))
def qAq.j64:Nat->qD->Int->qF->Bool->Option (qD × Int)
 | 0,_,_,_,_=>none
 | k+1,x,y,z,y63=>if y63=true then (if ((nth qA.z x.f4 y).f5)=(z.f0 == 6) then (some (x,7)) else (some ((⟨x.f0,x.f1,x.f2,x.f3,(x.f4.set (y).toNat (⟨(nth qA.z x.f4 y).f0,(nth qA.z x.f4 y).f1,(nth qA.z x.f4 y).f2,(nth qA.z x.f4 y).f3,(nth qA.z x.f4 y).f4,(z.f0 == 6)⟩:qA)),x.f5,x.f6⟩:qD),0))) else ((qv.f k x.f5 z).bind fun t81=>(if ((nth qA.z x.f4 y).f4)=true then (qAq.j103 k x y true) else (if ((nth qA.z x.f4 y).f5)=true then (if (nth qA.z x.f4 y).f3>0 then (qAq.j103 k x y true) else (if t81=true then (qAq.j103 k x y true) else ((qBs.f k x z.f1).bind fun t96=>(qAq.j103 k x y t96)))) else (if t81=true then (qAq.j103 k x y true) else ((qBs.f k x z.f1).bind fun t100=>(qAq.j103 k x y t100))))))
def qAq.j103:Nat->qD->Int->Bool->Option (qD × Int)
 | 0,_,_,_=>none
 | k+1,x,y,y102=>if y102=true then (some (x,11)) else ((qAj.f x.f4 y (w64 (y+1))).bind fun t113=>(some ((⟨x.f0,x.f1,x.f2,x.f3,t113,x.f5,x.f6⟩:qD),0)))
end
theorem qAq.j45_s k x y z y44:type_of% (qAq.j45.eq_2 x y z y44 k):=qAq.j45.eq_2 x y z y44 k
theorem qAq.j64_s k x y z y63:type_of% (qAq.j64.eq_2 x y z y63 k):=qAq.j64.eq_2 x y z y63 k
theorem qAq.j103_s k x y y102:type_of% (qAq.j103.eq_2 x y y102 k):=qAq.j103.eq_2 x y y102 k
def qAq.f(k:Nat)(x:qD)(y:Int)(z:qF):Option (qD × Int):=if 0<=y/\y<(x.f4.length:Int) then (if z.f0=2 then ((qBR.f z.f4 0 65536).bind fun t22=>(if t22=true then (if (nth qA.z x.f4 y).f3=z.f4 then (some (x,7)) else (some ((⟨x.f0,x.f1,x.f2,x.f3,(x.f4.set (y).toNat (⟨(nth qA.z x.f4 y).f0,(nth qA.z x.f4 y).f1,(nth qA.z x.f4 y).f2,z.f4,(nth qA.z x.f4 y).f4,(nth qA.z x.f4 y).f5⟩:qA)),x.f5,x.f6⟩:qD),0))) else (some (x,1)))) else (if z.f0=3 then (qAq.j45 k x y z true) else (qAq.j45 k x y z (z.f0 == 4)))) else (none)
def qAq.Post(x:qD)(y:Int)(z:qF)(A0_4:OA)(c0_4:Nat)(A0_5:OA)(c0_5:Nat)(A0_6:OA)(c0_6:Nat)(A2_6:OA)(c2_6:Nat)(W F:World)(r:qD × Int)(v:Value)(w':World):Prop:=∃(F':World)(RA0_4:OA)(rc0_4:Nat)(RA0_5:OA)(rc0_5:Nat)(RA0_6:OA)(rc0_6:Nat),v = .tuple #[.agg (mA r.1 RA0_4 rc0_4 RA0_5 rc0_5 RA0_6 rc0_6),iv r.2]/\St W (mine W [row qA.k 68 (.slice A0_4 x.f4.length c0_4) x.f4]) F w' F' [row qA.k 68 (.slice RA0_4 r.1.f4.length rc0_4) r.1.f4]/\Rd qE.k F' RA0_5 rc0_5 r.1.f5/\Rd qC.k F' RA0_6 rc0_6 r.1.f6
theorem qAq.calls(k:Nat)(x:qD)(y:Int)(z:qF)(A0_4:OA)(c0_4:Nat)(A0_5:OA)(c0_5:Nat)(A0_6:OA)(c0_6:Nat)(A2_6:OA)(c2_6:Nat)(r:qD × Int)(W F:World)(hown:Own W F [row qA.k 68 (.slice A0_4 x.f4.length c0_4) x.f4])(g0_5:Rd qE.k F A0_5 c0_5 x.f5)(g0_6:Rd qC.k F A0_6 c0_6 x.f6)(g2_6:Rd ki F A2_6 c2_6 z.f6)(H:qAq.f k x y z=some r):
    Cr 104 #[.agg (mA x A0_4 c0_4 A0_5 c0_5 A0_6 c0_6),iv y,.agg (dA z A2_6 c2_6)] W (qAq.Post x y z A0_4 c0_4 A0_5 c0_5 A0_6 c0_6 A2_6 c2_6 W F r):=by
 have S:=St.start hown
 obtain ⟨N,hN⟩:∃ N,N=mine W [row qA.k 68 (.slice A0_4 x.f4.length c0_4) x.f4]:=⟨_,rfl⟩
 rw [← hN]at S
 unfold qAq.f at H
 refine ent 98 rfl rfl rfl fun a E=>?_
 refine sq fun K1 hK1=>pl0 (plx (t:=26) E S (mL x A0_4 c0_4 A0_5 c0_5 A0_6 c0_6) fun b2 u3 hb2 S a E=>plx (t:=29) E S (dL z A2_6 c2_6) fun b4 u5 hb4 S a E=>pla (t:=26) E S [iv 0,iv 0,iv 0,iv 0,.slice none 0 0,.slice none 0 0,.slice none 0 0] fun b6 u7 hb6 S a E=>plc E (.r 3 1 .nil) fun a E=>pld (hK1 _ _ (sq fun K8 hK8=>pl0 ?_)))
 have hb2:=S.ba 2
 obtain ⟨c9,H⟩:=gd H
 have hr10:=S.ra 3
 have hE_:=E
 obtain ⟨b11,rfl⟩:=qCi hr10 c9.1 c9.2
 replace E:=hE_
 have hr_:=S.ra 3
 obtain ⟨cs13,rfl,hc14⟩:=qCh hr_ qA.z y c9.1 c9.2
 refine plc E (.r 0 1<|.b 1 4 hb2<|.r 2 1<|.x 3 c9<|.r 4 1<|.nil) fun a E=>pld (hK8 _ _ (sq fun K15 hK15=>sq fun K16 hK16=>pl0 ?_))
 have hb4:=S.ba 1
 refine plc E (.r 0 1<|.b 1 0 hb4<|.nil) fun a E=>pld (hK16 _ _ (wp_block (rr E fun a E=>(E.ik 16 H (fun c18 E H=>?_) fun c18 E H=>?_))))
 refine sq fun K19 hK19=>sq fun K20 hK20=>pl0 (plc E (.r 0 1<|.b 1 4 hb4<|.nil) fun a E=>?_)
 obtain ⟨t22,h23,H⟩:=bd H
 refine plq E S en93 (qBR.calls z.f4 0 65536 _ _ _ S.own.sub h23) fun u21 S a E=>plc E (.r 3 1 .nil) fun a E=>pld (hK20 _ _ (E.ibn 21 H (fun c24 E H=>?_) fun c24 E H=>?_))
 refine wp_skip (hK19 _ _ (sq fun K27 hK27=>sq fun K28 hK28=>?_))
 refine drawn 7 ⟨[],[],fun q=>False⟩ mixed rfl (by kernel_rfl) fun hst=>?_
 have S:=S.drew
 obtain ⟨cs29,rfl,hc30⟩:=qCh (S.row_at (i:=3) rfl) qA.z y c9.1 c9.2
 have hb4:=S.ba 1
 refine mny 0 hst E (.r 0 3<|.c 3 (hc30 3 _ rfl)<|.r 4 1<|.b 5 4 hb4<|.r 6 1<|.nil) fun a E=>?_
 refine dn ?_
 refine hK28 _ _ (E.ik 29 H (fun c31 E H=>?_) fun c31 E H=>?_)
 refine sq fun K32 hK32=>pl0 (plc E (.bn 0 0 7 (S.ba 2) .nil) fun a E=>pls E S [iv x.f0,iv x.f1,iv x.f2,iv x.f3,.slice (pb b11) x.f4.length c0_4,.slice A0_5 x.f5.length c0_5,.slice A0_6 x.f6.length c0_6] fun u33 hb6 S a E=>plc E (.r 2 1 .nil) fun a E=>pld (hK32 _ _ (wp_ret (qCc (qCd (qCc ?_))))))
 have S:=S.pm [] 3
 rw [hN]at S
 obtain rfl:=si H
 exact rtm E (.b hb6 ag26 sz26 (.t .nil)) ⟨_,rfl,_,_,_,_,_,_,_,rfl,S,g0_5,g0_6⟩
 refine wp_skip (hK27 _ _ (sq fun K34 hK34=>pl0 (plc E (.r 0 2<|.b 2 4 hb4<|.r 3 2<|.nil) fun a E=>?_)))
 have S:=S.front 3 rfl
 obtain ⟨cs36,rfl,hc37⟩:=qCh (S.row_at (i:=0) rfl) qA.z y c9.1 c9.2
 refine ple E (.set (d:=qA.k) (n:=x.f4.length) (i:=y) (⟨(nth qA.z x.f4 y).f0,(nth qA.z x.f4 y).f1,(nth qA.z x.f4 y).f2,z.f4,(nth qA.z x.f4 y).f4,(nth qA.z x.f4 y).f5⟩:qA) 3 (ea1 _ _ _) S c9 (nL (nth qA.z x.f4 y)) hc37 [iv ((nth qA.z x.f4 y).f0),iv ((nth qA.z x.f4 y).f1),iv ((nth qA.z x.f4 y).f2),iv z.f4,.bool ((nth qA.z x.f4 y).f4),.bool ((nth qA.z x.f4 y).f5)] rfl) ?_
 rintro _ u35 a ⟨rfl,S,hz⟩ E
 refine pld (hK34 _ _ (sq fun K38 hK38=>pl0 (plc E (.bn 0 0 7 (S.ba 3) .nil) fun a E=>?_)))
 have S:=S.front 1 rfl
 refine pls E S [iv x.f0,iv x.f1,iv x.f2,iv x.f3,.slice (pb b11) x.f4.length c0_4,.slice A0_5 x.f5.length c0_5,.slice A0_6 x.f6.length c0_6] fun u39 hb6 S a E=>plc E (.r 2 1 .nil) fun a E=>pld (hK38 _ _ (wp_ret (qCd (qCc ?_))))
 have hn40:=(qCg (S.row_at (i:=1) rfl)).1
 replace S:St W N F u39 F [box b6 #[iv x.f0,iv x.f1,iv x.f2,iv x.f3,.slice (pb b11) ((x.f4.set (y).toNat (⟨(nth qA.z x.f4 y).f0,(nth qA.z x.f4 y).f1,(nth qA.z x.f4 y).f2,z.f4,(nth qA.z x.f4 y).f4,(nth qA.z x.f4 y).f5⟩:qA)).length) c0_4,.slice A0_5 x.f5.length c0_5,.slice A0_6 x.f6.length c0_6] 26,row qA.k 68 (.slice (pb b11) ((x.f4.set (y).toNat (⟨(nth qA.z x.f4 y).f0,(nth qA.z x.f4 y).f1,(nth qA.z x.f4 y).f2,z.f4,(nth qA.z x.f4 y).f4,(nth qA.z x.f4 y).f5⟩:qA)).length) c0_4) (x.f4.set (y).toNat (⟨(nth qA.z x.f4 y).f0,(nth qA.z x.f4 y).f1,(nth qA.z x.f4 y).f2,z.f4,(nth qA.z x.f4 y).f4,(nth qA.z x.f4 y).f5⟩:qA)),box b4 (dA z A2_6 c2_6) 29,box b2 #[iv x.f0,iv x.f1,iv x.f2,iv x.f3,.slice (pb b11) ((x.f4.set (y).toNat (⟨(nth qA.z x.f4 y).f0,(nth qA.z x.f4 y).f1,(nth qA.z x.f4 y).f2,z.f4,(nth qA.z x.f4 y).f4,(nth qA.z x.f4 y).f5⟩:qA)).length) c0_4,.slice A0_5 x.f5.length c0_5,.slice A0_6 x.f6.length c0_6] 26]:=by rw [← hn40]; exact S
 have hb6:=S.ba 0
 have S:=S.pm [1] 4
 rw [hN]at S
 obtain rfl:=si H
 exact rtm E (.b hb6 ag26 sz26 (.t .nil)) ⟨_,rfl,_,_,_,_,_,_,_,rfl,S,g0_5,g0_6⟩
 refine sq fun K25 hK25=>pl0 (plc E (.bn 0 0 7 (S.ba 2) .nil) fun a E=>pls E S [iv x.f0,iv x.f1,iv x.f2,iv x.f3,.slice (pb b11) x.f4.length c0_4,.slice A0_5 x.f5.length c0_5,.slice A0_6 x.f6.length c0_6] fun u26 hb6 S a E=>plc E (.r 2 1 .nil) fun a E=>pld (hK25 _ _ (wp_ret (qCc (qCd (qCc ?_))))))
 have S:=S.pm [] 3
 rw [hN]at S
 obtain rfl:=si H
 exact rtm E (.b hb6 ag26 sz26 (.t .nil)) ⟨_,rfl,_,_,_,_,_,_,_,rfl,S,g0_5,g0_6⟩
 refine sq fun K41 hK41=>?_
 have J48:∀ kq46,kq46<=k->∀(G:NV)(y44:Bool)(a:Act)(w':World),Env 98 G a->At G [(1,iv y),(3,.pointer (pb b2)),(5,.pointer (pb b4)),(6,.pointer (pb b6)),(8,.pointer (some ((⟨b11,0,none⟩:Addr).add (y.toNat * 6)))),(15,iv z.f0),(37,.bool y44)]->St W N F w' F [box b6 #[iv 0,iv 0,iv 0,iv 0,.slice none 0 0,.slice none 0 0,.slice none 0 0] 26,box b4 (dA z A2_6 c2_6) 29,box b2 #[iv x.f0,iv x.f1,iv x.f2,iv x.f3,.slice (pb b11) x.f4.length c0_4,.slice A0_5 x.f5.length c0_5,.slice A0_6 x.f6.length c0_6] 26,row qA.k 68 (.slice (pb b11) x.f4.length c0_4) x.f4]->qAq.j45 kq46 x y z y44=some r->K41 a w':=by
  intro kq46 hkq G y44 a u49 E A S H
  obtain _ | k47:=kq46
  exact zz H
  rw [qAq.j45_s]at H
  obtain ⟨J,E⟩:=E.at A
  refine hK41 _ _ (E.ib 37 H (fun c50 E H=>?_) fun c50 E H=>?_)
  refine sq fun K51 hK51=>?_
  refine drawn 10 ⟨[7,8],[7],fun q=>q=b11⟩ mixed rfl (by kernel_rfl) fun hst=>?_
  have S:=S.drew
  have ne52:¬ (b2=b11):=by intro h; exact S.ne_row (i:=2) (j:=3) rfl rfl (by decide) h
  have hb2:=S.ba 2
  have hb4:=S.ba 1
  refine mny 3 hst E (.bnX 0 0 7 hb2 ne52<|.r 1 4<|.b 5 0 hb4<|.r 6 1<|.nil) fun a E=>?_
  have S:=S.front 3 rfl
  obtain ⟨cs53,rfl,hc54⟩:=qCh (S.row_at (i:=0) rfl) qA.z y c9.1 c9.2
  rcases sp H with ⟨c56,H⟩ | ⟨c56,H⟩
  refine on1 7 E (.cl en128 (qCZ.same (z.f0 == 3) _ _ (hc54 4 _ rfl) c56)) ?_
  rintro _ _ a ⟨rfl,rfl⟩ E
  refine ⟨.of (Agr.refl _),?_⟩
  have S:=S.front 1 rfl
  refine on1 8 E (.sto S [iv x.f0,iv x.f1,iv x.f2,iv x.f3,.slice (pb b11) x.f4.length c0_4,.slice A0_5 x.f5.length c0_5,.slice A0_6 x.f6.length c0_6]) ?_
  rintro _ u57 a ⟨rfl,hb6,S,hz⟩ E
  refine ⟨.d,?_⟩
  refine mny 0 hst E (.r 9 1 .nil) fun a E=>?_
  refine dn ?_
  refine hK51 _ _ (wp_ret (qCd (qCc ?_)))
  have S:=S.pm [1] 4
  rw [hN]at S
  obtain rfl:=si H
  exact rtm E (.b hb6 ag26 sz26 (.t .nil)) ⟨_,rfl,_,_,_,_,_,_,_,rfl,S,g0_5,g0_6⟩
  refine on1 7 E (.cl en128 (qCZ.turn (n:=x.f4.length) (i:=y) S (⟨(nth qA.z x.f4 y).f0,(nth qA.z x.f4 y).f1,(nth qA.z x.f4 y).f2,(nth qA.z x.f4 y).f3,(z.f0 == 3),(nth qA.z x.f4 y).f5⟩:qA) 4 c9 (nL (nth qA.z x.f4 y)) hc54 ((nth qA.z x.f4 y).f4) (z.f0 == 3) [iv ((nth qA.z x.f4 y).f0),iv ((nth qA.z x.f4 y).f1),iv ((nth qA.z x.f4 y).f2),iv ((nth qA.z x.f4 y).f3),.bool (z.f0 == 3),.bool ((nth qA.z x.f4 y).f5)] rfl rfl c56)) ?_
  rintro _ u55 a ⟨rfl,S,hX⟩ E
  refine ⟨.c hX,?_⟩
  have S:=S.front 1 rfl
  refine on1 8 E (.sto S [iv x.f0,iv x.f1,iv x.f2,iv x.f3,.slice (pb b11) x.f4.length c0_4,.slice A0_5 x.f5.length c0_5,.slice A0_6 x.f6.length c0_6]) ?_
  rintro _ u58 a ⟨rfl,hb6,S,hz⟩ E
  refine ⟨.d,?_⟩
  refine mny 0 hst E (.r 9 1 .nil) fun a E=>?_
  refine dn ?_
  refine hK51 _ _ (wp_ret (qCd (qCc ?_)))
  have hn59:=(qCg (S.row_at (i:=1) rfl)).1
  replace S:St W N F u58 F [box b6 #[iv x.f0,iv x.f1,iv x.f2,iv x.f3,.slice (pb b11) ((x.f4.set (y).toNat (⟨(nth qA.z x.f4 y).f0,(nth qA.z x.f4 y).f1,(nth qA.z x.f4 y).f2,(nth qA.z x.f4 y).f3,(z.f0 == 3),(nth qA.z x.f4 y).f5⟩:qA)).length) c0_4,.slice A0_5 x.f5.length c0_5,.slice A0_6 x.f6.length c0_6] 26,row qA.k 68 (.slice (pb b11) ((x.f4.set (y).toNat (⟨(nth qA.z x.f4 y).f0,(nth qA.z x.f4 y).f1,(nth qA.z x.f4 y).f2,(nth qA.z x.f4 y).f3,(z.f0 == 3),(nth qA.z x.f4 y).f5⟩:qA)).length) c0_4) (x.f4.set (y).toNat (⟨(nth qA.z x.f4 y).f0,(nth qA.z x.f4 y).f1,(nth qA.z x.f4 y).f2,(nth qA.z x.f4 y).f3,(z.f0 == 3),(nth qA.z x.f4 y).f5⟩:qA)),box b4 (dA z A2_6 c2_6) 29,box b2 #[iv x.f0,iv x.f1,iv x.f2,iv x.f3,.slice (pb b11) ((x.f4.set (y).toNat (⟨(nth qA.z x.f4 y).f0,(nth qA.z x.f4 y).f1,(nth qA.z x.f4 y).f2,(nth qA.z x.f4 y).f3,(z.f0 == 3),(nth qA.z x.f4 y).f5⟩:qA)).length) c0_4,.slice A0_5 x.f5.length c0_5,.slice A0_6 x.f6.length c0_6] 26]:=by rw [← hn59]; exact S
  have hb6:=S.ba 0
  have S:=S.pm [1] 4
  rw [hN]at S
  obtain rfl:=si H
  exact rtm E (.b hb6 ag26 sz26 (.t .nil)) ⟨_,rfl,_,_,_,_,_,_,_,rfl,S,g0_5,g0_6⟩
  refine sq fun K60 hK60=>?_
  have J67:∀ kq65,kq65<=k47->∀(G:NV)(y63:Bool)(a:Act)(w':World),Env 98 G a->At G [(1,iv y),(3,.pointer (pb b2)),(5,.pointer (pb b4)),(6,.pointer (pb b6)),(8,.pointer (some ((⟨b11,0,none⟩:Addr).add (y.toNat * 6)))),(48,.bool y63)]->St W N F w' F [box b6 #[iv 0,iv 0,iv 0,iv 0,.slice none 0 0,.slice none 0 0,.slice none 0 0] 26,box b4 (dA z A2_6 c2_6) 29,box b2 #[iv x.f0,iv x.f1,iv x.f2,iv x.f3,.slice (pb b11) x.f4.length c0_4,.slice A0_5 x.f5.length c0_5,.slice A0_6 x.f6.length c0_6] 26,row qA.k 68 (.slice (pb b11) x.f4.length c0_4) x.f4]->qAq.j64 kq65 x y z y63=some r->K60 a w':=by
   intro kq65 hkq G y63 a u68 E A S H
   obtain _ | k66:=kq65
   exact zz H
   rw [qAq.j64_s]at H
   obtain ⟨J,E⟩:=E.at A
   refine hK60 _ _ (E.ib 48 H (fun c69 E H=>?_) fun c69 E H=>?_)
   refine sq fun K70 hK70=>?_
   refine drawn 10 ⟨[7,8],[7],fun q=>q=b11⟩ mixed rfl (by kernel_rfl) fun hst=>?_
   have S:=S.drew
   have ne71:¬ (b2=b11):=by intro h; exact S.ne_row (i:=2) (j:=3) rfl rfl (by decide) h
   have hb2:=S.ba 2
   have hb4:=S.ba 1
   refine mny 3 hst E (.bnX 0 0 7 hb2 ne71<|.r 1 4<|.b 5 0 hb4<|.r 6 1<|.nil) fun a E=>?_
   have S:=S.front 3 rfl
   obtain ⟨cs72,rfl,hc73⟩:=qCh (S.row_at (i:=0) rfl) qA.z y c9.1 c9.2
   rcases sp H with ⟨c75,H⟩ | ⟨c75,H⟩
   refine on1 7 E (.cl en128 (qCZ.same (z.f0 == 6) _ _ (hc73 5 _ rfl) c75)) ?_
   rintro _ _ a ⟨rfl,rfl⟩ E
   refine ⟨.of (Agr.refl _),?_⟩
   have S:=S.front 1 rfl
   refine on1 8 E (.sto S [iv x.f0,iv x.f1,iv x.f2,iv x.f3,.slice (pb b11) x.f4.length c0_4,.slice A0_5 x.f5.length c0_5,.slice A0_6 x.f6.length c0_6]) ?_
   rintro _ u76 a ⟨rfl,hb6,S,hz⟩ E
   refine ⟨.d,?_⟩
   refine mny 0 hst E (.r 9 1 .nil) fun a E=>?_
   refine dn ?_
   refine hK70 _ _ (wp_ret (qCd (qCc ?_)))
   have S:=S.pm [1] 4
   rw [hN]at S
   obtain rfl:=si H
   exact rtm E (.b hb6 ag26 sz26 (.t .nil)) ⟨_,rfl,_,_,_,_,_,_,_,rfl,S,g0_5,g0_6⟩
   refine on1 7 E (.cl en128 (qCZ.turn (n:=x.f4.length) (i:=y) S (⟨(nth qA.z x.f4 y).f0,(nth qA.z x.f4 y).f1,(nth qA.z x.f4 y).f2,(nth qA.z x.f4 y).f3,(nth qA.z x.f4 y).f4,(z.f0 == 6)⟩:qA) 5 c9 (nL (nth qA.z x.f4 y)) hc73 ((nth qA.z x.f4 y).f5) (z.f0 == 6) [iv ((nth qA.z x.f4 y).f0),iv ((nth qA.z x.f4 y).f1),iv ((nth qA.z x.f4 y).f2),iv ((nth qA.z x.f4 y).f3),.bool ((nth qA.z x.f4 y).f4),.bool (z.f0 == 6)] rfl rfl c75)) ?_
   rintro _ u74 a ⟨rfl,S,hX⟩ E
   refine ⟨.c hX,?_⟩
   have S:=S.front 1 rfl
   refine on1 8 E (.sto S [iv x.f0,iv x.f1,iv x.f2,iv x.f3,.slice (pb b11) x.f4.length c0_4,.slice A0_5 x.f5.length c0_5,.slice A0_6 x.f6.length c0_6]) ?_
   rintro _ u77 a ⟨rfl,hb6,S,hz⟩ E
   refine ⟨.d,?_⟩
   refine mny 0 hst E (.r 9 1 .nil) fun a E=>?_
   refine dn ?_
   refine hK70 _ _ (wp_ret (qCd (qCc ?_)))
   have hn78:=(qCg (S.row_at (i:=1) rfl)).1
   replace S:St W N F u77 F [box b6 #[iv x.f0,iv x.f1,iv x.f2,iv x.f3,.slice (pb b11) ((x.f4.set (y).toNat (⟨(nth qA.z x.f4 y).f0,(nth qA.z x.f4 y).f1,(nth qA.z x.f4 y).f2,(nth qA.z x.f4 y).f3,(nth qA.z x.f4 y).f4,(z.f0 == 6)⟩:qA)).length) c0_4,.slice A0_5 x.f5.length c0_5,.slice A0_6 x.f6.length c0_6] 26,row qA.k 68 (.slice (pb b11) ((x.f4.set (y).toNat (⟨(nth qA.z x.f4 y).f0,(nth qA.z x.f4 y).f1,(nth qA.z x.f4 y).f2,(nth qA.z x.f4 y).f3,(nth qA.z x.f4 y).f4,(z.f0 == 6)⟩:qA)).length) c0_4) (x.f4.set (y).toNat (⟨(nth qA.z x.f4 y).f0,(nth qA.z x.f4 y).f1,(nth qA.z x.f4 y).f2,(nth qA.z x.f4 y).f3,(nth qA.z x.f4 y).f4,(z.f0 == 6)⟩:qA)),box b4 (dA z A2_6 c2_6) 29,box b2 #[iv x.f0,iv x.f1,iv x.f2,iv x.f3,.slice (pb b11) ((x.f4.set (y).toNat (⟨(nth qA.z x.f4 y).f0,(nth qA.z x.f4 y).f1,(nth qA.z x.f4 y).f2,(nth qA.z x.f4 y).f3,(nth qA.z x.f4 y).f4,(z.f0 == 6)⟩:qA)).length) c0_4,.slice A0_5 x.f5.length c0_5,.slice A0_6 x.f6.length c0_6] 26]:=by rw [← hn78]; exact S
   have hb6:=S.ba 0
   have S:=S.pm [1] 4
   rw [hN]at S
   obtain rfl:=si H
   exact rtm E (.b hb6 ag26 sz26 (.t .nil)) ⟨_,rfl,_,_,_,_,_,_,_,rfl,S,g0_5,g0_6⟩
   refine wp_skip ?_
   refine qCe ?_
   refine hK15 _ _ (sq fun K79 hK79=>pl0 ?_)
   have hb2:=S.ba 2
   refine plc E (.r 0 1<|.b 1 5 hb2<|.r 2 1<|.nil) fun a E=>?_
   obtain ⟨t81,h82,H⟩:=bd H
   refine plq E S en129 (qv.calls k66 x.f5 z _ _ _ _ _ _ _ _ (Sub.refl _) (g0_5.mono S.own.sub) (g2_6.mono S.own.sub) (S.ba 1) h82) fun u80 S a E=>plc E (.r 4 1 .nil) fun a E=>pld (hK79 _ _ (sq fun K83 hK83=>sq fun K84 hK84=>?_))
   have J106:∀ kq104,kq104<=k66->∀(G:NV)(y102:Bool)(a:Act)(w':World),Env 98 G a->At G [(1,iv y),(3,.pointer (pb b2)),(6,.pointer (pb b6)),(88,.bool y102)]->St W N F w' F [box b6 #[iv 0,iv 0,iv 0,iv 0,.slice none 0 0,.slice none 0 0,.slice none 0 0] 26,box b4 (dA z A2_6 c2_6) 29,box b2 #[iv x.f0,iv x.f1,iv x.f2,iv x.f3,.slice (pb b11) x.f4.length c0_4,.slice A0_5 x.f5.length c0_5,.slice A0_6 x.f6.length c0_6] 26,row qA.k 68 (.slice (pb b11) x.f4.length c0_4) x.f4]->qAq.j103 kq104 x y y102=some r->K84 a w':=by
    intro kq104 hkq G y102 a u107 E A S H
    obtain _ | k105:=kq104
    exact zz H
    rw [qAq.j103_s]at H
    obtain ⟨J,E⟩:=E.at A
    refine hK84 _ _ (E.ib 88 H (fun c108 E H=>?_) fun c108 E H=>?_)
    refine sq fun K109 hK109=>pl0 (plc E (.bn 0 0 7 (S.ba 2) .nil) fun a E=>pls E S [iv x.f0,iv x.f1,iv x.f2,iv x.f3,.slice (pb b11) x.f4.length c0_4,.slice A0_5 x.f5.length c0_5,.slice A0_6 x.f6.length c0_6] fun u110 hb6 S a E=>plc E (.r 2 1 .nil) fun a E=>pld (hK109 _ _ (wp_ret (qCc ?_))))
    have S:=S.pm [] 3
    rw [hN]at S
    obtain rfl:=si H
    exact rtm E (.b hb6 ag26 sz26 (.t .nil)) ⟨_,rfl,_,_,_,_,_,_,_,rfl,S,g0_5,g0_6⟩
    refine wp_skip (hK83 _ _ (sq fun K111 hK111=>pl0 (plc E (.r 0 1<|.b 1 4 (S.ba 2)<|.r 2 3<|.nil) fun a E=>?_)))
    have S:=S.front 3 rfl
    obtain ⟨t113,h114,H⟩:=bd H
    refine ple E (.cl en132 (qAj.calls x.f4 y (w64 (y+1)) _ _ _ _ _ (Own.left (X:=[row qA.k 68 (.slice (pb b11) x.f4.length c0_4) x.f4]) S.own) h114)) ?_
    rintro _ u112 a ⟨F115,A116,c117,rfl,hC⟩ E
    have hs:=hC.sub
    have S:=S.called (X:=[row qA.k 68 (.slice (pb b11) x.f4.length c0_4) x.f4]) hC
    have g0_5:=g0_5.mono hs
    have g0_6:=g0_6.mono hs
    refine plc E (.r 6 1 .nil) fun a E=>?_
    have S:=S.front 3 rfl
    refine pls E S [iv x.f0,iv x.f1,iv x.f2,iv x.f3,.slice A116 t113.length c117,.slice A0_5 x.f5.length c0_5,.slice A0_6 x.f6.length c0_6] fun u120 hb2 S a E=>pld (hK111 _ _ (sq fun K121 hK121=>pl0 (plc E (.bn 0 0 7 hb2 .nil) fun a E=>?_)))
    have S:=S.front 2 rfl
    refine pls E S [iv x.f0,iv x.f1,iv x.f2,iv x.f3,.slice A116 t113.length c117,.slice A0_5 x.f5.length c0_5,.slice A0_6 x.f6.length c0_6] fun u122 hb6 S a E=>plc E (.r 2 1 .nil) fun a E=>pld (hK121 _ _ (wp_ret ?_))
    have S:=S.pm [2] 4
    rw [hN]at S
    obtain rfl:=si H
    exact rtm E (.b hb6 ag26 sz26 (.t .nil)) ⟨_,rfl,_,_,_,_,_,_,_,rfl,S,g0_5,g0_6⟩
   refine pl0 ?_
   obtain ⟨cs85,rfl,hc86⟩:=qCh (S.row_at (i:=3) rfl) qA.z y c9.1 c9.2
   refine plc E (.r 0 3<|.c 3 (hc86 4 _ rfl)<|.r 4 1<|.nil) fun a E=>E.fb 67 H (fun c87 E H=>?_) fun c87 E H=>?_
   refine plc E (.r 5 21 .nil) fun a E=>pld ?_
   exact J106 _ (by omega) _ true _ _ E .of S H
   obtain ⟨cs88,rfl,hc89⟩:=qCh (S.row_at (i:=3) rfl) qA.z y c9.1 c9.2
   refine plc E (.r 5 3<|.c 8 (hc89 5 _ rfl)<|.r 9 1<|.nil) fun a E=>E.fb 72 H (fun c90 E H=>?_) fun c90 E H=>?_
   obtain ⟨cs91,rfl,hc92⟩:=qCh (S.row_at (i:=3) rfl) qA.z y c9.1 c9.2
   refine plc E (.r 10 3<|.c 13 (hc92 3 _ rfl)<|.r 14 4<|.nil) fun a E=>E.fk 80 H (fun c93 E H=>?_) fun c93 E H=>?_
   refine plc E (.r 18 8 .nil) fun a E=>pld ?_
   exact J106 _ (by omega) _ true _ _ E .of S H
   refine plc E (.r 18 3 .nil) fun a E=>E.fb 83 H (fun c94 E H=>?_) fun c94 E H=>?_
   refine plc E (.r 21 5 .nil) fun a E=>pld ?_
   exact J106 _ (by omega) _ true _ _ E .of S H
   refine plc E (.bn 21 0 7 (S.ba 2)<|.r 22 1<|.b 23 1 (S.ba 1)<|.nil) fun a E=>?_
   obtain ⟨t96,h97,H⟩:=bd H
   refine plq E S en131 (qBs.calls k66 x z.f1 _ _ _ _ _ _ _ _ _ (Sub.refl _) (S.rd_at (i:=3) rfl) (g0_5.mono S.own.sub) (g0_6.mono S.own.sub) h97) fun u95 S a E=>plc E (.r 25 1 .nil) fun a E=>pld ?_
   exact J106 _ (by omega) _ t96 _ _ E .of S H
   refine plc E (.r 10 11 .nil) fun a E=>E.fb 83 H (fun c98 E H=>?_) fun c98 E H=>?_
   refine plc E (.r 21 5 .nil) fun a E=>pld ?_
   exact J106 _ (by omega) _ true _ _ E .of S H
   refine plc E (.bn 21 0 7 (S.ba 2)<|.r 22 1<|.b 23 1 (S.ba 1)<|.nil) fun a E=>?_
   obtain ⟨t100,h101,H⟩:=bd H
   refine plq E S en131 (qBs.calls k66 x z.f1 _ _ _ _ _ _ _ _ _ (Sub.refl _) (S.rd_at (i:=3) rfl) (g0_5.mono S.own.sub) (g0_6.mono S.own.sub) h101) fun u99 S a E=>plc E (.r 25 1 .nil) fun a E=>pld ?_
   exact J106 _ (by omega) _ t100 _ _ E .of S H
  refine rr E fun a E=>(E.ik 48 H (fun c62 E H=>?_) fun c62 E H=>?_)
  refine wp_skip ?_
  exact J67 _ (by omega) _ true _ _ E .of S H
  refine pl0 (plc E (.r 0 2 .nil) fun a E=>pld ?_)
  exact J67 _ (by omega) _ (z.f0 == 6) _ _ E .of S H
 refine rr E fun a E=>(E.ik 37 H (fun c43 E H=>?_) fun c43 E H=>?_)
 refine wp_skip ?_
 exact J48 _ (by omega) _ true _ _ E .of S H
 refine pl0 (plc E (.r 0 2 .nil) fun a E=>pld ?_)
 exact J48 _ (by omega) _ (z.f0 == 4) _ _ E .of S H
def qBv.f(k:Nat)(x:qD)(y:qF):Option (qD × Int):=if y.f0=1 then ((qCV.f k x y).bind fun t18=>(some (t18.1,t18.2))) else (if y.f0=8 then ((qAs.f k x y).bind fun t42=>(some (t42.1,t42.2))) else (if y.f0=9 then (some (x,0)) else (if y.f0=10 then ((qCK.f x y).bind fun t76=>(some (t76.1,t76.2))) else ((qCW.f k x y.f1).bind fun t94=>(if t94.2=true then ((qAq.f k x t94.1 y).bind fun t113=>(some (t113.1,t113.2))) else (some (x,5)))))))
def qBv.Post(x:qD)(y:qF)(A0_4:OA)(c0_4:Nat)(A0_5:OA)(c0_5:Nat)(A0_6:OA)(c0_6:Nat)(A1_6:OA)(c1_6:Nat)(W F:World)(r:qD × Int)(v:Value)(w':World):Prop:=∃(F':World)(RA0_4:OA)(rc0_4:Nat)(RA0_5:OA)(rc0_5:Nat)(RA0_6:OA)(rc0_6:Nat),v = .tuple #[.agg (mA r.1 RA0_4 rc0_4 RA0_5 rc0_5 RA0_6 rc0_6),iv r.2]/\St W (mine W [row qA.k 68 (.slice A0_4 x.f4.length c0_4) x.f4,row qE.k 75 (.slice A0_5 x.f5.length c0_5) x.f5,row qC.k 73 (.slice A0_6 x.f6.length c0_6) x.f6]) F w' F' []/\Rd qA.k F' RA0_4 rc0_4 r.1.f4/\Rd qE.k F' RA0_5 rc0_5 r.1.f5/\Rd qC.k F' RA0_6 rc0_6 r.1.f6
theorem qBv.calls(k:Nat)(x:qD)(y:qF)(A0_4:OA)(c0_4:Nat)(A0_5:OA)(c0_5:Nat)(A0_6:OA)(c0_6:Nat)(A1_6:OA)(c1_6:Nat)(r:qD × Int)(W F:World)(hown:Own W F [row qA.k 68 (.slice A0_4 x.f4.length c0_4) x.f4,row qE.k 75 (.slice A0_5 x.f5.length c0_5) x.f5,row qC.k 73 (.slice A0_6 x.f6.length c0_6) x.f6])(g1_6:Rd ki F A1_6 c1_6 y.f6)(H:qBv.f k x y=some r):
    Cr 70 #[.agg (mA x A0_4 c0_4 A0_5 c0_5 A0_6 c0_6),.agg (dA y A1_6 c1_6)] W (qBv.Post x y A0_4 c0_4 A0_5 c0_5 A0_6 c0_6 A1_6 c1_6 W F r):=by
 have S:=St.start hown
 obtain ⟨N,hN⟩:∃ N,N=mine W [row qA.k 68 (.slice A0_4 x.f4.length c0_4) x.f4,row qE.k 75 (.slice A0_5 x.f5.length c0_5) x.f5,row qC.k 73 (.slice A0_6 x.f6.length c0_6) x.f6]:=⟨_,rfl⟩
 rw [← hN]at S
 unfold qBv.f at H
 refine ent 50 rfl rfl rfl fun a E=>?_
 refine sq fun K1 hK1=>pl0 (plx (t:=26) E S (mL x A0_4 c0_4 A0_5 c0_5 A0_6 c0_6) fun b2 u3 hb2 S a E=>plx (t:=29) E S (dL y A1_6 c1_6) fun b4 u5 hb4 S a E=>pla (t:=26) E S [iv 0,iv 0,iv 0,iv 0,.slice none 0 0,.slice none 0 0,.slice none 0 0] fun b6 u7 hb6 S a E=>plc E (.r 3 1 .nil) fun a E=>pld (hK1 _ _ (sq fun K8 hK8=>sq fun K9 hK9=>pl0 ?_)))
 have hb4:=S.ba 1
 refine plc E (.r 0 1<|.b 1 0 hb4<|.nil) fun a E=>pld (hK9 _ _ (wp_block (rr E fun a E=>(E.ik 10 H (fun c11 E H=>?_) fun c11 E H=>?_))))
 refine sq fun K12 hK12=>pl0 (plc E (.bn 0 0 7 (S.ba 2)<|.bn 1 0 7 hb4<|.nil) fun a E=>?_)
 have S:=S.front 4 rfl
 obtain ⟨F13,hs,g14,S⟩:=S.give
 have g1_6:=g1_6.mono hs
 have S:=S.front 4 rfl
 obtain ⟨F15,hs,g16,S⟩:=S.give
 have g14:=g14.mono hs
 have g1_6:=g1_6.mono hs
 have S:=S.front 3 rfl
 obtain ⟨t18,h19,H⟩:=bd H
 refine ple E (.cl en100 (qCV.calls k x y _ _ _ _ _ _ _ _ _ _ _ (Own.left (X:=[row qA.k 68 (.slice A0_4 x.f4.length c0_4) x.f4]) S.own) g14 g16 g1_6 h19)) ?_
 rintro _ u17 a ⟨F20,A21,c22,A25,c26,A28,c29,rfl,hC,g27,g30⟩ E
 have hs:=hC.sub
 have S:=S.called (X:=[row qA.k 68 (.slice A0_4 x.f4.length c0_4) x.f4]) hC
 have g1_6:=g1_6.mono hs
 refine plc E (.r 3 2 .nil) fun a E=>?_
 have S:=S.front 1 rfl
 refine pls E S (mL t18.1 A21 c22 A25 c26 A28 c29) fun u31 hb6 S a E=>plc E (.r 6 1 .nil) fun a E=>pld (hK12 _ _ (wp_ret (qCd (qCc ?_))))
 have S:=S.front 1 rfl
 obtain ⟨F32,hs,g33,S⟩:=S.give
 have g1_6:=g1_6.mono hs
 have g27:=g27.mono hs
 have g30:=g30.mono hs
 have S:=S.pm [] 3
 rw [hN]at S
 obtain rfl:=si H
 exact rtm E (.b hb6 ag26 sz26 (.t .nil)) ⟨_,rfl,_,_,_,_,_,_,_,rfl,S,g33,g27,g30⟩
 refine rr E fun a E=>(E.ik 17 H (fun c35 E H=>?_) fun c35 E H=>?_)
 refine sq fun K36 hK36=>pl0 (plc E (.bn 0 0 7 (S.ba 2)<|.bn 1 0 7 hb4<|.nil) fun a E=>?_)
 have S:=S.front 3 rfl
 obtain ⟨F37,hs,g38,S⟩:=S.give
 have g1_6:=g1_6.mono hs
 have S:=S.front 4 rfl
 obtain ⟨F39,hs,g40,S⟩:=S.give
 have g38:=g38.mono hs
 have g1_6:=g1_6.mono hs
 have S:=S.front 3 rfl
 obtain ⟨t42,h43,H⟩:=bd H
 refine ple E (.cl en101 (qAs.calls k x y _ _ _ _ _ _ _ _ _ _ _ (Own.left (X:=[row qE.k 75 (.slice A0_5 x.f5.length c0_5) x.f5]) S.own) g38 g40 g1_6 h43)) ?_
 rintro _ u41 a ⟨F44,A45,c46,A48,c49,A52,c53,rfl,hC,g47,g54⟩ E
 have hs:=hC.sub
 have S:=S.called (X:=[row qE.k 75 (.slice A0_5 x.f5.length c0_5) x.f5]) hC
 have g1_6:=g1_6.mono hs
 refine plc E (.r 3 2 .nil) fun a E=>?_
 have S:=S.front 1 rfl
 refine pls E S (mL t42.1 A45 c46 A48 c49 A52 c53) fun u55 hb6 S a E=>plc E (.r 6 1 .nil) fun a E=>pld (hK36 _ _ (wp_ret (qCd (qCc ?_))))
 have S:=S.front 1 rfl
 obtain ⟨F56,hs,g57,S⟩:=S.give
 have g1_6:=g1_6.mono hs
 have g47:=g47.mono hs
 have g54:=g54.mono hs
 have S:=S.pm [] 3
 rw [hN]at S
 obtain rfl:=si H
 exact rtm E (.b hb6 ag26 sz26 (.t .nil)) ⟨_,rfl,_,_,_,_,_,_,_,rfl,S,g47,g57,g54⟩
 refine rr E fun a E=>(E.ik 24 H (fun c59 E H=>?_) fun c59 E H=>?_)
 refine sq fun K60 hK60=>pl0 (plc E (.bn 0 0 7 (S.ba 2) .nil) fun a E=>pls E S (mL x A0_4 c0_4 A0_5 c0_5 A0_6 c0_6) fun u61 hb6 S a E=>plc E (.r 2 1 .nil) fun a E=>pld (hK60 _ _ (wp_ret (qCd (qCc ?_)))))
 have S:=S.front 3 rfl
 obtain ⟨F62,hs,g63,S⟩:=S.give
 have g1_6:=g1_6.mono hs
 have S:=S.front 3 rfl
 obtain ⟨F64,hs,g65,S⟩:=S.give
 have g63:=g63.mono hs
 have g1_6:=g1_6.mono hs
 have S:=S.front 3 rfl
 obtain ⟨F66,hs,g67,S⟩:=S.give
 have g63:=g63.mono hs
 have g65:=g65.mono hs
 have g1_6:=g1_6.mono hs
 have S:=S.pm [] 3
 rw [hN]at S
 obtain rfl:=si H
 exact rtm E (.b hb6 ag26 sz26 (.t .nil)) ⟨_,rfl,_,_,_,_,_,_,_,rfl,S,g63,g65,g67⟩
 refine rr E fun a E=>(E.ik 27 H (fun c69 E H=>?_) fun c69 E H=>?_)
 refine sq fun K70 hK70=>pl0 (plc E (.bn 0 0 7 (S.ba 2)<|.bn 1 0 7 hb4<|.nil) fun a E=>?_)
 have S:=S.front 3 rfl
 obtain ⟨F71,hs,g72,S⟩:=S.give
 have g1_6:=g1_6.mono hs
 have S:=S.front 3 rfl
 obtain ⟨F73,hs,g74,S⟩:=S.give
 have g72:=g72.mono hs
 have g1_6:=g1_6.mono hs
 have S:=S.front 3 rfl
 obtain ⟨t76,h77,H⟩:=bd H
 refine ple E (.cl en102 (qCK.calls x y _ _ _ _ _ _ _ _ _ _ _ (Own.left (X:=[row qC.k 73 (.slice A0_6 x.f6.length c0_6) x.f6]) S.own) g72 g74 g1_6 h77)) ?_
 rintro _ u75 a ⟨F78,A79,c80,A82,c83,A85,c86,rfl,hC,g81,g84⟩ E
 have hs:=hC.sub
 have S:=S.called (X:=[row qC.k 73 (.slice A0_6 x.f6.length c0_6) x.f6]) hC
 have g1_6:=g1_6.mono hs
 refine plc E (.r 3 2 .nil) fun a E=>?_
 have S:=S.front 1 rfl
 refine pls E S (mL t76.1 A79 c80 A82 c83 A85 c86) fun u89 hb6 S a E=>plc E (.r 6 1 .nil) fun a E=>pld (hK70 _ _ (wp_ret (qCd (qCc ?_))))
 have S:=S.front 1 rfl
 obtain ⟨F90,hs,g91,S⟩:=S.give
 have g1_6:=g1_6.mono hs
 have g81:=g81.mono hs
 have g84:=g84.mono hs
 have S:=S.pm [] 3
 rw [hN]at S
 obtain rfl:=si H
 exact rtm E (.b hb6 ag26 sz26 (.t .nil)) ⟨_,rfl,_,_,_,_,_,_,_,rfl,S,g81,g84,g91⟩
 refine wp_skip ?_
 refine qCe ?_
 refine hK8 _ _ (sq fun K92 hK92=>pl0 ?_)
 have hb2:=S.ba 2
 refine plc E (.bn 0 0 7 hb2<|.r 1 1<|.b 2 1 hb4<|.nil) fun a E=>?_
 obtain ⟨t94,h95,H⟩:=bd H
 refine plq E S en103 (qCW.calls k x y.f1 _ _ _ _ _ _ _ _ _ (Sub.refl _) (S.rd_at (i:=3) rfl) (S.rd_at (i:=4) rfl) (S.rd_at (i:=5) rfl) h95) fun u93 S a E=>plc E (.r 4 5 .nil) fun a E=>pld (hK92 _ _ (sq fun K96 hK96=>rr E fun a E=>(E.ibn 42 H (fun c98 E H=>?_) fun c98 E H=>?_)))
 refine wp_skip (hK96 _ _ (sq fun K107 hK107=>pl0 (plc E (.bn 0 0 7 (S.ba 2)<|.r 1 1<|.bn 2 0 7 (S.ba 1)<|.nil) fun a E=>?_)))
 have S:=S.front 4 rfl
 obtain ⟨F108,hs,g109,S⟩:=S.give
 have g1_6:=g1_6.mono hs
 have S:=S.front 4 rfl
 obtain ⟨F110,hs,g111,S⟩:=S.give
 have g109:=g109.mono hs
 have g1_6:=g1_6.mono hs
 have S:=S.front 3 rfl
 obtain ⟨t113,h114,H⟩:=bd H
 refine ple E (.cl en104 (qAq.calls k x t94.1 y _ _ _ _ _ _ _ _ _ _ _ (Own.left (X:=[row qA.k 68 (.slice A0_4 x.f4.length c0_4) x.f4]) S.own) g109 g111 g1_6 h114)) ?_
 rintro _ u112 a ⟨F115,A116,c117,A120,c121,A123,c124,rfl,hC,g122,g125⟩ E
 have hs:=hC.sub
 have S:=S.called (X:=[row qA.k 68 (.slice A0_4 x.f4.length c0_4) x.f4]) hC
 refine plc E (.r 4 2 .nil) fun a E=>?_
 have S:=S.front 1 rfl
 refine pls E S (mL t113.1 A116 c117 A120 c121 A123 c124) fun u126 hb6 S a E=>plc E (.r 7 1 .nil) fun a E=>pld (hK107 _ _ (wp_ret ?_))
 have S:=S.front 1 rfl
 obtain ⟨F127,hs,g128,S⟩:=S.give
 have g122:=g122.mono hs
 have g125:=g125.mono hs
 have S:=S.pm [] 3
 rw [hN]at S
 obtain rfl:=si H
 exact rtm E (.b hb6 ag26 sz26 (.t .nil)) ⟨_,rfl,_,_,_,_,_,_,_,rfl,S,g128,g122,g125⟩
 refine sq fun K99 hK99=>pl0 (plc E (.bn 0 0 7 (S.ba 2) .nil) fun a E=>pls E S (mL x A0_4 c0_4 A0_5 c0_5 A0_6 c0_6) fun u100 hb6 S a E=>plc E (.r 2 1 .nil) fun a E=>pld (hK99 _ _ (wp_ret (qCc ?_))))
 have S:=S.front 3 rfl
 obtain ⟨F101,hs,g102,S⟩:=S.give
 have S:=S.front 3 rfl
 obtain ⟨F103,hs,g104,S⟩:=S.give
 have g102:=g102.mono hs
 have S:=S.front 3 rfl
 obtain ⟨F105,hs,g106,S⟩:=S.give
 have g102:=g102.mono hs
 have g104:=g104.mono hs
 have S:=S.pm [] 3
 rw [hN]at S
 obtain rfl:=si H
 exact rtm E (.b hb6 ag26 sz26 (.t .nil)) ⟨_,rfl,_,_,_,_,_,_,_,rfl,S,g102,g104,g106⟩
def qBp.f(x:qA)(y:Int):Option Int:=(qBB.f x.f0 y).bind fun t6=>(some t6)
def qBp.Post(W F:World)(r:Int)(v:Value)(w':World):Prop:=∃(F':World),v=iv r/\Sm W F w' F' []
theorem qBp.calls(x:qA)(y:Int)(r:Int)(W F:World)(hown:Sub F W)(H:qBp.f x y=some r):
    Cr 89 #[.agg (nA x),iv y] W (qBp.Post W F r):=by
 have S:=sT hown
 unfold qBp.f at H
 refine ent 9 rfl rfl rfl fun a E=>?_
 refine sq fun K1 hK1=>pl0 (plx (t:=68) E S (nL x) fun b2 u3 hb2 S a E=>plc E (.r 1 1 .nil) fun a E=>pld (hK1 _ _ (sq fun K4 hK4=>pl0 (plc E (.r 0 1<|.b 1 0 hb2<|.r 2 1<|.nil) fun a E=>?_))))
 obtain ⟨t6,h7,H⟩:=bd H
 refine plq E S en90 (qBB.calls x.f0 y _ _ _ S.own.sub h7) fun u5 S a E=>plc E (.r 4 1 .nil) fun a E=>pld (hK4 _ _ (wp_ret ?_))
 have S:=S.tail
 obtain rfl:=si H
 exact rt1 E ⟨_,rfl,_,rfl,S⟩
def qP.l7:Nat->List qA->Int->Int->Int->Option (Int × Bool)
 | 0,_,_,_,_=>none
 | k+1,x,y,x5,x6=>if x5<x6 then (if 0<=(w64 ((IntKind.u64.wrap (w64 (x5+x6))).fdiv 2))/\(w64 ((IntKind.u64.wrap (w64 (x5+x6))).fdiv 2))<(x.length:Int) then ((qBp.f (nth qA.z x (w64 ((IntKind.u64.wrap (w64 (x5+x6))).fdiv 2))) y).bind fun t22=>(if t22<0 then (qP.l7 k x y (w64 ((w64 ((IntKind.u64.wrap (w64 (x5+x6))).fdiv 2))+1)) x6) else (qP.l7 k x y x5 (w64 ((IntKind.u64.wrap (w64 (x5+x6))).fdiv 2))))) else (none)) else (if x5<(x.length:Int) then (if 0<=x5/\x5<(x.length:Int) then ((qBp.f (nth qA.z x x5) y).bind fun t33=>(some (x5,(t33 == 0)))) else (none)) else (some (x5,false)))
theorem qP.l7_s k x y x5 x6:type_of% (qP.l7.eq_2 x y x5 x6 k):=qP.l7.eq_2 x y x5 x6 k
def qP.f(k:Nat)(x:List qA)(y:Int):Option (Int × Bool):=qP.l7 k x y 0 (x.length:Int)
def qP.Post(W F:World)(r:Int × Bool)(v:Value)(w':World):Prop:=∃(F':World),v = .tuple #[iv r.1,.bool r.2]/\Sm W F w' F' []
theorem qP.calls(k:Nat)(x:List qA)(y:Int)(A0_0:OA)(c0_0:Nat)(r:Int × Bool)(W F:World)(hown:Sub F W)(g0_0:Rd qA.k F A0_0 c0_0 x)(H:qP.f k x y=some r):
    Cr 88 #[.slice A0_0 x.length c0_0,iv y,.func (.func 89) #[] #[]] W (qP.Post W F r):=by
 have S:=sT hown
 unfold qP.f at H
 refine ent 49 rfl rfl rfl fun a E=>?_
 refine rr E fun a E=>(rr E fun a E=>(rr E fun a E=>(sq fun K4 hK4=>wp_block ?_)))
 refine wp_loop_ghost (fun kq8 a w'=>∃(G:NV)(x5:Int)(x6:Int),kq8<=k/\Env 49 G a/\At G [(0,.slice A0_0 x.length c0_0),(1,iv y),(2,.func (.func 89) #[] #[]),(8,iv (x.length:Int)),(9,iv x5),(10,iv x6)]/\Sm W F w' F []/\qP.l7 kq8 x y x5 x6=some r) k ⟨_,0,(x.length:Int),Nat.le_refl _,E,.of,S,H⟩ ?_
 rintro kq8 a u10 ⟨G,x5,x6,hkq,E,A,S,H⟩
 obtain _ | k9:=kq8
 exact zz H
 rw [qP.l7_s]at H
 obtain ⟨J,E⟩:=E.at A
 refine sq fun K11 hK11=>rr E fun a E=>(E.ik 17 H (fun c13 E H=>?_) fun c13 E H=>?_)
 refine wp_skip (hK11 _ _ (wp_block (rr E fun a E=>(sq fun K15 hK15=>pl0 ?_))))
 obtain ⟨c16,H⟩:=gd H
 have hE_:=E
 obtain ⟨ad17,rfl⟩:=g0_0.addr c16.1 c16.2
 replace E:=hE_
 obtain ⟨cs19,rfl,hc20⟩:=g0_0.el qA.z (w64 ((IntKind.u64.wrap (w64 (x5+x6))).fdiv 2)) c16.1 c16.2
 refine plc E (.r 0 3<|.x 3 c16<|.cs 4 (S.fcs hc20)<|.r 5 1<|.nil) fun a E=>?_
 obtain ⟨t22,h23,H⟩:=bd H
 refine plq E S en89 (qBp.calls (nth qA.z x (w64 ((IntKind.u64.wrap (w64 (x5+x6))).fdiv 2))) y _ _ _ S.own.sub h23) fun u21 S a E=>plc E (.r 7 1 .nil) fun a E=>pld (hK15 _ _ (E.ik 31 H (fun c24 E H=>?_) fun c24 E H=>?_))
 refine pl0 (plc E (.r 0 3 .nil) fun a E=>pld ?_)
 refine qCe ?_
 exact qCf ⟨k9,by omega,_,(w64 ((w64 ((IntKind.u64.wrap (w64 (x5+x6))).fdiv 2))+1)),x6,by omega,E,.of,S,H⟩
 refine pl0 (plc E (.r 0 2 .nil) fun a E=>pld ?_)
 refine qCe ?_
 exact qCf ⟨k9,by omega,_,x5,(w64 ((IntKind.u64.wrap (w64 (x5+x6))).fdiv 2)),by omega,E,.of,S,H⟩
 refine wp_exit ?_
 refine hK4 _ _ (sq fun K25 hK25=>pl0 (plc E (.r 0 5 .nil) fun a E=>E.fk 39 H (fun c26 E H=>?_) fun c26 E H=>?_))
 obtain ⟨c27,H⟩:=gd H
 have hE_:=E
 obtain ⟨ad28,rfl⟩:=g0_0.addr c27.1 c27.2
 replace E:=hE_
 obtain ⟨cs30,rfl,hc31⟩:=g0_0.el qA.z x5 c27.1 c27.2
 refine plc E (.r 5 3<|.x 8 c27<|.cs 9 (S.fcs hc31)<|.r 10 1<|.nil) fun a E=>?_
 obtain ⟨t33,h34,H⟩:=bd H
 refine plq E S en89 (qBp.calls (nth qA.z x x5) y _ _ _ S.own.sub h34) fun u32 S a E=>plc E (.r 12 4 .nil) fun a E=>pld (hK25 _ _ (wp_ret ?_))
 obtain rfl:=si H
 exact rtN E ⟨_,rfl,_,rfl,S⟩
 refine plc E (.r 5 11 .nil) fun a E=>pld (hK25 _ _ (wp_ret ?_))
 obtain rfl:=si H
 exact rtN E ⟨_,rfl,_,rfl,S⟩
def qBN.j15:Nat->List qA->Int × Bool->Bool->Option (qA × Bool)
 | 0,_,_,_=>none
 | k+1,x,t6,y14=>if y14=true then (some ((⟨0,0,0,0,false,false⟩:qA),false)) else (if 0<=t6.1/\t6.1<(x.length:Int) then (some ((nth qA.z x t6.1),true)) else (none))
theorem qBN.j15_s k x t6 y14:type_of% (qBN.j15.eq_2 x t6 y14 k):=qBN.j15.eq_2 x t6 y14 k
def qBN.f(k:Nat)(x:List qA)(y:Int):Option (qA × Bool):=(qP.f k x y).bind fun t6=>(if t6.2=true then ((qAU.f k x).bind fun t12=>(qBN.j15 k x t6 (!(t12 == 0)))) else (qBN.j15 k x t6 true))
def qBN.Post(W F:World)(r:qA × Bool)(v:Value)(w':World):Prop:=∃(F':World),v = .tuple #[.agg (nA r.1),.bool r.2]/\Sm W F w' F' []
theorem qBN.calls(k:Nat)(x:List qA)(y:Int)(A0_0:OA)(c0_0:Nat)(r:qA × Bool)(W F:World)(hown:Sub F W)(g0_0:Rd qA.k F A0_0 c0_0 x)(H:qBN.f k x y=some r):
    Cr 59 #[.slice A0_0 x.length c0_0,iv y] W (qBN.Post W F r):=by
 have S:=sT hown
 unfold qBN.f at H
 refine ent 26 rfl rfl rfl fun a E=>?_
 refine sq fun K1 hK1=>pl0 (pla (t:=68) E S [iv 0,iv 0,iv 0,iv 0,.bool false,.bool false] fun b2 u3 hb2 S a E=>plc E (.r 1 1 .nil) fun a E=>pld (hK1 _ _ (sq fun K4 hK4=>pl0 (plc E (.r 0 2 .nil) fun a E=>?_))))
 obtain ⟨t6,h7,H⟩:=bd H
 refine plq E S en88 (qP.calls k x y _ _ _ _ _ S.own.sub g0_0 h7) fun u5 S a E=>plc E (.r 3 5 .nil) fun a E=>pld (hK4 _ _ (sq fun K8 hK8=>sq fun K9 hK9=>?_))
 have J18:∀ kq16,kq16<=k->∀(G:NV)(y14:Bool)(a:Act)(w':World),Env 26 G a->At G [(0,.slice A0_0 x.length c0_0),(4,.pointer (pb b2)),(6,iv t6.1),(20,.bool y14)]->Sm W F w' F [box b2 #[iv 0,iv 0,iv 0,iv 0,.bool false,.bool false] 68]->qBN.j15 kq16 x t6 y14=some r->K9 a w':=by
  intro kq16 hkq G y14 a u19 E A S H
  obtain _ | k17:=kq16
  exact zz H
  rw [qBN.j15_s]at H
  obtain ⟨J,E⟩:=E.at A
  refine hK9 _ _ (E.ib 20 H (fun c20 E H=>?_) fun c20 E H=>?_)
  refine sq fun K21 hK21=>pl0 (plc E (.r 0 1 .nil) fun a E=>pls E S [iv 0,iv 0,iv 0,iv 0,.bool false,.bool false] fun u22 hb2 S a E=>plc E (.r 2 1 .nil) fun a E=>pld (hK21 _ _ (wp_ret (qCc ?_))))
  have S:=S.tail
  obtain rfl:=si H
  exact rtm E (.b hb2 ag68 sz68 (.t .nil)) ⟨_,rfl,_,rfl,S⟩
  refine wp_skip (hK8 _ _ (sq fun K23 hK23=>pl0 ?_))
  obtain ⟨c24,H⟩:=gd H
  have hE_:=E
  obtain ⟨ad25,rfl⟩:=g0_0.addr c24.1 c24.2
  replace E:=hE_
  obtain ⟨cs27,rfl,hc28⟩:=g0_0.el qA.z t6.1 c24.1 c24.2
  refine plc E (.r 0 2<|.x 2 c24<|.cs 3 (S.fcs hc28)<|.nil) fun a E=>pls E S (nL (nth qA.z x t6.1)) fun u29 hb2 S a E=>plc E (.r 5 1 .nil) fun a E=>pld (hK23 _ _ (wp_ret ?_))
  have S:=S.tail
  obtain rfl:=si H
  exact rtm E (.b hb2 ag68 sz68 (.t .nil)) ⟨_,rfl,_,rfl,S⟩
 refine pl0 (plc E (.r 0 3 .nil) fun a E=>E.fbn 16 H (fun c10 E H=>?_) fun c10 E H=>?_)
 refine plc E (.r 3 1 .nil) fun a E=>?_
 obtain ⟨t12,h13,H⟩:=bd H
 refine plq E S en74 (qAU.calls k x _ _ _ _ _ S.own.sub g0_0 h13) fun u11 S a E=>plc E (.r 5 2 .nil) fun a E=>pld ?_
 exact J18 _ (by omega) _ (!(t12 == 0)) _ _ E .of S H
 refine plc E (.r 3 4 .nil) fun a E=>pld ?_
 exact J18 _ (by omega) _ true _ _ E .of S H
def qBx.f(k:Nat)(x:Int)(xf0_:qD):Option Bool:=(qBN.f k xf0_.f4 x).bind fun t4=>(some (!t4.1.f4))
def qBx.Post(W F:World)(r:Bool)(v:Value)(w':World):Prop:=∃(F':World),v = .bool r/\Sm W F w' F' []
theorem qBx.calls(k:Nat)(x:Int)(xf0_:qD)(pf0_:Nat)(Af0_4:OA)(cf0_4:Nat)(Af0_5:OA)(cf0_5:Nat)(Af0_6:OA)(cf0_6:Nat)(r:Bool)(W F:World)(hown:Sub F W)(gf0_4:Rd qA.k F Af0_4 cf0_4 xf0_.f4)(gf0_5:Rd qE.k F Af0_5 cf0_5 xf0_.f5)(gf0_6:Rd qC.k F Af0_6 cf0_6 xf0_.f6)(hpf0_:F.heap[pf0_]? = some (.cells (mA xf0_ Af0_4 cf0_4 Af0_5 cf0_5 Af0_6 cf0_6) 26 (0,0)))(H:qBx.f k x xf0_=some r):
    Cr 110 #[iv x,.pointer (pb pf0_)] W (qBx.Post W F r):=by
 have S:=sT hown
 unfold qBx.f at H
 refine ent 16 rfl rfl rfl fun a E=>?_
 refine rr E fun a E=>(sq fun K2 hK2=>pl0 (plc E (.r 0 1<|.b 1 4 (S.own.sub _ _ _ _ hpf0_)<|.r 2 1<|.nil) fun a E=>?_))
 obtain ⟨t4,h5,H⟩:=bd H
 refine plq E S en59 (qBN.calls k xf0_.f4 x _ _ _ _ _ S.own.sub gf0_4 h5) fun u3 S a E=>plc E (.r 4 3 .nil) fun a E=>pla (t:=68) E S [iv 0,iv 0,iv 0,iv 0,.bool false,.bool false] fun b6 u7 hb6 S a E=>pls E S (nL t4.1) fun u8 hb6 S a E=>plc E (.r 9 1 .nil) fun a E=>pld (hK2 _ _ (rg E (.r 0 1<|.b 1 4 hb6<|.r 2 2<|.nil) fun a E=>(wp_ret ?_)))
 have S:=S.tail
 obtain rfl:=si H
 exact rt1 E ⟨_,rfl,_,rfl,S⟩
def qi.l5:Nat->List Int->qD->Int->Option Int
 | 0,_,_,_=>none
 | k+1,x,x1c0_,x4=>if x4<(x.length:Int) then (if 0<=x4/\x4<(x.length:Int) then ((qBx.f k (nth 0 x x4) x1c0_).bind fun t21=>(if t21=true then (some x4) else (qi.l5 k x x1c0_ (w64 (x4+1))))) else (none)) else (some (-1))
theorem qi.l5_s k x x1c0_ x4:type_of% (qi.l5.eq_2 x x1c0_ x4 k):=qi.l5.eq_2 x x1c0_ x4 k
def qi.f(k:Nat)(x:List Int)(x1c0_:qD):Option Int:=qi.l5 k x x1c0_ 0
def qi.Post(W F:World)(r:Int)(v:Value)(w':World):Prop:=∃(F':World),v=iv r/\Sm W F w' F' []
theorem qi.calls(k:Nat)(x:List Int)(x1c0_:qD)(A0_0:OA)(c0_0:Nat)(p1c0_:Nat)(A1c0_4:OA)(c1c0_4:Nat)(A1c0_5:OA)(c1c0_5:Nat)(A1c0_6:OA)(c1c0_6:Nat)(r:Int)(W F:World)(hown:Sub F W)(g0_0:Rd ki F A0_0 c0_0 x)(g1c0_4:Rd qA.k F A1c0_4 c1c0_4 x1c0_.f4)(g1c0_5:Rd qE.k F A1c0_5 c1c0_5 x1c0_.f5)(g1c0_6:Rd qC.k F A1c0_6 c1c0_6 x1c0_.f6)(hp1c0_:F.heap[p1c0_]? = some (.cells (mA x1c0_ A1c0_4 c1c0_4 A1c0_5 c1c0_5 A1c0_6 c1c0_6) 26 (0,0)))(H:qi.f k x x1c0_=some r):
    Cr 72 #[.slice A0_0 x.length c0_0,.func (.func 110) #[] #[.pointer (pb p1c0_)]] W (qi.Post W F r):=by
 have S:=sT hown
 unfold qi.f at H
 refine ent 19 rfl rfl rfl fun a E=>?_
 refine rr E fun a E=>(sq fun K2 hK2=>rr E fun a E=>(wp_block ?_))
 refine wp_loop_ghost (fun kq6 a w'=>∃(G:NV)(x4:Int),kq6<=k/\Env 19 G a/\At G [(0,.slice A0_0 x.length c0_0),(1,.func (.func 110) #[] #[.pointer (pb p1c0_)]),(7,iv (x.length:Int)),(8,iv x4)]/\Sm W F w' F []/\qi.l5 kq6 x x1c0_ x4=some r) k ⟨_,0,Nat.le_refl _,E,.of,S,H⟩ ?_
 rintro kq6 a u8 ⟨G,x4,hkq,E,A,S,H⟩
 obtain _ | k7:=kq6
 exact zz H
 rw [qi.l5_s]at H
 obtain ⟨J,E⟩:=E.at A
 refine rr E fun a E=>(sq fun K10 hK10=>E.ik 9 H (fun c11 E H=>?_) fun c11 E H=>?_)
 refine wp_skip (hK10 _ _ (sq fun K12 hK12=>wp_block (rr E fun a E=>(sq fun K14 hK14=>pl0 ?_))))
 obtain ⟨c15,H⟩:=gd H
 have hE_:=E
 obtain ⟨ad16,rfl⟩:=g0_0.addr c15.1 c15.2
 replace E:=hE_
 obtain ⟨cs18,rfl,hc19⟩:=g0_0.el 0 x4 c15.1 c15.2
 refine plc E (.r 0 3<|.x 3 c15<|.c 4 (S.fc hc19 0)<|.nil) fun a E=>?_
 obtain ⟨t21,h22,H⟩:=bd H
 refine plq E S en110 (qBx.calls k7 (nth 0 x x4) x1c0_ _ _ _ _ _ _ _ _ _ _ S.own.sub g1c0_4 g1c0_5 g1c0_6 hp1c0_ h22) fun u20 S a E=>pld (hK14 _ _ (E.ib 16 H (fun c23 E H=>?_) fun c23 E H=>?_))
 refine rr E fun a E=>(wp_ret (qCd (qCc (qCc (qCd (qCc ?_))))))
 obtain rfl:=si H
 exact rt1 E ⟨_,rfl,_,rfl,S⟩
 refine wp_skip ?_
 refine qCe ?_
 refine hK12 _ _ (pl0 (plc E (.r 0 2 .nil) fun a E=>pld ?_))
 exact qCf ⟨k7,by omega,_,(w64 (x4+1)),by omega,E,.of,S,H⟩
 refine wp_exit ?_
 refine hK2 _ _ (rr E fun a E=>(wp_ret ?_))
 obtain rfl:=si H
 exact rt1 E ⟨_,rfl,_,rfl,S⟩
def qg.l15:Nat->List Int->qD->List Int->Int->Int->Option (List Int)
 | 0,_,_,_,_,_=>none
 | k+1,x,x1c0_,l12,x13,x14=>if x14<(x.length:Int) then (if 0<=x14/\x14<(x.length:Int) then ((qBx.f k (nth 0 l12 x14) x1c0_).bind fun t33=>(if t33=true then (qg.l15 k x x1c0_ l12 x13 (w64 (x14+1))) else (if 0<=x13/\x13<(x.length:Int) then (qg.l15 k x x1c0_ (l12.set (x13).toNat (nth 0 l12 x14)) (w64 (x13+1)) (w64 (x14+1))) else (none)))) else (none)) else (if 0<=x13/\x13<=(x.length:Int) then (some (cutl (l12.take (x13).toNat++List.replicate (x.length - (x13).toNat) 0) 0 x13)) else (none))
theorem qg.l15_s k x x1c0_ l12 x13 x14:type_of% (qg.l15.eq_2 x x1c0_ l12 x13 x14 k):=qg.l15.eq_2 x x1c0_ l12 x13 x14 k
def qg.f(k:Nat)(x:List Int)(x1c0_:qD):Option (List Int):=(qi.f k x x1c0_).bind fun t4=>(if t4=(-1) then (some x) else (qg.l15 k x x1c0_ x t4 (w64 (t4+1))))
def qg.Post(x:List Int)(x1c0_:qD)(A0_0:OA)(c0_0:Nat)(p1c0_:Nat)(A1c0_4:OA)(c1c0_4:Nat)(A1c0_5:OA)(c1c0_5:Nat)(A1c0_6:OA)(c1c0_6:Nat)(W F:World)(r:List Int)(v:Value)(w':World):Prop:=∃(F':World)(RA0_0:OA)(rc0_0:Nat),v = .slice RA0_0 r.length rc0_0/\St W (mine W [row ki 3 (.slice A0_0 x.length c0_0) x]) F w' F' [row ki 3 (.slice RA0_0 r.length rc0_0) r]
theorem qg.calls(k:Nat)(x:List Int)(x1c0_:qD)(A0_0:OA)(c0_0:Nat)(p1c0_:Nat)(A1c0_4:OA)(c1c0_4:Nat)(A1c0_5:OA)(c1c0_5:Nat)(A1c0_6:OA)(c1c0_6:Nat)(r:List Int)(W F:World)(hown:Own W F [row ki 3 (.slice A0_0 x.length c0_0) x])(g1c0_4:Rd qA.k F A1c0_4 c1c0_4 x1c0_.f4)(g1c0_5:Rd qE.k F A1c0_5 c1c0_5 x1c0_.f5)(g1c0_6:Rd qC.k F A1c0_6 c1c0_6 x1c0_.f6)(hp1c0_:F.heap[p1c0_]? = some (.cells (mA x1c0_ A1c0_4 c1c0_4 A1c0_5 c1c0_5 A1c0_6 c1c0_6) 26 (0,0)))(H:qg.f k x x1c0_=some r):
    Cr 109 #[.slice A0_0 x.length c0_0,.func (.func 110) #[] #[.pointer (pb p1c0_)]] W (qg.Post x x1c0_ A0_0 c0_0 p1c0_ A1c0_4 c1c0_4 A1c0_5 c1c0_5 A1c0_6 c1c0_6 W F r):=by
 have S:=St.start hown
 obtain ⟨N,hN⟩:∃ N,N=mine W [row ki 3 (.slice A0_0 x.length c0_0) x]:=⟨_,rfl⟩
 rw [← hN]at S
 unfold qg.f at H
 refine ent 42 rfl rfl rfl fun a E=>?_
 refine rr E fun a E=>(sq fun K2 hK2=>pl0 (plc E (.r 0 2 .nil) fun a E=>?_))
 obtain ⟨t4,h5,H⟩:=bd H
 refine plq E S en72 (qi.calls k x x1c0_ _ _ _ _ _ _ _ _ _ _ _ _ (Sub.refl _) (S.rd_at (i:=0) rfl) (g1c0_4.mono S.own.sub) (g1c0_5.mono S.own.sub) (g1c0_6.mono S.own.sub) (S.own.sub _ _ _ _ hp1c0_) h5) fun u3 S a E=>plc E (.r 3 1 .nil) fun a E=>pld (hK2 _ _ (sq fun K6 hK6=>rr E fun a E=>(E.ik 12 H (fun c8 E H=>?_) fun c8 E H=>?_)))
 refine rr E fun a E=>(wp_ret (qCc ?_))
 rw [hN]at S
 obtain rfl:=si H
 exact rt1 E ⟨_,rfl,_,_,_,rfl,S⟩
 refine wp_skip (hK6 _ _ (sq fun K10 hK10=>rr E fun a E=>(wp_block ?_)))
 refine wp_loop_ghost (fun kq16 a w'=>∃(G:NV)(l12:List Int)(x13:Int)(x14:Int),kq16<=k/\Env 42 G a/\At G [(0,.slice A0_0 x.length c0_0),(1,.func (.func 110) #[] #[.pointer (pb p1c0_)]),(5,iv x13),(6,iv x14)]/\St W N F w' F [row ki 3 (.slice A0_0 x.length c0_0) l12]/\qg.l15 kq16 x x1c0_ l12 x13 x14=some r) k ⟨_,x,t4,(w64 (t4+1)),Nat.le_refl _,E,.of,S,H⟩ ?_
 rintro kq16 a u18 ⟨G,l12,x13,x14,hkq,E,A,S,H⟩
 obtain _ | k17:=kq16
 exact zz H
 rw [qg.l15_s]at H
 obtain ⟨J,E⟩:=E.at A
 refine sq fun K19 hK19=>rr E fun a E=>(E.ik 19 H (fun c21 E H=>?_) fun c21 E H=>?_)
 refine wp_skip (hK19 _ _ (sq fun K22 hK22=>wp_block (sq fun K23 hK23=>pl0 ?_)))
 obtain ⟨c24,H⟩:=gd H
 have hr25:=S.ra 0
 have c26:0<=x14/\x14<(l12.length:Int):=by rw [← (qCg hr25).1]; exact c24
 have hE_:=E
 obtain ⟨b27,rfl⟩:=qCi hr25 c26.1 c26.2
 replace E:=hE_
 have hr_:=S.ra 0
 obtain ⟨cs29,rfl,hc30⟩:=qCh hr_ 0 x14 c26.1 c26.2
 refine plc E (.r 0 2<|.x 2 c24<|.c 3 (hc30 0 _ rfl)<|.r 4 1<|.nil) fun a E=>pld (hK23 _ _ (sq fun K31 hK31=>pl0 (plc E (.r 0 2 .nil) fun a E=>?_)))
 obtain ⟨t33,h34,H⟩:=bd H
 refine plq E S en110 (qBx.calls k17 (nth 0 l12 x14) x1c0_ _ _ _ _ _ _ _ _ _ _ S.own.sub g1c0_4 g1c0_5 g1c0_6 hp1c0_ h34) fun u32 S a E=>plc E (.r 3 1 .nil) fun a E=>pld (hK31 _ _ (E.ibn 29 H (fun c35 E H=>?_) fun c35 E H=>?_))
 refine wp_skip ?_
 refine qCe ?_
 refine hK22 _ _ (pl0 (plc E (.r 0 3 .nil) fun a E=>pld ?_))
 exact qCf ⟨k17,by omega,_,l12,x13,(w64 (x14+1)),by omega,E,.of,S,H⟩
 refine sq fun K36 hK36=>pl0 ?_
 obtain ⟨c37,H⟩:=gd H
 have hr38:=S.ra 0
 have c39:0<=x13/\x13<(l12.length:Int):=by rw [← (qCg hr38).1]; exact c37
 have hr_:=S.ra 0
 obtain ⟨cs41,rfl,hc42⟩:=qCh hr_ 0 x13 c39.1 c39.2
 refine plc E (.r 0 3<|.x 3 c37<|.nil) fun a E=>?_
 obtain ⟨cs44,rfl,hc45⟩:=qCh (S.row_at (i:=0) rfl) 0 x13 c39.1 c39.2
 refine ple E (.set (d:=ki) (n:=x.length) (i:=x13) (nth 0 l12 x14) (0) (ea0 _ _) S c39 [iv (nth 0 l12 x13)] hc45 [iv (nth 0 l12 x14)] rfl) ?_
 rintro _ u43 a ⟨rfl,S,hz⟩ E
 refine pld (hK36 _ _ (pl0 (plc E (.r 0 3 .nil) fun a E=>pld ?_)))
 refine qCe ?_
 refine hK22 _ _ (pl0 (plc E (.r 0 3 .nil) fun a E=>pld ?_))
 exact qCf ⟨k17,by omega,_,(l12.set (x13).toNat (nth 0 l12 x14)),(w64 (x13+1)),(w64 (x14+1)),by omega,E,.of,S,H⟩
 refine wp_exit ?_
 refine hK10 _ _ (sq fun K46 hK46=>pl0 ?_)
 obtain ⟨c47,H⟩:=gd H
 obtain ⟨A48,c49,hA50,hv51⟩:=y_suf (P:=Tryz.prog) (k:=.i64) (S.row_at (i:=0) rfl) c47
 refine plc E (.r 0 2<|.y 2 (hv51 (by kernel_rfl))<|.nil) fun a E=>ple E (.clr (d:=ki) (n:=x.length) (c':=c49) (lo:=x13) 8 0 S c47 hA50 (by rw [zr3]; exact rfl)) ?_
 rintro _ u52 a ⟨rfl,S,hz⟩ E
 refine pld (hK46 _ _ (sq fun K53 hK53=>pl0 ?_))
 have hv54:=S.ra 0
 have S:=S.shrink c47
 refine plc E (.r 0 2<|.y 2 (y_pre (k:=.i64) hv54 c47)<|.r 3 1<|.nil) fun a E=>pld (hK53 _ _ (wp_ret ?_))
 rw [hN]at S
 obtain rfl:=si H
 exact rt1 E ⟨_,rfl,_,_,_,rfl,S⟩
def qCR.f(k:Nat)(x:qD)(y:List Int):Option (List Int):=(qg.f k y x).bind fun t8=>(some t8)
def qCR.Post(x:qD)(y:List Int)(A0_4:OA)(c0_4:Nat)(A0_5:OA)(c0_5:Nat)(A0_6:OA)(c0_6:Nat)(A1_0:OA)(c1_0:Nat)(W F:World)(r:List Int)(v:Value)(w':World):Prop:=∃(F':World)(RA0_0:OA)(rc0_0:Nat),v = .slice RA0_0 r.length rc0_0/\St W (mine W [row ki 3 (.slice A1_0 y.length c1_0) y]) F w' F' [row ki 3 (.slice RA0_0 r.length rc0_0) r]
theorem qCR.calls(k:Nat)(x:qD)(y:List Int)(A0_4:OA)(c0_4:Nat)(A0_5:OA)(c0_5:Nat)(A0_6:OA)(c0_6:Nat)(A1_0:OA)(c1_0:Nat)(r:List Int)(W F:World)(hown:Own W F [row ki 3 (.slice A1_0 y.length c1_0) y])(g0_4:Rd qA.k F A0_4 c0_4 x.f4)(g0_5:Rd qE.k F A0_5 c0_5 x.f5)(g0_6:Rd qC.k F A0_6 c0_6 x.f6)(H:qCR.f k x y=some r):
    Cr 73 #[.agg (mA x A0_4 c0_4 A0_5 c0_5 A0_6 c0_6),.slice A1_0 y.length c1_0] W (qCR.Post x y A0_4 c0_4 A0_5 c0_5 A0_6 c0_6 A1_0 c1_0 W F r):=by
 have S:=St.start hown
 obtain ⟨N,hN⟩:∃ N,N=mine W [row ki 3 (.slice A1_0 y.length c1_0) y]:=⟨_,rfl⟩
 rw [← hN]at S
 unfold qCR.f at H
 refine ent 8 rfl rfl rfl fun a E=>?_
 refine sq fun K1 hK1=>pl0 (plx (t:=26) E S (mL x A0_4 c0_4 A0_5 c0_5 A0_6 c0_6) fun b2 u3 hb2 S a E=>plc E (.r 1 1 .nil) fun a E=>pld (hK1 _ _ (sq fun K4 hK4=>pl0 (plc E (.r 0 2 .nil) fun a E=>?_))))
 obtain ⟨F5,hs,g6,S⟩:=S.giveb
 have g0_4:=g0_4.mono hs
 have g0_5:=g0_5.mono hs
 have g0_6:=g0_6.mono hs
 obtain ⟨t8,h9,H⟩:=bd H
 refine ple E (.cl en109 (qg.calls k y x _ _ _ _ _ _ _ _ _ _ _ _ (Own.left (X:=[row ki 3 (.slice A1_0 y.length c1_0) y]) S.own) g0_4 g0_5 g0_6 g6 h9)) ?_
 rintro _ u7 a ⟨F10,A11,c12,rfl,hC⟩ E
 have S:=S.called (X:=[row ki 3 (.slice A1_0 y.length c1_0) y]) hC
 refine plc E (.r 3 1 .nil) fun a E=>pld (hK4 _ _ (wp_ret ?_))
 rw [hN]at S
 obtain rfl:=si H
 exact rt1 E ⟨_,rfl,_,_,_,rfl,S⟩
def qBV.j23:Nat->Int->qM->Bool->Option (Int × Bool)
 | 0,_,_,_=>none
 | k+1,x,y,y22=>if x=(-1) then (some (y.f1,false)) else (if y22=true then (if y.f2>=1 then (some (y.f1,(decide (y.f2<=12)))) else (some (y.f1,false))) else (some (y.f1,false)))
theorem qBV.j23_s k x y y22:type_of% (qBV.j23.eq_2 x y y22 k):=qBV.j23.eq_2 x y y22 k
def qBV.f(k:Nat)(x:Int)(y:qM):Option (Int × Bool):=if y.f0=1 then (if x=(-1) then (if y.f1=0 then (some (0,(y.f2 == 0))) else (some (0,false))) else (some (0,false))) else (if y.f0=3 then (if x=3 then (if y.f1=0 then (some ((-1),(y.f2 == 0))) else (some ((-1),false))) else (some ((-1),false))) else (if y.f0=2 then (if y.f1>x then (if y.f1<=3 then (if y.f1=2 then (qBV.j23 k x y (x == 1)) else (qBV.j23 k x y true)) else (qBV.j23 k x y false)) else (qBV.j23 k x y false)) else (some ((-1),false))))
def qBV.Post(W F:World)(r:Int × Bool)(v:Value)(w':World):Prop:=∃(F':World),v = .tuple #[iv r.1,.bool r.2]/\Sm W F w' F' []
theorem qBV.calls(k:Nat)(x:Int)(y:qM)(r:Int × Bool)(W F:World)(hown:Sub F W)(H:qBV.f k x y=some r):
    Cr 185 #[iv x,.agg #[iv y.f0,iv y.f1,iv y.f2]] W (qBV.Post W F r):=by
 have S:=sT hown
 unfold qBV.f at H
 refine ent 74 rfl rfl rfl fun a E=>?_
 refine sq fun K1 hK1=>pl0 (plx (t:=143) E S [iv y.f0,iv y.f1,iv y.f2] fun b2 u3 hb2 S a E=>plc E (.r 1 2 .nil) fun a E=>pld (hK1 _ _ (sq fun K4 hK4=>rg E (.r 0 1<|.b 1 0 hb2<|.nil) fun a E=>(wp_block (rr E fun a E=>(E.ik 9 H (fun c7 E H=>?_) fun c7 E H=>?_))))))
 refine sq fun K8 hK8=>?_
 refine drawn 14 ⟨[],[],fun q=>False⟩ mixed rfl (by kernel_rfl) fun hst=>?_
 have S:=S.drew
 refine mny 11 hst E (.r 0 3 .nil) fun a E=>?_
 refine E.fk 13 H (fun c9 E H=>?_) fun c9 E H=>?_
 have hb2:=S.ba 0
 refine mny 5 hst E (.r 3 1<|.b 4 1 hb2<|.r 5 3<|.r 12 1<|.nil) fun a E=>?_
 refine E.fk 18 H (fun c10 E H=>?_) fun c10 E H=>?_
 refine mny 0 hst E (.r 8 1<|.b 9 2 hb2<|.r 10 2<|.r 13 1<|.nil) fun a E=>?_
 refine dn ?_
 refine hK8 _ _ (wp_ret (qCd (qCc ?_)))
 have S:=S.tail
 obtain rfl:=si H
 exact rtN E ⟨_,rfl,_,rfl,S⟩
 refine mny 0 hst E (.r 8 4<|.r 13 1<|.nil) fun a E=>?_
 refine dn ?_
 refine hK8 _ _ (wp_ret (qCd (qCc ?_)))
 have S:=S.tail
 obtain rfl:=si H
 exact rtN E ⟨_,rfl,_,rfl,S⟩
 refine mny 0 hst E (.r 3 11 .nil) fun a E=>?_
 refine dn ?_
 refine hK8 _ _ (wp_ret (qCd (qCc ?_)))
 have S:=S.tail
 obtain rfl:=si H
 exact rtN E ⟨_,rfl,_,rfl,S⟩
 refine rr E fun a E=>(E.ik 23 H (fun c12 E H=>?_) fun c12 E H=>?_)
 refine sq fun K13 hK13=>?_
 refine drawn 14 ⟨[],[],fun q=>False⟩ mixed rfl (by kernel_rfl) fun hst=>?_
 have S:=S.drew
 refine mny 11 hst E (.r 0 3 .nil) fun a E=>?_
 refine E.fk 27 H (fun c14 E H=>?_) fun c14 E H=>?_
 have hb2:=S.ba 0
 refine mny 5 hst E (.r 3 1<|.b 4 1 hb2<|.r 5 3<|.r 12 1<|.nil) fun a E=>?_
 refine E.fk 32 H (fun c15 E H=>?_) fun c15 E H=>?_
 refine mny 0 hst E (.r 8 1<|.b 9 2 hb2<|.r 10 2<|.r 13 1<|.nil) fun a E=>?_
 refine dn ?_
 refine hK13 _ _ (wp_ret (qCd (qCc ?_)))
 have S:=S.tail
 obtain rfl:=si H
 exact rtN E ⟨_,rfl,_,rfl,S⟩
 refine mny 0 hst E (.r 8 4<|.r 13 1<|.nil) fun a E=>?_
 refine dn ?_
 refine hK13 _ _ (wp_ret (qCd (qCc ?_)))
 have S:=S.tail
 obtain rfl:=si H
 exact rtN E ⟨_,rfl,_,rfl,S⟩
 refine mny 0 hst E (.r 3 11 .nil) fun a E=>?_
 refine dn ?_
 refine hK13 _ _ (wp_ret (qCd (qCc ?_)))
 have S:=S.tail
 obtain rfl:=si H
 exact rtN E ⟨_,rfl,_,rfl,S⟩
 refine rr E fun a E=>(E.ik 37 H (fun c17 E H=>?_) fun c17 E H=>?_)
 refine sq fun K18 hK18=>?_
 have J26:∀ kq24,kq24<=k->∀(G:NV)(y22:Bool)(a:Act)(w':World),Env 74 G a->At G [(0,iv x),(3,.pointer (pb b2)),(6,.bool y22)]->Sm W F w' F [box b2 #[iv y.f0,iv y.f1,iv y.f2] 143]->qBV.j23 kq24 x y y22=some r->K18 a w':=by
  intro kq24 hkq G y22 a u27 E A S H
  obtain _ | k25:=kq24
  exact zz H
  rw [qBV.j23_s]at H
  obtain ⟨J,E⟩:=E.at A
  refine hK18 _ _ (sq fun K28 hK28=>?_)
  refine drawn 19 ⟨[],[],fun q=>False⟩ mixed rfl (by kernel_rfl) fun hst=>?_
  have S:=S.drew
  have hb2:=S.ba 0
  refine mny 14 hst E (.r 0 1<|.b 1 1 hb2<|.r 2 3<|.nil) fun a E=>?_
  refine E.fkn 61 H (fun c29 E H=>?_) fun c29 E H=>?_
  refine mny 0 hst E (.r 5 14 .nil) fun a E=>?_
  refine dn ?_
  refine hK28 _ _ (wp_ret (qCd (qCc ?_)))
  have S:=S.tail
  obtain rfl:=si H
  exact rtN E ⟨_,rfl,_,rfl,S⟩
  refine mny 11 hst E (.r 5 3 .nil) fun a E=>?_
  refine E.fb 64 H (fun c30 E H=>?_) fun c30 E H=>?_
  refine mny 5 hst E (.r 8 1<|.b 9 2 hb2<|.r 10 3<|.r 17 1<|.nil) fun a E=>?_
  refine E.fk 69 H (fun c31 E H=>?_) fun c31 E H=>?_
  refine mny 0 hst E (.r 13 1<|.b 14 2 hb2<|.r 15 2<|.r 18 1<|.nil) fun a E=>?_
  refine dn ?_
  refine hK28 _ _ (wp_ret (qCd (qCc ?_)))
  have S:=S.tail
  obtain rfl:=si H
  exact rtN E ⟨_,rfl,_,rfl,S⟩
  refine mny 0 hst E (.r 13 4<|.r 18 1<|.nil) fun a E=>?_
  refine dn ?_
  refine hK28 _ _ (wp_ret (qCd (qCc ?_)))
  have S:=S.tail
  obtain rfl:=si H
  exact rtN E ⟨_,rfl,_,rfl,S⟩
  refine mny 0 hst E (.r 8 11 .nil) fun a E=>?_
  refine dn ?_
  refine hK28 _ _ (wp_ret (qCd (qCc ?_)))
  have S:=S.tail
  obtain rfl:=si H
  exact rtN E ⟨_,rfl,_,rfl,S⟩
 refine pl0 (plc E (.r 0 1<|.b 1 1 hb2<|.r 2 3<|.nil) fun a E=>E.fk 43 H (fun c19 E H=>?_) fun c19 E H=>?_)
 refine plc E (.r 5 1<|.b 6 1 hb2<|.r 7 3<|.nil) fun a E=>E.fk 48 H (fun c20 E H=>?_) fun c20 E H=>?_
 refine plc E (.r 10 1<|.b 11 1 hb2<|.r 12 2<|.nil) fun a E=>E.fkn 52 H (fun c21 E H=>?_) fun c21 E H=>?_
 refine plc E (.r 14 5 .nil) fun a E=>pld ?_
 exact J26 _ (by omega) _ (x == 1) _ _ E .of S H
 refine plc E (.r 14 5 .nil) fun a E=>pld ?_
 exact J26 _ (by omega) _ true _ _ E .of S H
 refine plc E (.r 10 9 .nil) fun a E=>pld ?_
 exact J26 _ (by omega) _ false _ _ E .of S H
 refine plc E (.r 5 14 .nil) fun a E=>pld ?_
 exact J26 _ (by omega) _ false _ _ E .of S H
 refine wp_skip ?_
 refine qCe ?_
 refine hK4 _ _ (rr E fun a E=>(wp_ret ?_))
 have S:=S.tail
 obtain rfl:=si H
 exact rtN E ⟨_,rfl,_,rfl,S⟩
mutual
def qAt.j6:Nat->List qM->Bool->Option Int
 | 0,_,_=>none
 | k+1,x,y5=>if y5=true then (some 1) else (qAt.l18 k x (-1) 0)
def qAt.l18:Nat->List qM->Int->Int->Option Int
 | 0,_,_,_=>none
 | k+1,x,x16,x17=>if x17<(x.length:Int) then (if 0<=x17/\x17<(x.length:Int) then ((qBV.f k x16 (nth qM.z x x17)).bind fun t37=>(if t37.2=true then (qAt.l18 k x t37.1 (w64 (x17+1))) else (some 1))) else (none)) else (some 0)
end
theorem qAt.j6_s k x y5:type_of% (qAt.j6.eq_2 x y5 k):=qAt.j6.eq_2 x y5 k
theorem qAt.l18_s k x x16 x17:type_of% (qAt.l18.eq_2 x x16 x17 k):=qAt.l18.eq_2 x x16 x17 k
def qAt.f(k:Nat)(x:List qM):Option Int:=if (x.length:Int)=0 then (qAt.j6 k x true) else (qAt.j6 k x (decide ((x.length:Int)>8)))
def qAt.Post(W F:World)(r:Int)(v:Value)(w':World):Prop:=∃(F':World),v=iv r/\Sm W F w' F' []
theorem qAt.calls(k:Nat)(x:List qM)(A0_0:OA)(c0_0:Nat)(r:Int)(W F:World)(hown:Sub F W)(g0_0:Rd qM.k F A0_0 c0_0 x)(H:qAt.f k x=some r):
    Cr 165 #[.slice A0_0 x.length c0_0] W (qAt.Post W F r):=by
 have S:=sT hown
 unfold qAt.f at H
 refine ent 32 rfl rfl rfl fun a E=>?_
 refine rr E fun a E=>(sq fun K2 hK2=>sq fun K3 hK3=>?_)
 have J9:∀ kq7,kq7<=k->∀(G:NV)(y5:Bool)(a:Act)(w':World),Env 32 G a->At G [(0,.slice A0_0 x.length c0_0),(15,.bool y5)]->Sm W F w' F []->qAt.j6 kq7 x y5=some r->K3 a w':=by
  intro kq7 hkq G y5 a u10 E A S H
  obtain _ | k8:=kq7
  exact zz H
  rw [qAt.j6_s]at H
  obtain ⟨J,E⟩:=E.at A
  refine hK3 _ _ (E.ib 15 H (fun c11 E H=>?_) fun c11 E H=>?_)
  refine rr E fun a E=>(wp_ret (qCc ?_))
  obtain rfl:=si H
  exact rt1 E ⟨_,rfl,_,rfl,S⟩
  refine wp_skip (hK2 _ _ (rr E fun a E=>(sq fun K14 hK14=>rr E fun a E=>(wp_block ?_))))
  refine wp_loop_ghost (fun kq19 a w'=>∃(G:NV)(x16:Int)(x17:Int),kq19<=k8/\Env 32 G a/\At G [(3,iv x16),(16,.slice A0_0 x.length c0_0),(17,iv (x.length:Int)),(18,iv x17)]/\Sm W F w' F []/\qAt.l18 kq19 x x16 x17=some r) k8 ⟨_,(-1),0,Nat.le_refl _,E,.of,S,H⟩ ?_
  rintro kq19 a u21 ⟨G,x16,x17,hkq,E,A,S,H⟩
  obtain _ | k20:=kq19
  exact zz H
  rw [qAt.l18_s]at H
  obtain ⟨J,E⟩:=E.at A
  refine rr E fun a E=>(sq fun K23 hK23=>E.ik 19 H (fun c24 E H=>?_) fun c24 E H=>?_)
  refine wp_skip (hK23 _ _ (sq fun K25 hK25=>wp_block (sq fun K26 hK26=>pl0 ?_)))
  obtain ⟨c27,H⟩:=gd H
  have hE_:=E
  obtain ⟨ad28,rfl⟩:=g0_0.addr c27.1 c27.2
  replace E:=hE_
  obtain ⟨cs30,rfl,hc31⟩:=g0_0.el qM.z x17 c27.1 c27.2
  refine plc E (.x 0 c27<|.cs 1 (S.fcs hc31)<|.nil) fun a E=>pla (t:=143) E S [iv 0,iv 0,iv 0] fun b32 u33 hb32 S a E=>pls E S [iv ((nth qM.z x x17).f0),iv ((nth qM.z x x17).f1),iv ((nth qM.z x x17).f2)] fun u34 hb32 S a E=>pld (hK26 _ _ (sq fun K35 hK35=>pl0 (plc E (.r 0 1<|.bn 1 0 3 hb32<|.nil) fun a E=>?_)))
  obtain ⟨t37,h38,H⟩:=bd H
  refine plq E S en185 (qBV.calls k20 x16 (nth qM.z x x17) _ _ _ S.own.sub h38) fun u36 S a E=>plc E (.r 3 5 .nil) fun a E=>pld (hK35 _ _ (sq fun K39 hK39=>rr E fun a E=>(E.ibn 29 H (fun c41 E H=>?_) fun c41 E H=>?_)))
  refine wp_skip (hK39 _ _ (pl0 (plc E (.r 0 2 .nil) fun a E=>pld ?_)))
  refine qCe ?_
  refine hK25 _ _ (pl0 (plc E (.r 0 2 .nil) fun a E=>pld ?_))
  have S:=S.tail
  exact qCf ⟨k20,by omega,_,t37.1,(w64 (x17+1)),by omega,E,.of,S,H⟩
  refine rr E fun a E=>(wp_ret (qCc (qCd (qCc (qCc (qCd (qCc ?_)))))))
  have S:=S.tail
  obtain rfl:=si H
  exact rt1 E ⟨_,rfl,_,rfl,S⟩
  refine wp_exit ?_
  refine hK14 _ _ (rr E fun a E=>(wp_ret ?_))
  obtain rfl:=si H
  exact rt1 E ⟨_,rfl,_,rfl,S⟩
 refine pl0 (plc E (.r 0 4 .nil) fun a E=>E.fk 11 H (fun c4 E H=>?_) fun c4 E H=>?_)
 refine plc E (.r 4 4 .nil) fun a E=>pld ?_
 exact J9 _ (by omega) _ true _ _ E .of S H
 refine plc E (.r 4 4 .nil) fun a E=>pld ?_
 exact J9 _ (by omega) _ (decide ((x.length:Int)>8)) _ _ E .of S H
def qBi.f(x:qB)(y:Int):Option Int:=(qBB.f x.f0 y).bind fun t6=>(some t6)
def qBi.Post(W F:World)(r:Int)(v:Value)(w':World):Prop:=∃(F':World),v=iv r/\Sm W F w' F' []
theorem qBi.calls(x:qB)(y:Int)(r:Int)(W F:World)(hown:Sub F W)(H:qBi.f x y=some r):
    Cr 163 #[.agg #[iv x.f0,iv x.f1],iv y] W (qBi.Post W F r):=by
 have S:=sT hown
 unfold qBi.f at H
 refine ent 9 rfl rfl rfl fun a E=>?_
 refine sq fun K1 hK1=>pl0 (plx (t:=139) E S [iv x.f0,iv x.f1] fun b2 u3 hb2 S a E=>plc E (.r 1 1 .nil) fun a E=>pld (hK1 _ _ (sq fun K4 hK4=>pl0 (plc E (.r 0 1<|.b 1 0 hb2<|.r 2 1<|.nil) fun a E=>?_))))
 obtain ⟨t6,h7,H⟩:=bd H
 refine plq E S en90 (qBB.calls x.f0 y _ _ _ S.own.sub h7) fun u5 S a E=>plc E (.r 4 1 .nil) fun a E=>pld (hK4 _ _ (wp_ret ?_))
 have S:=S.tail
 obtain rfl:=si H
 exact rt1 E ⟨_,rfl,_,rfl,S⟩
def qBz.f(x:qA):Option Bool:=some true
def qBz.Post(W F:World)(r:Bool)(v:Value)(w':World):Prop:=∃(F':World),v = .bool r/\Sm W F w' F' []
theorem qBz.calls(x:qA)(r:Bool)(W F:World)(hown:Sub F W)(H:qBz.f x=some r):
    Cr 138 #[.agg (nA x)] W (qBz.Post W F r):=by
 have S:=sT hown
 unfold qBz.f at H
 refine ent 3 rfl rfl rfl fun a E=>?_
 refine sq fun K1 hK1=>pl0 (plx (t:=68) E S (nL x) fun b2 u3 hb2 S a E=>plc E (.r 1 1 .nil) fun a E=>pld (hK1 _ _ (rr E fun a E=>(wp_ret ?_))))
 have S:=S.tail
 obtain rfl:=si H
 exact rt1 E ⟨_,rfl,_,rfl,S⟩
def qBl.f(x:qA):Option Int:=some x.f1
def qBl.Post(W F:World)(r:Int)(v:Value)(w':World):Prop:=∃(F':World),v=iv r/\Sm W F w' F' []
theorem qBl.calls(x:qA)(r:Int)(W F:World)(hown:Sub F W)(H:qBl.f x=some r):
    Cr 139 #[.agg (nA x)] W (qBl.Post W F r):=by
 have S:=sT hown
 unfold qBl.f at H
 refine ent 5 rfl rfl rfl fun a E=>?_
 refine sq fun K1 hK1=>pl0 (plx (t:=68) E S (nL x) fun b2 u3 hb2 S a E=>plc E (.r 1 1 .nil) fun a E=>pld (hK1 _ _ (rg E (.r 0 1<|.b 1 1 hb2<|.r 2 1<|.nil) fun a E=>(wp_ret ?_))))
 have S:=S.tail
 obtain rfl:=si H
 exact rt1 E ⟨_,rfl,_,rfl,S⟩
def qJ.l7:Nat->List qB->Int->Int->Int->Option (Int × Bool)
 | 0,_,_,_,_=>none
 | k+1,x,y,x5,x6=>if x5<x6 then (if 0<=(w64 ((IntKind.u64.wrap (w64 (x5+x6))).fdiv 2))/\(w64 ((IntKind.u64.wrap (w64 (x5+x6))).fdiv 2))<(x.length:Int) then ((qBi.f (nth qB.z x (w64 ((IntKind.u64.wrap (w64 (x5+x6))).fdiv 2))) y).bind fun t22=>(if t22<0 then (qJ.l7 k x y (w64 ((w64 ((IntKind.u64.wrap (w64 (x5+x6))).fdiv 2))+1)) x6) else (qJ.l7 k x y x5 (w64 ((IntKind.u64.wrap (w64 (x5+x6))).fdiv 2))))) else (none)) else (if x5<(x.length:Int) then (if 0<=x5/\x5<(x.length:Int) then ((qBi.f (nth qB.z x x5) y).bind fun t33=>(some (x5,(t33 == 0)))) else (none)) else (some (x5,false)))
theorem qJ.l7_s k x y x5 x6:type_of% (qJ.l7.eq_2 x y x5 x6 k):=qJ.l7.eq_2 x y x5 x6 k
def qJ.f(k:Nat)(x:List qB)(y:Int):Option (Int × Bool):=qJ.l7 k x y 0 (x.length:Int)
def qJ.Post(W F:World)(r:Int × Bool)(v:Value)(w':World):Prop:=∃(F':World),v = .tuple #[iv r.1,.bool r.2]/\Sm W F w' F' []
theorem qJ.calls(k:Nat)(x:List qB)(y:Int)(A0_0:OA)(c0_0:Nat)(r:Int × Bool)(W F:World)(hown:Sub F W)(g0_0:Rd qB.k F A0_0 c0_0 x)(H:qJ.f k x y=some r):
    Cr 162 #[.slice A0_0 x.length c0_0,iv y,.func (.func 163) #[] #[]] W (qJ.Post W F r):=by
 have S:=sT hown
 unfold qJ.f at H
 refine ent 49 rfl rfl rfl fun a E=>?_
 refine rr E fun a E=>(rr E fun a E=>(rr E fun a E=>(sq fun K4 hK4=>wp_block ?_)))
 refine wp_loop_ghost (fun kq8 a w'=>∃(G:NV)(x5:Int)(x6:Int),kq8<=k/\Env 49 G a/\At G [(0,.slice A0_0 x.length c0_0),(1,iv y),(2,.func (.func 163) #[] #[]),(8,iv (x.length:Int)),(9,iv x5),(10,iv x6)]/\Sm W F w' F []/\qJ.l7 kq8 x y x5 x6=some r) k ⟨_,0,(x.length:Int),Nat.le_refl _,E,.of,S,H⟩ ?_
 rintro kq8 a u10 ⟨G,x5,x6,hkq,E,A,S,H⟩
 obtain _ | k9:=kq8
 exact zz H
 rw [qJ.l7_s]at H
 obtain ⟨J,E⟩:=E.at A
 refine sq fun K11 hK11=>rr E fun a E=>(E.ik 17 H (fun c13 E H=>?_) fun c13 E H=>?_)
 refine wp_skip (hK11 _ _ (wp_block (rr E fun a E=>(sq fun K15 hK15=>pl0 ?_))))
 obtain ⟨c16,H⟩:=gd H
 have hE_:=E
 obtain ⟨ad17,rfl⟩:=g0_0.addr c16.1 c16.2
 replace E:=hE_
 obtain ⟨cs19,rfl,hc20⟩:=g0_0.el qB.z (w64 ((IntKind.u64.wrap (w64 (x5+x6))).fdiv 2)) c16.1 c16.2
 refine plc E (.r 0 3<|.x 3 c16<|.cs 4 (S.fcs hc20)<|.r 5 1<|.nil) fun a E=>?_
 obtain ⟨t22,h23,H⟩:=bd H
 refine plq E S en163 (qBi.calls (nth qB.z x (w64 ((IntKind.u64.wrap (w64 (x5+x6))).fdiv 2))) y _ _ _ S.own.sub h23) fun u21 S a E=>plc E (.r 7 1 .nil) fun a E=>pld (hK15 _ _ (E.ik 31 H (fun c24 E H=>?_) fun c24 E H=>?_))
 refine pl0 (plc E (.r 0 3 .nil) fun a E=>pld ?_)
 refine qCe ?_
 exact qCf ⟨k9,by omega,_,(w64 ((w64 ((IntKind.u64.wrap (w64 (x5+x6))).fdiv 2))+1)),x6,by omega,E,.of,S,H⟩
 refine pl0 (plc E (.r 0 2 .nil) fun a E=>pld ?_)
 refine qCe ?_
 exact qCf ⟨k9,by omega,_,x5,(w64 ((IntKind.u64.wrap (w64 (x5+x6))).fdiv 2)),by omega,E,.of,S,H⟩
 refine wp_exit ?_
 refine hK4 _ _ (sq fun K25 hK25=>pl0 (plc E (.r 0 5 .nil) fun a E=>E.fk 39 H (fun c26 E H=>?_) fun c26 E H=>?_))
 obtain ⟨c27,H⟩:=gd H
 have hE_:=E
 obtain ⟨ad28,rfl⟩:=g0_0.addr c27.1 c27.2
 replace E:=hE_
 obtain ⟨cs30,rfl,hc31⟩:=g0_0.el qB.z x5 c27.1 c27.2
 refine plc E (.r 5 3<|.x 8 c27<|.cs 9 (S.fcs hc31)<|.r 10 1<|.nil) fun a E=>?_
 obtain ⟨t33,h34,H⟩:=bd H
 refine plq E S en163 (qBi.calls (nth qB.z x x5) y _ _ _ S.own.sub h34) fun u32 S a E=>plc E (.r 12 4 .nil) fun a E=>pld (hK25 _ _ (wp_ret ?_))
 obtain rfl:=si H
 exact rtN E ⟨_,rfl,_,rfl,S⟩
 refine plc E (.r 5 11 .nil) fun a E=>pld (hK25 _ _ (wp_ret ?_))
 obtain rfl:=si H
 exact rtN E ⟨_,rfl,_,rfl,S⟩
def qAA.f(p:List qB)(s:Int)(t:List qB):Option (List qB):=match t with
 | [x]=>if 0<=s/\s<=(p.length:Int)/\p.length<=1000000 then some (p.take s.toNat++x :: p.drop s.toNat) else none
 | _=>none
def qAA.Post(p:List qB)(s:Int)(t:List qB)(A0_0:OA)(c0_0:Nat)(A2_0:OA)(c2_0:Nat)(W F:World)(r:List qB)(v:Value)(w':World):Prop:=∃(F':World)(RA0_0:OA)(rc0_0:Nat),v = .slice RA0_0 r.length rc0_0/\St W (mine W [row qB.k 139 (.slice A0_0 p.length c0_0) p,row qB.k 139 (.slice A2_0 t.length c2_0) t]) F w' F' [row qB.k 139 (.slice RA0_0 r.length rc0_0) r]
set_option maxHeartbeats 4000000 in
set_option maxRecDepth 100000 in
theorem qAA.calls(p:List qB)(s:Int)(t:List qB)(A0_0:OA)(c0_0:Nat)(A2_0:OA)(c2_0:Nat)(r:List qB)(W F:World)(hown:Own W F [row qB.k 139 (.slice A0_0 p.length c0_0) p,row qB.k 139 (.slice A2_0 t.length c2_0) t])(H:qAA.f p s t=some r):
    Cr 164 #[.slice A0_0 p.length c0_0,iv s,.slice A2_0 t.length c2_0] W (qAA.Post p s t A0_0 c0_0 A2_0 c2_0 W F r):=by
 have S:=St.start hown
 unfold qAA.f at H
 rcases t with _ | ⟨x,_ | ⟨y,l⟩⟩
 ·
  cases H
 rotate_left
 ·
  cases H
 replace H:(if 0<=s/\s<=(p.length:Int)/\p.length<=1000000 then some (p.take s.toNat++x :: p.drop s.toNat) else none)=some r:=H
 by_cases hc:0<=s/\s<=(p.length:Int)/\p.length<=1000000
 rotate_left
 ·
  rw [if_neg hc]at H; cases H
 rw [if_pos hc]at H
 have hr:=Option.some.inj H
 clear H
 obtain ⟨h0,h1,hm⟩:=hc
 obtain ⟨j,rfl⟩:∃ j:Nat,s=j:=⟨s.toNat,by omega⟩
 simp only [Int.toNat_natCast]at hr
 refine enter (n:=95) rfl rfl rfl (Nat.le_of_ble_eq_true rfl) fun a E=>?_
 obtain ⟨A12,c12,hA12,hv12⟩:=y_suf (P:=Tryz.prog) (k:=.i64) (S.row_at (i:=0) rfl) ⟨h0,h1⟩
 refine rr E fun a E=>(rg E (.r 0 2<|.y 2 (hv12 (by kernel_rfl)) .nil) fun a E=>(rr E fun a E=>(sq fun K3 hK3=>rr E fun a E=>(cf E (wp_skip (hK3 _ _ (rr E fun a E=>(sq fun K6 hK6=>rr E fun a E=>?_))))))))
 by_cases hi:(j:Int)=(p.length:Int)
 ·
  replace E:=E.kt 22 hi
  refine ct E ?_
  obtain rfl:j=p.length:=by omega
  obtain rfl:p++[x]=r:=by rw [← hr]; simp
  refine sq fun K8 hK8=>pl0 (plc E (.r 0 2 .nil) fun a E=>ple E (.ap (d:=qB.k) 16 S (qCj (S.row_at (i:=1) rfl)) (by simp only [List.length_cons,List.length_nil]; omega) c2_0) ?_)
  rintro _ w1 a ⟨A1,c1,rfl,S,hz⟩ E
  refine plc E (.r 3 1 .nil) fun a E=>pld (hK8 _ _ (wp_ret (qCc ?_)))
  have S:=S.pm [0] 2
  exact rt1 E ⟨_,rfl,F,_,_,rfl,S⟩
 replace E:=E.kf 22 hi
 refine cf E (wp_skip (hK6 _ _ ?_))
 have hlt:j<p.length:=by omega
 have hxc:p.length<=c0_0/\c0_0<=maxLen:=by
  obtain ⟨_,q1,q2,_⟩:=qCg (S.row_at (i:=0) rfl)
  exact ⟨q1,q2⟩
 have hxc2:[x].length<=c2_0:=(qCg (S.row_at (i:=1) rfl)).2.1
 have hE_:=E
 obtain ⟨g,cur,rfl,hsz,hrep,S⟩:=S.unrow (by omega)
 have S:=S.front 1 rfl
 obtain ⟨g2,cur2,rfl,hsz2,hrep2,S⟩:=S.unrow (by simp)
 replace E:=hE_
 have hne:g2≠g:=S.ne (i:=0) (j:=1) rfl rfl (by decide)
 obtain ⟨cs,hcs⟩:∃ cs,cs=cur2.toList.take 2:=⟨_,rfl⟩
 have hx:(qB.k).K F x cs:=by
  have h5:=hrep2.2 0 x rfl
  rw [Nat.zero_mul,List.drop_zero,List.take_take]at h5
  rw [hcs]
  exact h5
 have hcl:cs.length=2:=(qB.k).len hx
 have hcget:∀ q u,cs[q]? = some u->cur2[q]? = some u:=fun q u hq=>by
  rw [hcs,List.getElem?_take]at hq
  split at hq
  ·
   rwa [Array.getElem?_toList]at hq
  ·
   cases hq
 have hcone:∀ u ∈ cs,u.oneCell'=true:=(qB.k).one hx
 obtain ⟨inner,hin⟩:∃ inner,inner=cur.toList.take (p.length * 2):=⟨_,rfl⟩
 replace hrep:RepsK qB.k F p inner:=by rw [hin]; exact hrep
 have hil:inner.length=p.length * 2:=hrep.1
 have hione:∀ u ∈ inner.drop (j * 2),u.oneCell'=true:=fun u hu=>hrep.one u (List.mem_of_mem_drop hu)
 have hidl:(inner.drop (j * 2)).length=(p.length - j) * 2:=by rw [List.length_drop,hil,Nat.sub_mul]
 have higet:∀ q u,(inner.drop (j * 2))[q]? = some u->cur[j * 2+q]? = some u:=fun q u hq=>by
  rw [List.getElem?_drop,hin,List.getElem?_take]at hq
  split at hq
  ·
   rwa [Array.getElem?_toList]at hq
  ·
   cases hq
 replace hsz:cur.size=c0_0 * 2:=hsz
 have hw1:w64 ((p.length:Int)+(([x].length:Nat):Int))=((p.length+1:Nat):Int):=by
  simp only [List.length_cons,List.length_nil]
  rw [qCk (by omega) (by omega)]
  omega
 have hw2:w64 ((j:Int)+(([x].length:Nat):Int))=((j+1:Nat):Int):=by
  simp only [List.length_cons,List.length_nil]
  rw [qCk (by omega) (by omega)]
  omega
 refine sq fun K9 hK9=>rg E (.r 0 4<|.y 4 (y_cap (A:=some ⟨g,0,none⟩) (n:=p.length) (c:=c0_0))<|.r 5 1 .nil) fun a E=>?_
 by_cases hroom:w64 ((p.length:Int)+(([x].length:Nat):Int))>(c0_0:Int)
 ·
  replace E:=E.kt 31 hroom
  rw [hw1]at hroom
  refine ct E ?_
  have hw3:w64 (w64 ((p.length:Int)+(([x].length:Nat):Int)) - (j:Int))=((p.length+1 - j:Nat):Int):=by
   rw [hw1,qCk (by omega) (by omega)]
   omega
  refine sq fun K11 hK11=>pl0 (plc E (.r 0 2<|.y 2 (y_hi (e:=139) (z:=2) (g:=g) (n:=p.length) (c:=c0_0) (k:=.i64) (hi:=(j:Int)) ⟨by omega,by omega⟩)<|.r 3 5 .nil) fun a E=>ple E (.gro (e:=139) (g:=g) (c:=c0_0) (j:=j) (z:=2) (bytes:=16) (k:=w64 (w64 ((p.length:Int)+(([x].length:Nat):Int)) - (j:Int))) S (S.ba 1) (by omega) (by omega) (by rw [hsz]; exact Nat.mul_le_mul_right _ (by omega)) (by rw [hw3]; omega) (by kernel_rfl)) ?_)
  rintro _ w1 a ⟨b,arr,cc,rfl,has,hc1,hc2,hpre,S,hag⟩ E
  rw [hw3]at hc1 E
  have hnb:g2≠b:=S.ne (i:=1) (j:=0) rfl rfl (by decide)
  have hgb:g≠b:=S.ne (i:=2) (j:=0) rfl rfl (by decide)
  have hk3:j+((p.length+1 - j:Nat):Int).toNat=p.length+1:=by rw [Int.toNat_natCast]; omega
  rw [hk3]at hc1 E
  have hpi:arr.toList.take (j * 2)=inner.take (j * 2):=by
   rw [hpre,hin,List.take_take,Nat.min_eq_left (Nat.mul_le_mul_right _ (by omega))]
  obtain ⟨s1,s2,s3⟩:=qDz (sz:=2) (n:=p.length) (i:=j) (cap:=cc) (c0:=arr.toList) (inner:=inner) (cs:=cs) hpi hil hcl (by omega) hc1 (by rw [Array.length_toList]; exact has)
  obtain ⟨C1,hC1⟩:∃ C1,C1=arr.toList.take (j * 2)++cs++arr.toList.drop (j * 2+cs.length):=⟨_,rfl⟩
  rw [← hC1]at s1 s2 s3
  obtain ⟨C2,hC2⟩:∃ C2,C2=C1.take ((j+1) * 2)++inner.drop (j * 2)++C1.drop ((j+1) * 2+(inner.drop (j * 2)).length):=⟨_,rfl⟩
  rw [← hC2]at s1 s2
  refine plc E (.r 9 1 .nil) fun a E=>pld (hK11 _ _ (sq fun K12 hK12=>pl0 (plc E (.r 0 2<|.y 2 (y_lo (e:=139) (z:=2) (g:=b) (n:=p.length+1) (c:=cc) (k:=.i64) (lo:=(j:Int)) ⟨by omega,by omega⟩ (by omega))<|.r 3 1 .nil) fun a E=>?_)))
  have hb2:=S.ba 1
  have hbg:=S.ba 2
  have hmin1:Nat.min [x].length (p.length+1 - (j:Int).toNat)=1:=by
   rw [Int.toNat_natCast]
   simp only [List.length_cons,List.length_nil]
   exact Nat.min_eq_left (by omega)
  refine ple E (.cpy (e:=139) (z:=2) (off:=(j:Int).toNat * 2) (dn:=p.length+1 - (j:Int).toNat) (dc:=cc - (j:Int).toNat) (sn:=[x].length) (sc:=c2_0) (sa:=⟨g2,0,none⟩) S cs (by rw [hmin1,hcl]) (fun q u hq=>by rw [qCr,Nat.zero_add]; exact qCl hb2 (hcget q u hq)) hcone (by
      rw [Int.toNat_natCast,has,hcl]
      have:=Nat.mul_le_mul_right 2 (show j+1<=cc by omega)
      omega) (by kernel_rfl)) ?_
  rintro _ w2 a ⟨rfl,S,hz,hnew,hoth⟩ E
  simp only [Int.toNat_natCast]at S hnew
  rw [← hC1]at S hnew
  refine pld (hK12 _ _ (sq fun K13 hK13=>?_))
  refine drawn 9 ⟨[8],[],fun q=>False⟩ mixed rfl (by kernel_rfl) fun hst=>?_
  have S:=S.drew
  have hbg2:=S.ba 2
  refine mny 1 hst E (.r 0 4<|.y 4 (y_lo (e:=139) (z:=2) (g:=b) (n:=p.length+1) (c:=cc) (k:=.i64) (lo:=w64 ((j:Int)+(([x].length:Nat):Int))) ⟨by omega,by omega⟩ (by omega))<|.r 5 2<|.y 7 (y_lo (e:=139) (z:=2) (g:=g) (n:=p.length) (c:=c0_0) (k:=.i64) (lo:=(j:Int)) ⟨by omega,by omega⟩ (by omega)) .nil) fun a E=>?_
  refine on1 8 E (.cpy (e:=139) (z:=2) (off:=(w64 ((j:Int)+(([x].length:Nat):Int))).toNat * 2) (dn:=p.length+1 - (w64 ((j:Int)+(([x].length:Nat):Int))).toNat) (dc:=cc - (w64 ((j:Int)+(([x].length:Nat):Int))).toNat) (sn:=p.length - (j:Int).toNat) (sc:=c0_0 - (j:Int).toNat) (sa:=⟨g,(j:Int).toNat * 2,none⟩) S (inner.drop (j * 2)) (by
      rw [hw2,Int.toNat_natCast,Int.toNat_natCast,hidl,show p.length+1 - (j+1)=p.length - j by omega]
      congr 1
      exact (Nat.min_self _).symm) (fun q u hq=>by rw [qCr,Int.toNat_natCast]; exact qCl hbg2 (higet q u hq)) hione (by
      rw [hw2,Int.toNat_natCast,hidl,List.size_toArray,s3,← Nat.add_mul]
      exact Nat.mul_le_mul_right _ (by omega)) (by kernel_rfl)) ?_
  rintro _ w3 a ⟨rfl,S,hz,hnew,hoth⟩ E
  refine ⟨.d,?_⟩
  refine dn ?_
  rw [hw2,Int.toNat_natCast]at S
  simp only [List.toList_toArray]at S
  rw [← hC2]at S
  refine hK13 _ _ (rr E fun a E=>(wp_ret (qCc ?_)))
  have hrl:r.length=p.length+1:=by rw [← hr]; simp; omega
  have hrr:RepsK qB.k F r (C2.toArray.toList.take (r.length * (qB.k).sz)):=by
   rw [hrl]
   show RepsK qB.k F r (C2.take ((p.length+1) * 2))
   rw [s1,← hr]
   exact qDF hrep hx (by omega) rfl
  have hS2:=S.rerow (c:=cc) r (show C2.toArray.size=cc * 2 by simpa using s2) (by omega) hc2 hrr
  replace hS2:=hS2.front 1 rfl
  replace hS2:=hS2.tail
  replace hS2:=hS2.front 1 rfl
  replace hS2:=hS2.tail
  rw [← hrl]at E
  exact rt1 E ⟨_,rfl,F,_,_,rfl,hS2⟩
 replace E:=E.kf 31 hroom
 rw [hw1]at hroom
 have hrm:p.length+1<=c0_0:=by omega
 refine cf E (wp_skip (hK9 _ _ ?_))
 obtain ⟨s1,s2,s3⟩:=qEZ (sz:=2) (n:=p.length) (i:=j) (cap:=c0_0) (cur:=cur.toList) (inner:=inner) (cs:=cs) hin.symm hcl (by omega) hrm (by rw [Array.length_toList]; exact hsz)
 obtain ⟨C1,hC1⟩:∃ C1,C1=cur.toList.take ((j+1) * 2)++inner.drop (j * 2)++cur.toList.drop ((j+1) * 2+(inner.drop (j * 2)).length):=⟨_,rfl⟩
 rw [← hC1]at s1 s2 s3
 obtain ⟨C2,hC2⟩:∃ C2,C2=C1.take (j * 2)++cs++C1.drop (j * 2+cs.length):=⟨_,rfl⟩
 rw [← hC2]at s1 s2
 refine rg E (.r 0 4<|.y 4 (y_hi (e:=139) (z:=2) (g:=g) (n:=p.length) (c:=c0_0) (k:=.i64) (hi:=w64 ((p.length:Int)+(([x].length:Nat):Int))) ⟨by omega,by omega⟩)<|.r 5 1 .nil) fun a E=>?_
 have hn1:(w64 ((p.length:Int)+(([x].length:Nat):Int))).toNat=p.length+1:=by rw [hw1,Int.toNat_natCast]
 rw [hn1]at E
 refine sq fun K16 hK16=>sq fun K17 hK17=>pl0 (plc E (.r 0 5<|.y 5 (y_lo (e:=139) (z:=2) (g:=g) (n:=p.length+1) (c:=c0_0) (k:=.i64) (lo:=w64 ((j:Int)+(([x].length:Nat):Int))) ⟨by omega,by omega⟩ (by omega)) .nil) fun a E=>?_)
 have hb2:=S.ba 0
 have hbg:=S.ba 1
 have hcz:cur.size≠0:=by rw [hsz]; exact Nat.mul_ne_zero (by omega) (by decide)
 refine ple E (.ext (f:=183) (args:=[.slice (pb g2) [x].length c2_0,.slice (some ⟨g,(w64 ((j:Int)+(([x].length:Nat):Int))).toNat * 2,none⟩) (p.length+1 - (w64 ((j:Int)+(([x].length:Nat):Int))).toNat) (c0_0 - (w64 ((j:Int)+(([x].length:Nat):Int))).toNat)]) (v:=.bool false) (R:=fun v w'=>v = .bool false/\w'=_) (by
    rw [run_callFunc_extern Tryz.func183 (by kernel_rfl) (by kernel_rfl) (by kernel_rfl) (e:=Extern.SlicesOverlaps.overlaps #[136,136] #[4]) (by kernel_rfl)]
    refine (congrArg (fun r:Result Value=>r.andThen fun v w'=>Result.ok (Next.value v) w') (Lib.run_overlaps_apart _ 136 4 139 Tryz.underlying136 2 (fun _=>by kernel_rfl) ⟨g2,0,none⟩ ⟨g,(w64 ((j:Int)+(([x].length:Nat):Int))).toNat * 2,none⟩ [x].length c2_0 _ _ hne 139 139 cur2.size cur.size (by simp [World.shape?,hb2]) (by simp [World.shape?,hbg]) hcz (by simp [World.frozen?,hb2]) (by simp [World.frozen?,hb2]))).trans rfl) ⟨rfl,rfl⟩) ?_
 rintro _ _ a ⟨rfl,rfl⟩ E
 refine plc E (.r 7 1 .nil) fun a E=>pld (hK17 _ _ (ct E (sq fun K18 hK18=>?_)))
 refine drawn 9 ⟨[8],[],fun q=>False⟩ mixed rfl (by kernel_rfl) fun hst=>?_
 have S:=S.drew
 have S:=S.front 1 rfl
 have hbg2:=S.ba 0
 refine mny 1 hst E (.r 0 4<|.y 4 (y_lo (e:=139) (z:=2) (g:=g) (n:=p.length+1) (c:=c0_0) (k:=.i64) (lo:=w64 ((j:Int)+(([x].length:Nat):Int))) ⟨by omega,by omega⟩ (by omega))<|.r 5 2<|.y 7 (y_lo (e:=139) (z:=2) (g:=g) (n:=p.length+1) (c:=c0_0) (k:=.i64) (lo:=(j:Int)) ⟨by omega,by omega⟩ (by omega)) .nil) fun a E=>?_
 refine on1 8 E (.cpy (e:=139) (z:=2) (off:=(w64 ((j:Int)+(([x].length:Nat):Int))).toNat * 2) (dn:=p.length+1 - (w64 ((j:Int)+(([x].length:Nat):Int))).toNat) (dc:=c0_0 - (w64 ((j:Int)+(([x].length:Nat):Int))).toNat) (sn:=p.length+1 - (j:Int).toNat) (sc:=c0_0 - (j:Int).toNat) (sa:=⟨g,(j:Int).toNat * 2,none⟩) S (inner.drop (j * 2)) (by
    rw [hw2,Int.toNat_natCast,Int.toNat_natCast,hidl,show p.length+1 - (j+1)=p.length - j by omega]
    congr 1
    exact (Nat.min_eq_right (by omega)).symm) (fun q u hq=>by rw [qCr,Int.toNat_natCast]; exact qCl hbg2 (higet q u hq)) hione (by
    rw [hw2,Int.toNat_natCast,hidl,hsz,← Nat.add_mul]
    exact Nat.mul_le_mul_right _ (by omega)) (by kernel_rfl)) ?_
 rintro _ w2 a ⟨rfl,S,hz,hnew,hoth⟩ E
 refine ⟨.d,?_⟩
 refine dn ?_
 rw [hw2,Int.toNat_natCast,← hC1]at S
 refine hK18 _ _ (sq fun K19 hK19=>pl0 ?_)
 have hb3:=S.ba 1
 refine plc E (.r 0 2<|.y 2 (y_lo (e:=139) (z:=2) (g:=g) (n:=p.length+1) (c:=c0_0) (k:=.i64) (lo:=(j:Int)) ⟨by omega,by omega⟩ (by omega))<|.r 3 1 .nil) fun a E=>?_
 have hmin1:Nat.min [x].length (p.length+1 - (j:Int).toNat)=1:=by
  rw [Int.toNat_natCast]
  simp only [List.length_cons,List.length_nil]
  exact Nat.min_eq_left (by omega)
 refine ple E (.cpy (e:=139) (z:=2) (off:=(j:Int).toNat * 2) (dn:=p.length+1 - (j:Int).toNat) (dc:=c0_0 - (j:Int).toNat) (sn:=[x].length) (sc:=c2_0) (sa:=⟨g2,0,none⟩) S cs (by rw [hmin1,hcl]) (fun q u hq=>by rw [qCr,Nat.zero_add]; exact qCl hb3 (hcget q u hq)) hcone (by
    rw [Int.toNat_natCast,List.size_toArray,s3,hcl]
    have:=Nat.mul_le_mul_right 2 (show j+1<=c0_0 by omega)
    omega) (by kernel_rfl)) ?_
 rintro _ w3 a ⟨rfl,S,hz,hnew,hoth⟩ E
 simp only [Int.toNat_natCast,List.toList_toArray]at S
 rw [← hC2]at S
 refine pld (hK19 _ _ (rr E fun a E=>(wp_ret (qCc ?_))))
 have hrl:r.length=p.length+1:=by rw [← hr]; simp; omega
 have hrr:RepsK qB.k F r (C2.toArray.toList.take (r.length * (qB.k).sz)):=by
  rw [hrl]
  show RepsK qB.k F r (C2.take ((p.length+1) * 2))
  rw [s1,← hr]
  exact qDF hrep hx (by omega) rfl
 have hS2:=S.rerow (c:=c0_0) r (show C2.toArray.size=c0_0 * 2 by simpa using s2) (by omega) hxc.2 hrr
 replace hS2:=hS2.front 1 rfl
 replace hS2:=hS2.tail
 rw [← hrl]at E
 exact rt1 E ⟨_,rfl,F,_,_,rfl,hS2⟩
end Go.Proofs.YthgfhlbjkmjlpaaGreat.GD
