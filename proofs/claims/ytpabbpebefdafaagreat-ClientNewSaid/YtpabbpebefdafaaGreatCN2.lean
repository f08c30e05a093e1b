import Derived.Test.YtpabbpebefdafaaGreatCN1
namespace Go.Proofs.YtpabbpebefdafaaGreat.CN
open Go Go.RowKit Go.Proofs.YtpabbpebefdafaaGreat.Sl
set_option linter.unusedVariables false
set_option linter.unusedSimpArgs false
set_option maxHeartbeats 4000000
set_option maxRecDepth 100000
def qAn.f(x:Int)(y:Int):Option Int:=(qBL.f x).bind fun t4=>((qBL.f y).bind fun t8=>(if t4=true then (if t8=true then (some 0) else (some (-1))) else (if t8=true then (some 1) else (if x<y then (some (-1)) else (if x>y then (some 1) else (some 0))))))
def qAn.Post(W F:World)(r:Int)(v:Value)(w':World):Prop:=∃(F':World),v=iv r∧Sm W F w' F' []
theorem qAn.calls(x:Int)(y:Int)(r:Int)(W F:World)(hown:Sub F W)(H:qAn.f x y=some r):
    Cr 197 #[iv x,iv y] W (qAn.Post W F r):=by
 have S:=sT hown
 unfold qAn.f at H
 refine ent 20 rfl rfl rfl (fun a E=>?_)
 refine rr E fun a E=>(sq fun K2 hK2=>pl0 (plc E (.r 0 1 .nil) (fun a E=>?_)))
 obtain ⟨t4,h5,H⟩:=bd H
 refine plq E S en233 (qBL.calls x _ _ _ S.own.sub h5) fun u3 S a E=>plc E (.r 2 1 .nil) (fun a E=>pld (hK2 _ _ (sq fun K6 hK6=>pl0 (plc E (.r 0 1 .nil) (fun a E=>?_)))))
 obtain ⟨t8,h9,H⟩:=bd H
 refine plq E S en233 (qBL.calls y _ _ _ S.own.sub h9) fun u7 S a E=>plc E (.r 2 1 .nil) (fun a E=>pld (hK6 _ _ (sq fun K10 hK10=>rr E fun a E=>(E.ib 11 H (fun c12 E H=>?_) fun c12 E H=>?_))))
 refine sq fun K13 hK13=>rr E fun a E=>(E.ib 12 H (fun c15 E H=>?_) fun c15 E H=>?_)
 refine rr E fun a E=>(wp_ret (qCJ (qCJ ?_)))
 obtain rfl:=si H
 exact rt1 E ⟨_,rfl,_,rfl,S⟩
 refine wp_skip (hK13 _ _ (rr E fun a E=>(wp_ret (qCJ ?_))))
 obtain rfl:=si H
 exact rt1 E ⟨_,rfl,_,rfl,S⟩
 refine wp_skip (hK10 _ _ (sq fun K18 hK18=>rr E fun a E=>(E.ib 13 H (fun c20 E H=>?_) fun c20 E H=>?_)))
 refine rr E fun a E=>(wp_ret (qCJ ?_))
 obtain rfl:=si H
 exact rt1 E ⟨_,rfl,_,rfl,S⟩
 refine wp_skip (hK18 _ _ (sq fun K22 hK22=>rr E fun a E=>(E.ik 16 H (fun c24 E H=>?_) fun c24 E H=>?_)))
 refine rr E fun a E=>(wp_ret (qCJ ?_))
 obtain rfl:=si H
 exact rt1 E ⟨_,rfl,_,rfl,S⟩
 refine wp_skip (hK22 _ _ (sq fun K26 hK26=>rr E fun a E=>(E.ik 19 H (fun c28 E H=>?_) fun c28 E H=>?_)))
 refine rr E fun a E=>(wp_ret (qCJ ?_))
 obtain rfl:=si H
 exact rt1 E ⟨_,rfl,_,rfl,S⟩
 refine wp_skip (hK26 _ _ (rr E fun a E=>(wp_ret ?_)))
 obtain rfl:=si H
 exact rt1 E ⟨_,rfl,_,rfl,S⟩
def qBx.f(x:qA)(y:Int):Option Int:=(qAn.f x.f0 y).bind fun t6=>(some t6)
def qBx.Post(W F:World)(r:Int)(v:Value)(w':World):Prop:=∃(F':World),v=iv r∧Sm W F w' F' []
theorem qBx.calls(x:qA)(y:Int)(r:Int)(W F:World)(hown:Sub F W)(H:qBx.f x y=some r):
    Cr 220 #[.agg #[iv x.f0,iv x.f1,iv x.f2,iv x.f3,.bool x.f4,.bool x.f5],iv y] W (qBx.Post W F r):=by
 have S:=sT hown
 unfold qBx.f at H
 refine ent 9 rfl rfl rfl (fun a E=>?_)
 refine sq fun K1 hK1=>pl0 (plx (t:=153) E S [iv x.f0,iv x.f1,iv x.f2,iv x.f3,.bool x.f4,.bool x.f5] fun b2 u3 hb2 S a E=>plc E (.r 1 1 .nil) (fun a E=>pld (hK1 _ _ (sq fun K4 hK4=>pl0 (plc E (.r 0 1<|.b 1 0 hb2<|.r 2 1<|.nil) (fun a E=>?_))))))
 obtain ⟨t6,h7,H⟩:=bd H
 refine plq E S en197 (qAn.calls x.f0 y _ _ _ S.own.sub h7) fun u5 S a E=>plc E (.r 4 1 .nil) (fun a E=>pld (hK4 _ _ (wp_ret ?_)))
 replace S:=S.tail
 obtain rfl:=si H
 exact rt1 E ⟨_,rfl,_,rfl,S⟩
def qU.l7:Nat→List qA→Int→Int→Int→Option (Int × Bool)
 | 0,_,_,_,_=>none
 | k+1,x,y,x5,x6=>if x5<x6 then (if 0≤(w64 ((IntKind.u64.wrap (w64 (x5+x6))).fdiv 2))∧(w64 ((IntKind.u64.wrap (w64 (x5+x6))).fdiv 2))<(x.length:Int) then ((qBx.f (nth qA.z x (w64 ((IntKind.u64.wrap (w64 (x5+x6))).fdiv 2))) y).bind fun t22=>(if t22<0 then (qU.l7 k x y (w64 ((w64 ((IntKind.u64.wrap (w64 (x5+x6))).fdiv 2))+1)) x6) else (qU.l7 k x y x5 (w64 ((IntKind.u64.wrap (w64 (x5+x6))).fdiv 2))))) else (none)) else (if x5<(x.length:Int) then (if 0≤x5∧x5<(x.length:Int) then ((qBx.f (nth qA.z x x5) y).bind fun t33=>(some (x5,(t33 == 0)))) else (none)) else (some (x5,false)))
theorem qU.l7_s k x y x5 x6:type_of% (qU.l7.eq_2 x y x5 x6 k):=qU.l7.eq_2 x y x5 x6 k
def qU.f(k:Nat)(x:List qA)(y:Int):Option (Int × Bool):=qU.l7 k x y 0 (x.length:Int)
def qU.Post(W F:World)(r:Int × Bool)(v:Value)(w':World):Prop:=∃(F':World),v = .tuple #[iv r.1,.bool r.2]∧Sm W F w' F' []
theorem qU.calls(k:Nat)(x:List qA)(y:Int)(A0_0:OA)(c0_0:Nat)(r:Int × Bool)(W F:World)(hown:Sub F W)(g0_0:Rd qA.k F A0_0 c0_0 x)(H:qU.f k x y=some r):
    Cr 195 #[.slice A0_0 x.length c0_0,iv y,.func (.func 220) #[] #[]] W (qU.Post W F r):=by
 have S:=sT hown
 unfold qU.f at H
 refine ent 49 rfl rfl rfl (fun a E=>?_)
 refine rr E fun a E=>(rr E fun a E=>(rr E fun a E=>(sq fun K4 hK4=>wp_block ?_)))
 refine wp_loop_ghost (fun kq8 a w'=>∃(G:NV)(x5:Int)(x6:Int),kq8≤k∧Env 49 G a∧At G [(0,.slice A0_0 x.length c0_0),(1,iv y),(2,.func (.func 220) #[] #[]),(8,iv (x.length:Int)),(9,iv x5),(10,iv x6)]∧Sm W F w' F []∧qU.l7 kq8 x y x5 x6=some r) k ⟨_,0,(x.length:Int),Nat.le_refl _,E,.of,S,H⟩ ?_
 rintro kq8 a u10 ⟨G,x5,x6,hkq,E,A,S,H⟩
 obtain _ | k9:=kq8
 exact zz H
 rw [qU.l7_s]at H
 obtain ⟨J,E⟩:=E.at A
 refine sq fun K11 hK11=>rr E fun a E=>(E.ik 17 H (fun c13 E H=>?_) fun c13 E H=>?_)
 refine wp_skip (hK11 _ _ (wp_block (rr E fun a E=>(sq fun K15 hK15=>pl0 ?_))))
 obtain ⟨c16,H⟩:=gd H
 have hE_:=E
 obtain ⟨ad17,rfl⟩:=g0_0.addr c16.1 c16.2
 replace E:=hE_
 obtain ⟨cs19,rfl,hc20⟩:=g0_0.el qA.z (w64 ((IntKind.u64.wrap (w64 (x5+x6))).fdiv 2)) c16.1 c16.2
 refine plc E (.r 0 3<|.x 3 c16<|.cs 4 (S.fcs hc20)<|.r 5 1<|.nil) (fun a E=>?_)
 obtain ⟨t22,h23,H⟩:=bd H
 refine plq E S en220 (qBx.calls (nth qA.z x (w64 ((IntKind.u64.wrap (w64 (x5+x6))).fdiv 2))) y _ _ _ S.own.sub h23) fun u21 S a E=>plc E (.r 7 1 .nil) (fun a E=>pld (hK15 _ _ (E.ik 31 H (fun c24 E H=>?_) fun c24 E H=>?_)))
 refine pl0 (plc E (.r 0 3 .nil) (fun a E=>pld ?_))
 refine qCL ?_
 exact qCM ⟨k9,by omega,_,(w64 ((w64 ((IntKind.u64.wrap (w64 (x5+x6))).fdiv 2))+1)),x6,by omega,E,.of,S,H⟩
 refine pl0 (plc E (.r 0 2 .nil) (fun a E=>pld ?_))
 refine qCL ?_
 exact qCM ⟨k9,by omega,_,x5,(w64 ((IntKind.u64.wrap (w64 (x5+x6))).fdiv 2)),by omega,E,.of,S,H⟩
 refine wp_exit ?_
 refine hK4 _ _ (sq fun K25 hK25=>pl0 (plc E (.r 0 5 .nil) (fun a E=>E.fk 39 H (fun c26 E H=>?_) fun c26 E H=>?_)))
 obtain ⟨c27,H⟩:=gd H
 have hE_:=E
 obtain ⟨ad28,rfl⟩:=g0_0.addr c27.1 c27.2
 replace E:=hE_
 obtain ⟨cs30,rfl,hc31⟩:=g0_0.el qA.z x5 c27.1 c27.2
 refine plc E (.r 5 3<|.x 8 c27<|.cs 9 (S.fcs hc31)<|.r 10 1<|.nil) (fun a E=>?_)
 obtain ⟨t33,h34,H⟩:=bd H
 refine plq E S en220 (qBx.calls (nth qA.z x x5) y _ _ _ S.own.sub h34) fun u32 S a E=>plc E (.r 12 4 .nil) (fun a E=>pld (hK25 _ _ (wp_ret ?_)))
 obtain rfl:=si H
 exact rtN E ⟨_,rfl,_,rfl,S⟩
 refine plc E (.r 5 11 .nil) (fun a E=>pld (hK25 _ _ (wp_ret ?_)))
 obtain rfl:=si H
 exact rtN E ⟨_,rfl,_,rfl,S⟩
def qCF.f(k:Nat)(x:qF)(y:Int):Option (Int × Bool):=(qU.f k x.f4 y).bind fun t6=>(some (t6.1,t6.2))
def qCF.Post(W F:World)(r:Int × Bool)(v:Value)(w':World):Prop:=∃(F':World),v = .tuple #[iv r.1,.bool r.2]∧Sm W F w' F' []
theorem qCF.calls(k:Nat)(x:qF)(y:Int)(A0_4:OA)(c0_4:Nat)(A0_5:OA)(c0_5:Nat)(A0_6:OA)(c0_6:Nat)(r:Int × Bool)(W F:World)(hown:Sub F W)(g0_4:Rd qA.k F A0_4 c0_4 x.f4)(g0_5:Rd qI.k F A0_5 c0_5 x.f5)(g0_6:Rd qC.k F A0_6 c0_6 x.f6)(H:qCF.f k x y=some r):
    Cr 181 #[.agg #[iv x.f0,iv x.f1,iv x.f2,iv x.f3,.slice A0_4 x.f4.length c0_4,.slice A0_5 x.f5.length c0_5,.slice A0_6 x.f6.length c0_6],iv y] W (qCF.Post W F r):=by
 have S:=sT hown
 unfold qCF.f at H
 refine ent 12 rfl rfl rfl (fun a E=>?_)
 refine sq fun K1 hK1=>pl0 (plx (t:=27) E S [iv x.f0,iv x.f1,iv x.f2,iv x.f3,.slice A0_4 x.f4.length c0_4,.slice A0_5 x.f5.length c0_5,.slice A0_6 x.f6.length c0_6] fun b2 u3 hb2 S a E=>plc E (.r 1 2 .nil) (fun a E=>pld (hK1 _ _ (sq fun K4 hK4=>pl0 (plc E (.r 0 1<|.b 1 4 hb2<|.r 2 1<|.nil) (fun a E=>?_))))))
 obtain ⟨t6,h7,H⟩:=bd H
 refine plq E S en195 (qU.calls k x.f4 y _ _ _ _ _ S.own.sub g0_4 h7) fun u5 S a E=>plc E (.r 4 4 .nil) (fun a E=>pld (hK4 _ _ (wp_ret ?_)))
 replace S:=S.tail
 obtain rfl:=si H
 exact rtN E ⟨_,rfl,_,rfl,S⟩
def qAk.f(p:List qA)(s:Int)(t:List qA):Option (List qA):=match t with
 | [x]=>if 0≤s∧s≤(p.length:Int)∧p.length≤1000000 then some (p.take s.toNat++x :: p.drop s.toNat) else none
 | _=>none
def qAk.Post(p:List qA)(s:Int)(t:List qA)(A0_0:OA)(c0_0:Nat)(A2_0:OA)(c2_0:Nat)(W F:World)(r:List qA)(v:Value)(w':World):Prop:=∃(F':World)(RA0_0:OA)(rc0_0:Nat),v = .slice RA0_0 r.length rc0_0∧St W (mine W [row qA.k 153 (.slice A0_0 p.length c0_0) p,row qA.k 153 (.slice A2_0 t.length c2_0) t]) F w' F' [row qA.k 153 (.slice RA0_0 r.length rc0_0) r]
set_option maxHeartbeats 4000000 in
set_option maxRecDepth 100000 in
theorem qAk.calls(p:List qA)(s:Int)(t:List qA)(A0_0:OA)(c0_0:Nat)(A2_0:OA)(c2_0:Nat)(r:List qA)(W F:World)(hown:Own W F [row qA.k 153 (.slice A0_0 p.length c0_0) p,row qA.k 153 (.slice A2_0 t.length c2_0) t])(H:qAk.f p s t=some r):
    Cr 217 #[.slice A0_0 p.length c0_0,iv s,.slice A2_0 t.length c2_0] W (qAk.Post p s t A0_0 c0_0 A2_0 c2_0 W F r):=by
 have S:=St.start hown
 unfold qAk.f at H
 rcases t with _ | ⟨x,_ | ⟨y,l⟩⟩
 ·
  cases H
 rotate_left
 ·
  cases H
 replace H:(if 0≤s∧s≤(p.length:Int)∧p.length≤1000000 then some (p.take s.toNat++x :: p.drop s.toNat) else none)=some r:=H
 by_cases hc:0≤s∧s≤(p.length:Int)∧p.length≤1000000
 rotate_left
 ·
  rw [if_neg hc]at H; cases H
 rw [if_pos hc]at H
 have hr:=Option.some.inj H
 clear H
 obtain ⟨h0,h1,hm⟩:=hc
 obtain ⟨j,rfl⟩:∃ j:Nat,s=j:=⟨s.toNat,by omega⟩
 simp only [Int.toNat_natCast]at hr
 refine enter (n:=95) rfl rfl rfl (Nat.le_of_ble_eq_true rfl) (fun a E=>?_)
 obtain ⟨A12,c12,hA12,hv12⟩:=y_suf (P:=Tryz.prog) (k:=.i64) (S.row_at (i:=0) rfl) ⟨h0,h1⟩
 refine rr E fun a E=>(rg E (.r 0 2<|.y 2 (hv12 (by kernel_rfl)) .nil) fun a E=>(rr E fun a E=>(sq fun K3 hK3=>rr E fun a E=>(cf E (wp_skip (hK3 _ _ (rr E fun a E=>(sq fun K6 hK6=>rr E fun a E=>?_))))))))
 by_cases hi:(j:Int)=(p.length:Int)
 ·
  replace E:=E.kt 22 hi
  refine ct E ?_
  obtain rfl:j=p.length:=by omega
  obtain rfl:p++[x]=r:=by rw [← hr]; simp
  refine sq fun K8 hK8=>pl0 (plc E (.r 0 2 .nil) (fun a E=>ple E (.ap (d:=qA.k) 40 S (qCX (S.row_at (i:=1) rfl)) (by simp only [List.length_cons,List.length_nil]; omega) c2_0) ?_))
  rintro _ w1 a ⟨A1,c1,rfl,S,hz⟩ E
  refine plc E (.r 3 1 .nil) (fun a E=>pld (hK8 _ _ (wp_ret (qCJ ?_))))
  replace S:=S.pm [0] 2
  exact rt1 E ⟨_,rfl,F,_,_,rfl,S⟩
 replace E:=E.kf 22 hi
 refine cf E (wp_skip (hK6 _ _ ?_))
 have hlt:j<p.length:=by omega
 have hxc:p.length≤c0_0∧c0_0≤maxLen:=by
  obtain ⟨_,q1,q2,_⟩:=qCN (S.row_at (i:=0) rfl)
  exact ⟨q1,q2⟩
 have hxc2:[x].length≤c2_0:=(qCN (S.row_at (i:=1) rfl)).2.1
 have hE_:=E
 obtain ⟨g,cur,rfl,hsz,hrep,S⟩:=S.unrow (by omega)
 replace S:=S.front 1 rfl
 obtain ⟨g2,cur2,rfl,hsz2,hrep2,S⟩:=S.unrow (by simp)
 replace E:=hE_
 have hne:g2≠g:=S.ne (i:=0) (j:=1) rfl rfl (by decide)
 obtain ⟨cs,hcs⟩:∃ cs,cs=cur2.toList.take 6:=⟨_,rfl⟩
 have hx:(qA.k).K F x cs:=by
  have h5:=hrep2.2 0 x rfl
  rw [Nat.zero_mul,List.drop_zero,List.take_take]at h5
  rw [hcs]
  exact h5
 have hcl:cs.length=6:=(qA.k).len hx
 have hcget:∀ q u,cs[q]? = some u→cur2[q]? = some u:=fun q u hq=>by
  rw [hcs,List.getElem?_take]at hq
  split at hq
  ·
   rwa [Array.getElem?_toList]at hq
  ·
   cases hq
 have hcone:∀ u ∈ cs,u.oneCell'=true:=(qA.k).one hx
 obtain ⟨inner,hin⟩:∃ inner,inner=cur.toList.take (p.length * 6):=⟨_,rfl⟩
 replace hrep:RepsK qA.k F p inner:=by rw [hin]; exact hrep
 have hil:inner.length=p.length * 6:=hrep.1
 have hione:∀ u ∈ inner.drop (j * 6),u.oneCell'=true:=fun u hu=>hrep.one u (List.mem_of_mem_drop hu)
 have hidl:(inner.drop (j * 6)).length=(p.length - j) * 6:=by rw [List.length_drop,hil,Nat.sub_mul]
 have higet:∀ q u,(inner.drop (j * 6))[q]? = some u→cur[j * 6+q]? = some u:=fun q u hq=>by
  rw [List.getElem?_drop,hin,List.getElem?_take]at hq
  split at hq
  ·
   rwa [Array.getElem?_toList]at hq
  ·
   cases hq
 replace hsz:cur.size=c0_0 * 6:=hsz
 have hw1:w64 ((p.length:Int)+(([x].length:Nat):Int))=((p.length+1:Nat):Int):=by
  simp only [List.length_cons,List.length_nil]
  rw [qCQ (by omega) (by omega)]
  omega
 have hw2:w64 ((j:Int)+(([x].length:Nat):Int))=((j+1:Nat):Int):=by
  simp only [List.length_cons,List.length_nil]
  rw [qCQ (by omega) (by omega)]
  omega
 refine sq fun K9 hK9=>rg E (.r 0 4<|.y 4 (y_cap (A:=some ⟨g,0,none⟩) (n:=p.length) (c:=c0_0))<|.r 5 1 .nil) fun a E=>?_
 by_cases hroom:w64 ((p.length:Int)+(([x].length:Nat):Int))>(c0_0:Int)
 ·
  replace E:=E.kt 31 hroom
  rw [hw1]at hroom
  refine ct E ?_
  have hw3:w64 (w64 ((p.length:Int)+(([x].length:Nat):Int)) - (j:Int))=((p.length+1 - j:Nat):Int):=by
   rw [hw1,qCQ (by omega) (by omega)]
   omega
  refine sq fun K11 hK11=>pl0 (plc E (.r 0 2<|.y 2 (y_hi (e:=153) (z:=6) (g:=g) (n:=p.length) (c:=c0_0) (k:=.i64) (hi:=(j:Int)) ⟨by omega,by omega⟩)<|.r 3 5 .nil) (fun a E=>ple E (.gro (e:=153) (g:=g) (c:=c0_0) (j:=j) (z:=6) (bytes:=40) (k:=w64 (w64 ((p.length:Int)+(([x].length:Nat):Int)) - (j:Int))) S (S.ba 1) (by omega) (by omega) (by rw [hsz]; exact Nat.mul_le_mul_right _ (by omega)) (by rw [hw3]; omega) (by kernel_rfl)) ?_))
  rintro _ w1 a ⟨b,arr,cc,rfl,has,hc1,hc2,hpre,S,hag⟩ E
  rw [hw3]at hc1 E
  have hnb:g2≠b:=S.ne (i:=1) (j:=0) rfl rfl (by decide)
  have hgb:g≠b:=S.ne (i:=2) (j:=0) rfl rfl (by decide)
  have hk3:j+((p.length+1 - j:Nat):Int).toNat=p.length+1:=by rw [Int.toNat_natCast]; omega
  rw [hk3]at hc1 E
  have hpi:arr.toList.take (j * 6)=inner.take (j * 6):=by
   rw [hpre,hin,List.take_take,Nat.min_eq_left (Nat.mul_le_mul_right _ (by omega))]
  obtain ⟨s1,s2,s3⟩:=qDk (sz:=6) (n:=p.length) (i:=j) (cap:=cc) (c0:=arr.toList) (inner:=inner) (cs:=cs) hpi hil hcl (by omega) hc1 (by rw [Array.length_toList]; exact has)
  obtain ⟨C1,hC1⟩:∃ C1,C1=arr.toList.take (j * 6)++cs++arr.toList.drop (j * 6+cs.length):=⟨_,rfl⟩
  rw [← hC1]at s1 s2 s3
  obtain ⟨C2,hC2⟩:∃ C2,C2=C1.take ((j+1) * 6)++inner.drop (j * 6)++C1.drop ((j+1) * 6+(inner.drop (j * 6)).length):=⟨_,rfl⟩
  rw [← hC2]at s1 s2
  refine plc E (.r 9 1 .nil) (fun a E=>pld (hK11 _ _ (sq fun K12 hK12=>pl0 (plc E (.r 0 2<|.y 2 (y_lo (e:=153) (z:=6) (g:=b) (n:=p.length+1) (c:=cc) (k:=.i64) (lo:=(j:Int)) ⟨by omega,by omega⟩ (by omega))<|.r 3 1 .nil) (fun a E=>?_)))))
  have hb2:=S.ba 1
  have hbg:=S.ba 2
  have hmin1:Nat.min [x].length (p.length+1 - (j:Int).toNat)=1:=by
   rw [Int.toNat_natCast]
   simp only [List.length_cons,List.length_nil]
   exact Nat.min_eq_left (by omega)
  refine ple E (.cpy (e:=153) (z:=6) (off:=(j:Int).toNat * 6) (dn:=p.length+1 - (j:Int).toNat) (dc:=cc - (j:Int).toNat) (sn:=[x].length) (sc:=c2_0) (sa:=⟨g2,0,none⟩) S cs (by rw [hmin1,hcl]) (fun q u hq=>by rw [qCZ,Nat.zero_add]; exact qCS hb2 (hcget q u hq)) hcone (by
      rw [Int.toNat_natCast,has,hcl]
      have:=Nat.mul_le_mul_right 6 (show j+1≤cc by omega)
      omega) (by kernel_rfl)) ?_
  rintro _ w2 a ⟨rfl,S,hz,hnew,hoth⟩ E
  simp only [Int.toNat_natCast]at S hnew
  rw [← hC1]at S hnew
  refine pld (hK12 _ _ (sq fun K13 hK13=>?_))
  refine drawn 9 ⟨[8],[],fun q=>False⟩ mixed rfl (by kernel_rfl) (fun hst=>?_)
  replace S:=S.drew
  have hbg2:=S.ba 2
  refine mny 1 hst E (.r 0 4<|.y 4 (y_lo (e:=153) (z:=6) (g:=b) (n:=p.length+1) (c:=cc) (k:=.i64) (lo:=w64 ((j:Int)+(([x].length:Nat):Int))) ⟨by omega,by omega⟩ (by omega))<|.r 5 2<|.y 7 (y_lo (e:=153) (z:=6) (g:=g) (n:=p.length) (c:=c0_0) (k:=.i64) (lo:=(j:Int)) ⟨by omega,by omega⟩ (by omega)) .nil) (fun a E=>?_)
  refine on1 8 E (.cpy (e:=153) (z:=6) (off:=(w64 ((j:Int)+(([x].length:Nat):Int))).toNat * 6) (dn:=p.length+1 - (w64 ((j:Int)+(([x].length:Nat):Int))).toNat) (dc:=cc - (w64 ((j:Int)+(([x].length:Nat):Int))).toNat) (sn:=p.length - (j:Int).toNat) (sc:=c0_0 - (j:Int).toNat) (sa:=⟨g,(j:Int).toNat * 6,none⟩) S (inner.drop (j * 6)) (by
      rw [hw2,Int.toNat_natCast,Int.toNat_natCast,hidl,show p.length+1 - (j+1)=p.length - j by omega]
      congr 1
      exact (Nat.min_self _).symm) (fun q u hq=>by rw [qCZ,Int.toNat_natCast]; exact qCS hbg2 (higet q u hq)) hione (by
      rw [hw2,Int.toNat_natCast,hidl,List.size_toArray,s3,← Nat.add_mul]
      exact Nat.mul_le_mul_right _ (by omega)) (by kernel_rfl)) ?_
  rintro _ w3 a ⟨rfl,S,hz,hnew,hoth⟩ E
  refine ⟨.d,?_⟩
  refine dn ?_
  rw [hw2,Int.toNat_natCast]at S
  simp only [List.toList_toArray]at S
  rw [← hC2]at S
  refine hK13 _ _ (rr E fun a E=>(wp_ret (qCJ ?_)))
  have hrl:r.length=p.length+1:=by rw [← hr]; simp; omega
  have hrr:RepsK qA.k F r (C2.toArray.toList.take (r.length * (qA.k).sz)):=by
   rw [hrl]
   show RepsK qA.k F r (C2.take ((p.length+1) * 6))
   rw [s1,← hr]
   exact qCn hrep hx (by omega) rfl
  have hS2:=S.rerow (c:=cc) r (show C2.toArray.size=cc * 6 by simpa using s2) (by omega) hc2 hrr
  replace hS2:=hS2.front 1 rfl
  replace hS2:=hS2.tail
  replace hS2:=hS2.front 1 rfl
  replace hS2:=hS2.tail
  rw [← hrl]at E
  exact rt1 E ⟨_,rfl,F,_,_,rfl,hS2⟩
 replace E:=E.kf 31 hroom
 rw [hw1]at hroom
 have hrm:p.length+1≤c0_0:=by omega
 refine cf E (wp_skip (hK9 _ _ ?_))
 obtain ⟨s1,s2,s3⟩:=qEM (sz:=6) (n:=p.length) (i:=j) (cap:=c0_0) (cur:=cur.toList) (inner:=inner) (cs:=cs) hin.symm hcl (by omega) hrm (by rw [Array.length_toList]; exact hsz)
 obtain ⟨C1,hC1⟩:∃ C1,C1=cur.toList.take ((j+1) * 6)++inner.drop (j * 6)++cur.toList.drop ((j+1) * 6+(inner.drop (j * 6)).length):=⟨_,rfl⟩
 rw [← hC1]at s1 s2 s3
 obtain ⟨C2,hC2⟩:∃ C2,C2=C1.take (j * 6)++cs++C1.drop (j * 6+cs.length):=⟨_,rfl⟩
 rw [← hC2]at s1 s2
 refine rg E (.r 0 4<|.y 4 (y_hi (e:=153) (z:=6) (g:=g) (n:=p.length) (c:=c0_0) (k:=.i64) (hi:=w64 ((p.length:Int)+(([x].length:Nat):Int))) ⟨by omega,by omega⟩)<|.r 5 1 .nil) fun a E=>?_
 have hn1:(w64 ((p.length:Int)+(([x].length:Nat):Int))).toNat=p.length+1:=by rw [hw1,Int.toNat_natCast]
 rw [hn1]at E
 refine sq fun K16 hK16=>sq fun K17 hK17=>pl0 (plc E (.r 0 5<|.y 5 (y_lo (e:=153) (z:=6) (g:=g) (n:=p.length+1) (c:=c0_0) (k:=.i64) (lo:=w64 ((j:Int)+(([x].length:Nat):Int))) ⟨by omega,by omega⟩ (by omega)) .nil) (fun a E=>?_))
 have hb2:=S.ba 0
 have hbg:=S.ba 1
 have hcz:cur.size≠0:=by rw [hsz]; exact Nat.mul_ne_zero (by omega) (by decide)
 refine ple E (.ext (f:=252) (args:=[.slice (pb g2) [x].length c2_0,.slice (some ⟨g,(w64 ((j:Int)+(([x].length:Nat):Int))).toNat * 6,none⟩) (p.length+1 - (w64 ((j:Int)+(([x].length:Nat):Int))).toNat) (c0_0 - (w64 ((j:Int)+(([x].length:Nat):Int))).toNat)]) (v:=.bool false) (R:=fun v w'=>v = .bool false∧w'=_) (by
    rw [run_callFunc_extern Tryz.func252 (by kernel_rfl) (by kernel_rfl) (by kernel_rfl) (e:=Extern.SlicesOverlaps.overlaps #[23,23] #[4]) (by kernel_rfl)]
    refine (congrArg (fun r:Result Value=>r.andThen fun v w'=>Result.ok (Next.value v) w') (Lib.run_overlaps_apart _ 23 4 153 Tryz.underlying23 6 (fun _=>by kernel_rfl) ⟨g2,0,none⟩ ⟨g,(w64 ((j:Int)+(([x].length:Nat):Int))).toNat * 6,none⟩ [x].length c2_0 _ _ hne 153 153 cur2.size cur.size (by simp [World.shape?,hb2]) (by simp [World.shape?,hbg]) hcz (by simp [World.frozen?,hb2]) (by simp [World.frozen?,hb2]))).trans rfl) ⟨rfl,rfl⟩) ?_
 rintro _ _ a ⟨rfl,rfl⟩ E
 refine plc E (.r 7 1 .nil) (fun a E=>pld (hK17 _ _ (ct E (sq fun K18 hK18=>?_))))
 refine drawn 9 ⟨[8],[],fun q=>False⟩ mixed rfl (by kernel_rfl) (fun hst=>?_)
 replace S:=S.drew
 replace S:=S.front 1 rfl
 have hbg2:=S.ba 0
 refine mny 1 hst E (.r 0 4<|.y 4 (y_lo (e:=153) (z:=6) (g:=g) (n:=p.length+1) (c:=c0_0) (k:=.i64) (lo:=w64 ((j:Int)+(([x].length:Nat):Int))) ⟨by omega,by omega⟩ (by omega))<|.r 5 2<|.y 7 (y_lo (e:=153) (z:=6) (g:=g) (n:=p.length+1) (c:=c0_0) (k:=.i64) (lo:=(j:Int)) ⟨by omega,by omega⟩ (by omega)) .nil) (fun a E=>?_)
 refine on1 8 E (.cpy (e:=153) (z:=6) (off:=(w64 ((j:Int)+(([x].length:Nat):Int))).toNat * 6) (dn:=p.length+1 - (w64 ((j:Int)+(([x].length:Nat):Int))).toNat) (dc:=c0_0 - (w64 ((j:Int)+(([x].length:Nat):Int))).toNat) (sn:=p.length+1 - (j:Int).toNat) (sc:=c0_0 - (j:Int).toNat) (sa:=⟨g,(j:Int).toNat * 6,none⟩) S (inner.drop (j * 6)) (by
    rw [hw2,Int.toNat_natCast,Int.toNat_natCast,hidl,show p.length+1 - (j+1)=p.length - j by omega]
    congr 1
    exact (Nat.min_eq_right (by omega)).symm) (fun q u hq=>by rw [qCZ,Int.toNat_natCast]; exact qCS hbg2 (higet q u hq)) hione (by
    rw [hw2,Int.toNat_natCast,hidl,hsz,← Nat.add_mul]
    exact Nat.mul_le_mul_right _ (by omega)) (by kernel_rfl)) ?_
 rintro _ w2 a ⟨rfl,S,hz,hnew,hoth⟩ E
 refine ⟨.d,?_⟩
 refine dn ?_
 rw [hw2,Int.toNat_natCast,← hC1]at S
 refine hK18 _ _ (sq fun K19 hK19=>pl0 ?_)
 have hb3:=S.ba 1
 refine plc E (.r 0 2<|.y 2 (y_lo (e:=153) (z:=6) (g:=g) (n:=p.length+1) (c:=c0_0) (k:=.i64) (lo:=(j:Int)) ⟨by omega,by omega⟩ (by omega))<|.r 3 1 .nil) (fun a E=>?_)
 have hmin1:Nat.min [x].length (p.length+1 - (j:Int).toNat)=1:=by
  rw [Int.toNat_natCast]
  simp only [List.length_cons,List.length_nil]
  exact Nat.min_eq_left (by omega)
 refine ple E (.cpy (e:=153) (z:=6) (off:=(j:Int).toNat * 6) (dn:=p.length+1 - (j:Int).toNat) (dc:=c0_0 - (j:Int).toNat) (sn:=[x].length) (sc:=c2_0) (sa:=⟨g2,0,none⟩) S cs (by rw [hmin1,hcl]) (fun q u hq=>by rw [qCZ,Nat.zero_add]; exact qCS hb3 (hcget q u hq)) hcone (by
    rw [Int.toNat_natCast,List.size_toArray,s3,hcl]
    have:=Nat.mul_le_mul_right 6 (show j+1≤c0_0 by omega)
    omega) (by kernel_rfl)) ?_
 rintro _ w3 a ⟨rfl,S,hz,hnew,hoth⟩ E
 simp only [Int.toNat_natCast,List.toList_toArray]at S
 rw [← hC2]at S
 refine pld (hK19 _ _ (rr E fun a E=>(wp_ret (qCJ ?_))))
 have hrl:r.length=p.length+1:=by rw [← hr]; simp; omega
 have hrr:RepsK qA.k F r (C2.toArray.toList.take (r.length * (qA.k).sz)):=by
  rw [hrl]
  show RepsK qA.k F r (C2.take ((p.length+1) * 6))
  rw [s1,← hr]
  exact qCn hrep hx (by omega) rfl
 have hS2:=S.rerow (c:=c0_0) r (show C2.toArray.size=c0_0 * 6 by simpa using s2) (by omega) hxc.2 hrr
 replace hS2:=hS2.front 1 rfl
 replace hS2:=hS2.tail
 rw [← hrl]at E
 exact rt1 E ⟨_,rfl,F,_,_,rfl,hS2⟩
def qCG.f(k:Nat)(x:qF)(y:qE):Option (qF × Int):=(qCF.f k x y.f1).bind fun t10=>(if t10.2=true then (some (x,7)) else (if (x.f4.length:Int)=12 then (some (x,6)) else ((qAk.f x.f4 t10.1 [(⟨y.f1,y.f2,y.f3,y.f4,false,true⟩:qA)]).bind fun t27=>((qAI.f k t27).bind fun t37=>(some ((⟨x.f0,x.f1,x.f2,x.f3,t27,x.f5,x.f6⟩:qF),t37))))))
def qCG.Post(x:qF)(y:qE)(A0_4:OA)(c0_4:Nat)(A0_5:OA)(c0_5:Nat)(A0_6:OA)(c0_6:Nat)(A1_6:OA)(c1_6:Nat)(W F:World)(r:qF × Int)(v:Value)(w':World):Prop:=∃(F':World)(RA0_4:OA)(rc0_4:Nat)(RA0_5:OA)(rc0_5:Nat)(RA0_6:OA)(rc0_6:Nat),v = .tuple #[.agg #[iv r.1.f0,iv r.1.f1,iv r.1.f2,iv r.1.f3,.slice RA0_4 r.1.f4.length rc0_4,.slice RA0_5 r.1.f5.length rc0_5,.slice RA0_6 r.1.f6.length rc0_6],iv r.2]∧St W (mine W [row qA.k 153 (.slice A0_4 x.f4.length c0_4) x.f4]) F w' F' [row qA.k 153 (.slice RA0_4 r.1.f4.length rc0_4) r.1.f4]∧Rd qI.k F' RA0_5 rc0_5 r.1.f5∧Rd qC.k F' RA0_6 rc0_6 r.1.f6
theorem qCG.calls(k:Nat)(x:qF)(y:qE)(A0_4:OA)(c0_4:Nat)(A0_5:OA)(c0_5:Nat)(A0_6:OA)(c0_6:Nat)(A1_6:OA)(c1_6:Nat)(r:qF × Int)(W F:World)(hown:Own W F [row qA.k 153 (.slice A0_4 x.f4.length c0_4) x.f4])(g0_5:Rd qI.k F A0_5 c0_5 x.f5)(g0_6:Rd qC.k F A0_6 c0_6 x.f6)(g1_6:Rd ki F A1_6 c1_6 y.f6)(H:qCG.f k x y=some r):
    Cr 178 #[.agg #[iv x.f0,iv x.f1,iv x.f2,iv x.f3,.slice A0_4 x.f4.length c0_4,.slice A0_5 x.f5.length c0_5,.slice A0_6 x.f6.length c0_6],.agg #[iv y.f0,iv y.f1,iv y.f2,iv y.f3,iv y.f4,iv y.f5,.slice A1_6 y.f6.length c1_6]] W (qCG.Post x y A0_4 c0_4 A0_5 c0_5 A0_6 c0_6 A1_6 c1_6 W F r):=by
 have S:=St.start hown
 obtain ⟨N,hN⟩:∃ N,N=mine W [row qA.k 153 (.slice A0_4 x.f4.length c0_4) x.f4]:=⟨_,rfl⟩
 rw [← hN]at S
 unfold qCG.f at H
 refine ent 43 rfl rfl rfl (fun a E=>?_)
 refine sq fun K1 hK1=>pl0 (plx (t:=27) E S [iv x.f0,iv x.f1,iv x.f2,iv x.f3,.slice A0_4 x.f4.length c0_4,.slice A0_5 x.f5.length c0_5,.slice A0_6 x.f6.length c0_6] fun b2 u3 hb2 S a E=>plx (t:=96) E S [iv y.f0,iv y.f1,iv y.f2,iv y.f3,iv y.f4,iv y.f5,.slice A1_6 y.f6.length c1_6] fun b4 u5 hb4 S a E=>pla (t:=27) E S [iv 0,iv 0,iv 0,iv 0,.slice none 0 0,.slice none 0 0,.slice none 0 0] fun b6 u7 hb6 S a E=>plc E (.r 3 1 .nil) (fun a E=>pld (hK1 _ _ (sq fun K8 hK8=>pl0 ?_))))
 have hb2:=S.ba 2
 refine plc E (.bn 0 0 7 hb2<|.r 1 1<|.b 2 1 (S.ba 1)<|.nil) (fun a E=>?_)
 obtain ⟨t10,h11,H⟩:=bd H
 refine plq E S en181 (qCF.calls k x y.f1 _ _ _ _ _ _ _ _ _ (Sub.refl _) (S.rd_at (i:=3) rfl) (g0_5.mono S.own.sub) (g0_6.mono S.own.sub) h11) fun u9 S a E=>plc E (.r 4 5 .nil) (fun a E=>pld (hK8 _ _ (sq fun K12 hK12=>wp_block (rr E fun a E=>(E.ib 15 H (fun c14 E H=>?_) fun c14 E H=>?_)))))
 refine sq fun K15 hK15=>pl0 (plc E (.bn 0 0 7 (S.ba 2) .nil) (fun a E=>pls E S [iv x.f0,iv x.f1,iv x.f2,iv x.f3,.slice A0_4 x.f4.length c0_4,.slice A0_5 x.f5.length c0_5,.slice A0_6 x.f6.length c0_6] fun u16 hb6 S a E=>plc E (.r 2 1 .nil) (fun a E=>pld (hK15 _ _ (wp_ret (qCK (qCJ ?_)))))))
 replace S:=S.pm [] 3
 rw [hN]at S
 obtain rfl:=si H
 exact rtm E (.b hb6 ag27 sz27 (.t .nil)) ⟨_,rfl,_,_,_,_,_,_,_,rfl,S,g0_5,g0_6⟩
 refine sq fun K17 hK17=>pl0 ?_
 have hb2:=S.ba 2
 refine plc E (.r 0 1<|.b 1 4 hb2<|.r 2 3<|.nil) (fun a E=>pld (hK17 _ _ (E.ik 18 H (fun c18 E H=>?_) fun c18 E H=>?_)))
 refine sq fun K19 hK19=>pl0 (plc E (.bn 0 0 7 hb2 .nil) (fun a E=>pls E S [iv x.f0,iv x.f1,iv x.f2,iv x.f3,.slice A0_4 x.f4.length c0_4,.slice A0_5 x.f5.length c0_5,.slice A0_6 x.f6.length c0_6] fun u20 hb6 S a E=>plc E (.r 2 1 .nil) (fun a E=>pld (hK19 _ _ (wp_ret (qCK (qCJ ?_)))))))
 replace S:=S.pm [] 3
 rw [hN]at S
 obtain rfl:=si H
 exact rtm E (.b hb6 ag27 sz27 (.t .nil)) ⟨_,rfl,_,_,_,_,_,_,_,rfl,S,g0_5,g0_6⟩
 refine wp_skip ?_
 refine qCL ?_
 refine hK12 _ _ (sq fun K21 hK21=>pl0 ?_)
 have hb4:=S.ba 1
 refine plc E (.r 0 1<|.b 1 4 hb2<|.r 2 2<|.b 4 1 hb4<|.r 5 1<|.b 6 2 hb4<|.r 7 1<|.b 8 3 hb4<|.r 9 1<|.b 10 4 hb4<|.r 11 1<|.nil) (fun a E=>ple E (.lit (d:=qA.k) (e:=153) S [(⟨y.f1,y.f2,y.f3,y.f4,false,true⟩:qA)] (.cons rfl .nil)) ?_)
 rintro _ u22 a ⟨A23,c24,rfl,S,hg⟩ E
 replace S:=S.front 4 rfl
 obtain ⟨t27,h28,H⟩:=bd H
 refine ple E (.cl en217 (qAk.calls x.f4 t10.1 [(⟨y.f1,y.f2,y.f3,y.f4,false,true⟩:qA)] _ _ _ _ _ _ _ (Own.left (X:=[row qA.k 153 (.slice A0_4 x.f4.length c0_4) x.f4,row qA.k 153 (.slice A23 ([(⟨y.f1,y.f2,y.f3,y.f4,false,true⟩:qA)].length) c24) [(⟨y.f1,y.f2,y.f3,y.f4,false,true⟩:qA)]]) S.own) h28)) ?_
 rintro _ u26 a ⟨F29,A30,c31,rfl,hC⟩ E
 have hs:=hC.sub
 replace S:=S.called (X:=[row qA.k 153 (.slice A0_4 x.f4.length c0_4) x.f4,row qA.k 153 (.slice A23 ([(⟨y.f1,y.f2,y.f3,y.f4,false,true⟩:qA)].length) c24) [(⟨y.f1,y.f2,y.f3,y.f4,false,true⟩:qA)]]) hC
 replace g0_5:=g0_5.mono hs
 replace g0_6:=g0_6.mono hs
 replace g1_6:=g1_6.mono hs
 refine plc E (.r 14 1 .nil) (fun a E=>?_)
 replace S:=S.front 3 rfl
 refine pls E S [iv x.f0,iv x.f1,iv x.f2,iv x.f3,.slice A30 t27.length c31,.slice A0_5 x.f5.length c0_5,.slice A0_6 x.f6.length c0_6] fun u34 hb2 S a E=>pld (hK21 _ _ (sq fun K35 hK35=>?_))
 refine drawn 6 ⟨[4],[],fun q=>False⟩ mixed rfl (by kernel_rfl) (fun hst=>?_)
 replace S:=S.drew
 have hb2:=S.ba 0
 refine mny 3 hst E (.bn 0 0 7 hb2<|.r 1 1<|.b 2 4 hb2<|.nil) (fun a E=>?_)
 obtain ⟨t37,h38,H⟩:=bd H
 refine on1 3 E (.cl en95 (qAI.calls k t27 _ _ _ _ _ (Sub.refl _) (S.rd_at (i:=1) rfl) h38)) ?_
 rintro _ u36 a ⟨_,rfl,hC⟩ E
 refine ⟨.of hC.agr,?_⟩
 replace S:=S.lent hC
 replace S:=S.front 2 rfl
 refine on1 4 E (.sto S [iv x.f0,iv x.f1,iv x.f2,iv x.f3,.slice A30 t27.length c31,.slice A0_5 x.f5.length c0_5,.slice A0_6 x.f6.length c0_6]) ?_
 rintro _ u39 a ⟨rfl,hb6,S,hz⟩ E
 refine ⟨.d,?_⟩
 refine mny 0 hst E (.r 5 1 .nil) (fun a E=>?_)
 refine dn ?_
 refine hK35 _ _ (wp_ret ?_)
 replace S:=S.pm [2] 4
 rw [hN]at S
 obtain rfl:=si H
 exact rtm E (.b hb6 ag27 sz27 (.t .nil)) ⟨_,rfl,_,_,_,_,_,_,_,rfl,S,g0_5,g0_6⟩
set_option maxRecDepth 100000 in
theorem qCH.same(b:Bool){c:Bool}(p:Addr)(W:World)(h:W.cell? p=some (.bool c))(hc:c=b):Calls Tryz.prog 221 #[.pointer (some p),.bool b] W fun e w'=>∃ v,e = .returned v∧(v=iv 7∧w'=W):=by
 subst hc
 refine enter (n:=13) rfl rfl rfl (Nat.le_of_ble_eq_true rfl) (fun a hE=>?_)
 refine sq fun K0 hK0=>?_
 refine pl0 ?_
 refine plc hE (.r 0 1 .nil) (fun a hE=>?_)
 refine pld ?_
 refine hK0 _ _ ?_
 refine sq fun K1 hK1=>?_
 refine sq fun K2 hK2=>?_
 refine pl0 ?_
 refine plc hE (.r 0 2<|.c 2 h<|.r 3 2 .nil) (fun a hE=>?_)
 refine pld ?_
 refine hK2 _ _ ?_
 replace hE:=hE.et 9 (rfl:c=c)
 refine ct hE ?_
 refine sq fun K3 hK3=>?_
 refine pl0 ?_
 refine plc hE (.r 0 1 .nil) (fun a hE=>?_)
 refine pld ?_
 refine hK3 _ _ ?_
 refine wp_ret (qCJ ?_)
 exact rt1 hE ⟨_,rfl,rfl,rfl⟩
set_option maxRecDepth 100000 in
theorem qCH.turn {W0:World} {N:Nat→Prop} {F0 W F:World} {L:List Asrt} {xs:List qA} {g n c:Nat} {i:Int} {p:Addr} (hS:St W0 N F0 W F (row qA.k 153 (.slice (pb g) n c) xs :: L)) (yv:qA) (off:Nat) (h01:0≤i∧i<(xs.length:Int)) (cs:List Value) (hcs:∀(j:Nat)(u:Value),cs[j]? = some u→W.cell? (((⟨g,0,none⟩:Addr).add (i.toNat * (qA.k).sz)).add j)=some u) (cur to:Bool) (cs':List Value) (hcur:cs[off]? = some (.bool cur)) (hK:(qA.k).K F yv cs') (hne:¬ cur=to) (hp:p=((⟨g,0,none⟩:Addr).add (i.toNat * (qA.k).sz)).add off:=by rfl)
  (hk:cs'=cs.take off++[.bool to]++cs.drop (off+1):=by rfl) (hl:Nat.beq cs.length (qA.k).sz=true:=by kernel_rfl) (ho:Nat.ble (off+1) (qA.k).sz=true:=by kernel_rfl):Calls Tryz.prog 221 #[.pointer (some p),.bool to] W fun e w'=>∃ v,e = .returned v∧(v=iv 0∧St W0 N F0 w' F (row qA.k 153 (.slice (pb g) n c) (xs.set i.toNat yv) :: L)∧AgrX (fun q=>q=g) W w'):=by
 subst hp
 subst hk
 have h:=hcs off _ hcur
 refine enter (n:=13) rfl rfl rfl (Nat.le_of_ble_eq_true rfl) (fun a hE=>?_)
 refine sq fun K0 hK0=>?_
 refine pl0 ?_
 refine plc hE (.r 0 1 .nil) (fun a hE=>?_)
 refine pld ?_
 refine hK0 _ _ ?_
 refine sq fun K1 hK1=>?_
 refine sq fun K2 hK2=>?_
 refine pl0 ?_
 refine plc hE (.r 0 2<|.c 2 h<|.r 3 2 .nil) (fun a hE=>?_)
 refine pld ?_
 refine hK2 _ _ ?_
 replace hE:=hE.ef 9 hne
 refine cf hE ?_
 refine wp_skip ?_
 refine hK1 _ _ ?_
 refine sq fun K3 hK3=>?_
 refine pl0 ?_
 refine plc hE (.r 0 3 .nil) (fun a hE=>?_)
 refine ple hE (.setx (d:=qA.k) (n:=n) (i:=i) yv off (ea1 _ _ _) hS h01 cs hcs _ hK ?_) ?_
 ·unfold setK
  show (match (Nat.beq [Value.bool to].length 1&&Nat.ble (off+1) (qA.k).sz)&&(true&&Nat.beq cs.length (qA.k).sz) with
   | true=>some (((⟨g,0,none⟩:Addr).add (i.toNat * (qA.k).sz)).add off,cs.take off++[.bool to]++cs.drop (off+1))
   | false=>none)=some _
  rw [hl,ho]
  rfl
 rintro _ w1 a ⟨rfl,hS,hz,hX⟩ hE
 refine pld ?_
 refine hK3 _ _ ?_
 refine sq fun K4 hK4=>?_
 refine pl0 ?_
 refine plc hE (.r 0 1 .nil) (fun a hE=>?_)
 refine pld ?_
 refine hK4 _ _ ?_
 refine wp_ret ?_
 exact rt1 hE ⟨_,rfl,rfl,hS,hX⟩
mutual
def qBE.j45:Nat→qF→Int→qE→Bool→Option (qF × Int)
 | 0,_,_,_,_=>none
 | k+1,x,y,z,y44=>if y44=true then (if ((nth qA.z x.f4 y).f4)=(z.f0 == 3) then (some (x,7)) else (some ((⟨x.f0,x.f1,x.f2,x.f3,(x.f4.set (y).toNat (⟨(nth qA.z x.f4 y).f0,(nth qA.z x.f4 y).f1,(nth qA.z x.f4 y).f2,(nth qA.z x.f4 y).f3,(z.f0 == 3),(nth qA.z x.f4 y).f5⟩:qA)),x.f5,x.f6⟩:qF),0))) else (if z.f0=5 then (qBE.j64 k x y z true) else (qBE.j64 k x y z (z.f0 == 6)))
def qBE.j64:Nat→qF→Int→qE→Bool→Option (qF × Int)
 | 0,_,_,_,_=>none
 | k+1,x,y,z,y63=>if y63=true then (if ((nth qA.z x.f4 y).f5)=(z.f0 == 6) then (some (x,7)) else (some ((⟨x.f0,x.f1,x.f2,x.f3,(x.f4.set (y).toNat (⟨(nth qA.z x.f4 y).f0,(nth qA.z x.f4 y).f1,(nth qA.z x.f4 y).f2,(nth qA.z x.f4 y).f3,(nth qA.z x.f4 y).f4,(z.f0 == 6)⟩:qA)),x.f5,x.f6⟩:qF),0))) else (none)
end
theorem qBE.j45_s k x y z y44:type_of% (qBE.j45.eq_2 x y z y44 k):=qBE.j45.eq_2 x y z y44 k
theorem qBE.j64_s k x y z y63:type_of% (qBE.j64.eq_2 x y z y63 k):=qBE.j64.eq_2 x y z y63 k
def qBE.f(k:Nat)(x:qF)(y:Int)(z:qE):Option (qF × Int):=if 0≤y∧y<(x.f4.length:Int) then (if z.f0=2 then ((qBD.f z.f4 0 65536).bind fun t22=>(if t22=true then (if (nth qA.z x.f4 y).f3=z.f4 then (some (x,7)) else (some ((⟨x.f0,x.f1,x.f2,x.f3,(x.f4.set (y).toNat (⟨(nth qA.z x.f4 y).f0,(nth qA.z x.f4 y).f1,(nth qA.z x.f4 y).f2,z.f4,(nth qA.z x.f4 y).f4,(nth qA.z x.f4 y).f5⟩:qA)),x.f5,x.f6⟩:qF),0))) else (some (x,1)))) else (if z.f0=3 then (qBE.j45 k x y z true) else (qBE.j45 k x y z (z.f0 == 4)))) else (none)
def qBE.Post(x:qF)(y:Int)(z:qE)(A0_4:OA)(c0_4:Nat)(A0_5:OA)(c0_5:Nat)(A0_6:OA)(c0_6:Nat)(A2_6:OA)(c2_6:Nat)(W F:World)(r:qF × Int)(v:Value)(w':World):Prop:=∃(F':World)(RA0_4:OA)(rc0_4:Nat)(RA0_5:OA)(rc0_5:Nat)(RA0_6:OA)(rc0_6:Nat),v = .tuple #[.agg #[iv r.1.f0,iv r.1.f1,iv r.1.f2,iv r.1.f3,.slice RA0_4 r.1.f4.length rc0_4,.slice RA0_5 r.1.f5.length rc0_5,.slice RA0_6 r.1.f6.length rc0_6],iv r.2]∧St W (mine W [row qA.k 153 (.slice A0_4 x.f4.length c0_4) x.f4]) F w' F' [row qA.k 153 (.slice RA0_4 r.1.f4.length rc0_4) r.1.f4]∧Rd qI.k F' RA0_5 rc0_5 r.1.f5∧Rd qC.k F' RA0_6 rc0_6 r.1.f6
theorem qBE.calls(k:Nat)(x:qF)(y:Int)(z:qE)(A0_4:OA)(c0_4:Nat)(A0_5:OA)(c0_5:Nat)(A0_6:OA)(c0_6:Nat)(A2_6:OA)(c2_6:Nat)(r:qF × Int)(W F:World)(hown:Own W F [row qA.k 153 (.slice A0_4 x.f4.length c0_4) x.f4])(g0_5:Rd qI.k F A0_5 c0_5 x.f5)(g0_6:Rd qC.k F A0_6 c0_6 x.f6)(g2_6:Rd ki F A2_6 c2_6 z.f6)(H:qBE.f k x y z=some r):
    Cr 182 #[.agg #[iv x.f0,iv x.f1,iv x.f2,iv x.f3,.slice A0_4 x.f4.length c0_4,.slice A0_5 x.f5.length c0_5,.slice A0_6 x.f6.length c0_6],iv y,.agg #[iv z.f0,iv z.f1,iv z.f2,iv z.f3,iv z.f4,iv z.f5,.slice A2_6 z.f6.length c2_6]] W (qBE.Post x y z A0_4 c0_4 A0_5 c0_5 A0_6 c0_6 A2_6 c2_6 W F r):=by
 have S:=St.start hown
 obtain ⟨N,hN⟩:∃ N,N=mine W [row qA.k 153 (.slice A0_4 x.f4.length c0_4) x.f4]:=⟨_,rfl⟩
 rw [← hN]at S
 unfold qBE.f at H
 refine ent 98 rfl rfl rfl (fun a E=>?_)
 refine sq fun K1 hK1=>pl0 (plx (t:=27) E S [iv x.f0,iv x.f1,iv x.f2,iv x.f3,.slice A0_4 x.f4.length c0_4,.slice A0_5 x.f5.length c0_5,.slice A0_6 x.f6.length c0_6] fun b2 u3 hb2 S a E=>plx (t:=96) E S [iv z.f0,iv z.f1,iv z.f2,iv z.f3,iv z.f4,iv z.f5,.slice A2_6 z.f6.length c2_6] fun b4 u5 hb4 S a E=>pla (t:=27) E S [iv 0,iv 0,iv 0,iv 0,.slice none 0 0,.slice none 0 0,.slice none 0 0] fun b6 u7 hb6 S a E=>plc E (.r 3 1 .nil) (fun a E=>pld (hK1 _ _ (sq fun K8 hK8=>pl0 ?_))))
 have hb2:=S.ba 2
 obtain ⟨c9,H⟩:=gd H
 have hr10:=S.ra 3
 have hE_:=E
 obtain ⟨b11,rfl⟩:=qCP hr10 c9.1 c9.2
 replace E:=hE_
 have hr_:=S.ra 3
 obtain ⟨cs13,rfl,hc14⟩:=qCO hr_ qA.z y c9.1 c9.2
 refine plc E (.r 0 1<|.b 1 4 hb2<|.r 2 1<|.x 3 c9<|.r 4 1<|.nil) (fun a E=>pld (hK8 _ _ (sq fun K15 hK15=>sq fun K16 hK16=>pl0 ?_)))
 have hb4:=S.ba 1
 refine plc E (.r 0 1<|.b 1 0 hb4<|.nil) (fun a E=>pld (hK16 _ _ (wp_block (rr E fun a E=>(E.ik 16 H (fun c18 E H=>?_) fun c18 E H=>?_)))))
 refine sq fun K19 hK19=>sq fun K20 hK20=>pl0 (plc E (.r 0 1<|.b 1 4 hb4<|.nil) (fun a E=>?_))
 obtain ⟨t22,h23,H⟩:=bd H
 refine plq E S en94 (qBD.calls z.f4 0 65536 _ _ _ S.own.sub h23) fun u21 S a E=>plc E (.r 3 1 .nil) (fun a E=>pld (hK20 _ _ (E.ibn 21 H (fun c24 E H=>?_) fun c24 E H=>?_)))
 refine wp_skip (hK19 _ _ (sq fun K27 hK27=>sq fun K28 hK28=>?_))
 refine drawn 7 ⟨[],[],fun q=>False⟩ mixed rfl (by kernel_rfl) (fun hst=>?_)
 replace S:=S.drew
 obtain ⟨cs29,rfl,hc30⟩:=qCO (S.row_at (i:=3) rfl) qA.z y c9.1 c9.2
 have hb4:=S.ba 1
 refine mny 0 hst E (.r 0 3<|.c 3 (hc30 3 _ rfl)<|.r 4 1<|.b 5 4 hb4<|.r 6 1<|.nil) (fun a E=>?_)
 refine dn ?_
 refine hK28 _ _ (E.ik 29 H (fun c31 E H=>?_) fun c31 E H=>?_)
 refine sq fun K32 hK32=>pl0 (plc E (.bn 0 0 7 (S.ba 2) .nil) (fun a E=>pls E S [iv x.f0,iv x.f1,iv x.f2,iv x.f3,.slice (pb b11) x.f4.length c0_4,.slice A0_5 x.f5.length c0_5,.slice A0_6 x.f6.length c0_6] fun u33 hb6 S a E=>plc E (.r 2 1 .nil) (fun a E=>pld (hK32 _ _ (wp_ret (qCJ (qCK (qCJ ?_))))))))
 replace S:=S.pm [] 3
 rw [hN]at S
 obtain rfl:=si H
 exact rtm E (.b hb6 ag27 sz27 (.t .nil)) ⟨_,rfl,_,_,_,_,_,_,_,rfl,S,g0_5,g0_6⟩
 refine wp_skip (hK27 _ _ (sq fun K34 hK34=>pl0 (plc E (.r 0 2<|.b 2 4 hb4<|.r 3 2<|.nil) (fun a E=>?_))))
 replace S:=S.front 3 rfl
 obtain ⟨cs36,rfl,hc37⟩:=qCO (S.row_at (i:=0) rfl) qA.z y c9.1 c9.2
 refine ple E (.set (d:=qA.k) (n:=x.f4.length) (i:=y) (⟨(nth qA.z x.f4 y).f0,(nth qA.z x.f4 y).f1,(nth qA.z x.f4 y).f2,z.f4,(nth qA.z x.f4 y).f4,(nth qA.z x.f4 y).f5⟩:qA) 3 (ea1 _ _ _) S c9 [iv ((nth qA.z x.f4 y).f0),iv ((nth qA.z x.f4 y).f1),iv ((nth qA.z x.f4 y).f2),iv ((nth qA.z x.f4 y).f3),.bool ((nth qA.z x.f4 y).f4),.bool ((nth qA.z x.f4 y).f5)] hc37 [iv ((nth qA.z x.f4 y).f0),iv ((nth qA.z x.f4 y).f1),iv ((nth qA.z x.f4 y).f2),iv z.f4,.bool ((nth qA.z x.f4 y).f4),.bool ((nth qA.z x.f4 y).f5)] rfl) ?_
 rintro _ u35 a ⟨rfl,S,hz⟩ E
 refine pld (hK34 _ _ (sq fun K38 hK38=>pl0 (plc E (.bn 0 0 7 (S.ba 3) .nil) (fun a E=>?_))))
 replace S:=S.front 1 rfl
 refine pls E S [iv x.f0,iv x.f1,iv x.f2,iv x.f3,.slice (pb b11) x.f4.length c0_4,.slice A0_5 x.f5.length c0_5,.slice A0_6 x.f6.length c0_6] fun u39 hb6 S a E=>plc E (.r 2 1 .nil) (fun a E=>pld (hK38 _ _ (wp_ret (qCK (qCJ ?_)))))
 have hn40:=(qCN (S.row_at (i:=1) rfl)).1
 replace S:St W N F u39 F [box b6 #[iv x.f0,iv x.f1,iv x.f2,iv x.f3,.slice (pb b11) ((x.f4.set (y).toNat (⟨(nth qA.z x.f4 y).f0,(nth qA.z x.f4 y).f1,(nth qA.z x.f4 y).f2,z.f4,(nth qA.z x.f4 y).f4,(nth qA.z x.f4 y).f5⟩:qA)).length) c0_4,.slice A0_5 x.f5.length c0_5,.slice A0_6 x.f6.length c0_6] 27,row qA.k 153 (.slice (pb b11) ((x.f4.set (y).toNat (⟨(nth qA.z x.f4 y).f0,(nth qA.z x.f4 y).f1,(nth qA.z x.f4 y).f2,z.f4,(nth qA.z x.f4 y).f4,(nth qA.z x.f4 y).f5⟩:qA)).length) c0_4) (x.f4.set (y).toNat (⟨(nth qA.z x.f4 y).f0,(nth qA.z x.f4 y).f1,(nth qA.z x.f4 y).f2,z.f4,(nth qA.z x.f4 y).f4,(nth qA.z x.f4 y).f5⟩:qA)),box b4 #[iv z.f0,iv z.f1,iv z.f2,iv z.f3,iv z.f4,iv z.f5,.slice A2_6 z.f6.length c2_6] 96,box b2 #[iv x.f0,iv x.f1,iv x.f2,iv x.f3,.slice (pb b11) ((x.f4.set (y).toNat (⟨(nth qA.z x.f4 y).f0,(nth qA.z x.f4 y).f1,(nth qA.z x.f4 y).f2,z.f4,(nth qA.z x.f4 y).f4,(nth qA.z x.f4 y).f5⟩:qA)).length) c0_4,.slice A0_5 x.f5.length c0_5,.slice A0_6 x.f6.length c0_6] 27]:=by rw [← hn40]; exact S
 have hb6:=S.ba 0
 replace S:=S.pm [1] 4
 rw [hN]at S
 obtain rfl:=si H
 exact rtm E (.b hb6 ag27 sz27 (.t .nil)) ⟨_,rfl,_,_,_,_,_,_,_,rfl,S,g0_5,g0_6⟩
 refine sq fun K25 hK25=>pl0 (plc E (.bn 0 0 7 (S.ba 2) .nil) (fun a E=>pls E S [iv x.f0,iv x.f1,iv x.f2,iv x.f3,.slice (pb b11) x.f4.length c0_4,.slice A0_5 x.f5.length c0_5,.slice A0_6 x.f6.length c0_6] fun u26 hb6 S a E=>plc E (.r 2 1 .nil) (fun a E=>pld (hK25 _ _ (wp_ret (qCJ (qCK (qCJ ?_))))))))
 replace S:=S.pm [] 3
 rw [hN]at S
 obtain rfl:=si H
 exact rtm E (.b hb6 ag27 sz27 (.t .nil)) ⟨_,rfl,_,_,_,_,_,_,_,rfl,S,g0_5,g0_6⟩
 refine sq fun K41 hK41=>?_
 have J48:∀ kq46,kq46≤k→∀(G:NV)(y44:Bool)(a:Act)(w':World),Env 98 G a→At G [(1,iv y),(3,.pointer (pb b2)),(5,.pointer (pb b4)),(6,.pointer (pb b6)),(8,.pointer (some ((⟨b11,0,none⟩:Addr).add (y.toNat * 6)))),(15,iv z.f0),(37,.bool y44)]→St W N F w' F [box b6 #[iv 0,iv 0,iv 0,iv 0,.slice none 0 0,.slice none 0 0,.slice none 0 0] 27,box b4 #[iv z.f0,iv z.f1,iv z.f2,iv z.f3,iv z.f4,iv z.f5,.slice A2_6 z.f6.length c2_6] 96,box b2 #[iv x.f0,iv x.f1,iv x.f2,iv x.f3,.slice (pb b11) x.f4.length c0_4,.slice A0_5 x.f5.length c0_5,.slice A0_6 x.f6.length c0_6] 27,row qA.k 153 (.slice (pb b11) x.f4.length c0_4) x.f4]→qBE.j45 kq46 x y z y44=some r→K41 a w':=by
  intro kq46 hkq G y44 a u49 E A S H
  obtain _ | k47:=kq46
  exact zz H
  rw [qBE.j45_s]at H
  obtain ⟨J,E⟩:=E.at A
  refine hK41 _ _ (E.ib 37 H (fun c50 E H=>?_) fun c50 E H=>?_)
  refine sq fun K51 hK51=>?_
  refine drawn 10 ⟨[7,8],[7],fun q=>q=b11⟩ mixed rfl (by kernel_rfl) (fun hst=>?_)
  replace S:=S.drew
  have ne52:¬ (b2=b11):=by intro h; exact S.ne_row (i:=2) (j:=3) rfl rfl (by decide) h
  have hb2:=S.ba 2
  have hb4:=S.ba 1
  refine mny 3 hst E (.bnX 0 0 7 hb2 ne52<|.r 1 4<|.b 5 0 hb4<|.r 6 1<|.nil) (fun a E=>?_)
  replace S:=S.front 3 rfl
  obtain ⟨cs53,rfl,hc54⟩:=qCO (S.row_at (i:=0) rfl) qA.z y c9.1 c9.2
  rcases sp H with ⟨c56,H⟩ | ⟨c56,H⟩
  refine on1 7 E (.cl en221 (qCH.same (z.f0 == 3) _ _ (hc54 4 _ rfl) c56)) ?_
  rintro _ _ a ⟨rfl,rfl⟩ E
  refine ⟨.of (Agr.refl _),?_⟩
  replace S:=S.front 1 rfl
  refine on1 8 E (.sto S [iv x.f0,iv x.f1,iv x.f2,iv x.f3,.slice (pb b11) x.f4.length c0_4,.slice A0_5 x.f5.length c0_5,.slice A0_6 x.f6.length c0_6]) ?_
  rintro _ u57 a ⟨rfl,hb6,S,hz⟩ E
  refine ⟨.d,?_⟩
  refine mny 0 hst E (.r 9 1 .nil) (fun a E=>?_)
  refine dn ?_
  refine hK51 _ _ (wp_ret (qCK (qCJ ?_)))
  replace S:=S.pm [1] 4
  rw [hN]at S
  obtain rfl:=si H
  exact rtm E (.b hb6 ag27 sz27 (.t .nil)) ⟨_,rfl,_,_,_,_,_,_,_,rfl,S,g0_5,g0_6⟩
  refine on1 7 E (.cl en221 (qCH.turn (n:=x.f4.length) (i:=y) S (⟨(nth qA.z x.f4 y).f0,(nth qA.z x.f4 y).f1,(nth qA.z x.f4 y).f2,(nth qA.z x.f4 y).f3,(z.f0 == 3),(nth qA.z x.f4 y).f5⟩:qA) 4 c9 [iv ((nth qA.z x.f4 y).f0),iv ((nth qA.z x.f4 y).f1),iv ((nth qA.z x.f4 y).f2),iv ((nth qA.z x.f4 y).f3),.bool ((nth qA.z x.f4 y).f4),.bool ((nth qA.z x.f4 y).f5)] hc54 ((nth qA.z x.f4 y).f4) (z.f0 == 3) [iv ((nth qA.z x.f4 y).f0),iv ((nth qA.z x.f4 y).f1),iv ((nth qA.z x.f4 y).f2),iv ((nth qA.z x.f4 y).f3),.bool (z.f0 == 3),.bool ((nth qA.z x.f4 y).f5)] rfl rfl c56)) ?_
  rintro _ u55 a ⟨rfl,S,hX⟩ E
  refine ⟨.c hX,?_⟩
  replace S:=S.front 1 rfl
  refine on1 8 E (.sto S [iv x.f0,iv x.f1,iv x.f2,iv x.f3,.slice (pb b11) x.f4.length c0_4,.slice A0_5 x.f5.length c0_5,.slice A0_6 x.f6.length c0_6]) ?_
  rintro _ u58 a ⟨rfl,hb6,S,hz⟩ E
  refine ⟨.d,?_⟩
  refine mny 0 hst E (.r 9 1 .nil) (fun a E=>?_)
  refine dn ?_
  refine hK51 _ _ (wp_ret (qCK (qCJ ?_)))
  have hn59:=(qCN (S.row_at (i:=1) rfl)).1
  replace S:St W N F u58 F [box b6 #[iv x.f0,iv x.f1,iv x.f2,iv x.f3,.slice (pb b11) ((x.f4.set (y).toNat (⟨(nth qA.z x.f4 y).f0,(nth qA.z x.f4 y).f1,(nth qA.z x.f4 y).f2,(nth qA.z x.f4 y).f3,(z.f0 == 3),(nth qA.z x.f4 y).f5⟩:qA)).length) c0_4,.slice A0_5 x.f5.length c0_5,.slice A0_6 x.f6.length c0_6] 27,row qA.k 153 (.slice (pb b11) ((x.f4.set (y).toNat (⟨(nth qA.z x.f4 y).f0,(nth qA.z x.f4 y).f1,(nth qA.z x.f4 y).f2,(nth qA.z x.f4 y).f3,(z.f0 == 3),(nth qA.z x.f4 y).f5⟩:qA)).length) c0_4) (x.f4.set (y).toNat (⟨(nth qA.z x.f4 y).f0,(nth qA.z x.f4 y).f1,(nth qA.z x.f4 y).f2,(nth qA.z x.f4 y).f3,(z.f0 == 3),(nth qA.z x.f4 y).f5⟩:qA)),box b4 #[iv z.f0,iv z.f1,iv z.f2,iv z.f3,iv z.f4,iv z.f5,.slice A2_6 z.f6.length c2_6] 96,box b2 #[iv x.f0,iv x.f1,iv x.f2,iv x.f3,.slice (pb b11) ((x.f4.set (y).toNat (⟨(nth qA.z x.f4 y).f0,(nth qA.z x.f4 y).f1,(nth qA.z x.f4 y).f2,(nth qA.z x.f4 y).f3,(z.f0 == 3),(nth qA.z x.f4 y).f5⟩:qA)).length) c0_4,.slice A0_5 x.f5.length c0_5,.slice A0_6 x.f6.length c0_6] 27]:=by rw [← hn59]; exact S
  have hb6:=S.ba 0
  replace S:=S.pm [1] 4
  rw [hN]at S
  obtain rfl:=si H
  exact rtm E (.b hb6 ag27 sz27 (.t .nil)) ⟨_,rfl,_,_,_,_,_,_,_,rfl,S,g0_5,g0_6⟩
  refine sq fun K60 hK60=>?_
  have J67:∀ kq65,kq65≤k47→∀(G:NV)(y63:Bool)(a:Act)(w':World),Env 98 G a→At G [(1,iv y),(3,.pointer (pb b2)),(5,.pointer (pb b4)),(6,.pointer (pb b6)),(8,.pointer (some ((⟨b11,0,none⟩:Addr).add (y.toNat * 6)))),(48,.bool y63)]→St W N F w' F [box b6 #[iv 0,iv 0,iv 0,iv 0,.slice none 0 0,.slice none 0 0,.slice none 0 0] 27,box b4 #[iv z.f0,iv z.f1,iv z.f2,iv z.f3,iv z.f4,iv z.f5,.slice A2_6 z.f6.length c2_6] 96,box b2 #[iv x.f0,iv x.f1,iv x.f2,iv x.f3,.slice (pb b11) x.f4.length c0_4,.slice A0_5 x.f5.length c0_5,.slice A0_6 x.f6.length c0_6] 27,row qA.k 153 (.slice (pb b11) x.f4.length c0_4) x.f4]→qBE.j64 kq65 x y z y63=some r→K60 a w':=by
   intro kq65 hkq G y63 a u68 E A S H
   obtain _ | k66:=kq65
   exact zz H
   rw [qBE.j64_s]at H
   obtain ⟨J,E⟩:=E.at A
   refine hK60 _ _ (E.ib 48 H (fun c69 E H=>?_) fun c69 E H=>?_)
   refine sq fun K70 hK70=>?_
   refine drawn 10 ⟨[7,8],[7],fun q=>q=b11⟩ mixed rfl (by kernel_rfl) (fun hst=>?_)
   replace S:=S.drew
   have ne71:¬ (b2=b11):=by intro h; exact S.ne_row (i:=2) (j:=3) rfl rfl (by decide) h
   have hb2:=S.ba 2
   have hb4:=S.ba 1
   refine mny 3 hst E (.bnX 0 0 7 hb2 ne71<|.r 1 4<|.b 5 0 hb4<|.r 6 1<|.nil) (fun a E=>?_)
   replace S:=S.front 3 rfl
   obtain ⟨cs72,rfl,hc73⟩:=qCO (S.row_at (i:=0) rfl) qA.z y c9.1 c9.2
   rcases sp H with ⟨c75,H⟩ | ⟨c75,H⟩
   refine on1 7 E (.cl en221 (qCH.same (z.f0 == 6) _ _ (hc73 5 _ rfl) c75)) ?_
   rintro _ _ a ⟨rfl,rfl⟩ E
   refine ⟨.of (Agr.refl _),?_⟩
   replace S:=S.front 1 rfl
   refine on1 8 E (.sto S [iv x.f0,iv x.f1,iv x.f2,iv x.f3,.slice (pb b11) x.f4.length c0_4,.slice A0_5 x.f5.length c0_5,.slice A0_6 x.f6.length c0_6]) ?_
   rintro _ u76 a ⟨rfl,hb6,S,hz⟩ E
   refine ⟨.d,?_⟩
   refine mny 0 hst E (.r 9 1 .nil) (fun a E=>?_)
   refine dn ?_
   refine hK70 _ _ (wp_ret (qCK (qCJ ?_)))
   replace S:=S.pm [1] 4
   rw [hN]at S
   obtain rfl:=si H
   exact rtm E (.b hb6 ag27 sz27 (.t .nil)) ⟨_,rfl,_,_,_,_,_,_,_,rfl,S,g0_5,g0_6⟩
   refine on1 7 E (.cl en221 (qCH.turn (n:=x.f4.length) (i:=y) S (⟨(nth qA.z x.f4 y).f0,(nth qA.z x.f4 y).f1,(nth qA.z x.f4 y).f2,(nth qA.z x.f4 y).f3,(nth qA.z x.f4 y).f4,(z.f0 == 6)⟩:qA) 5 c9 [iv ((nth qA.z x.f4 y).f0),iv ((nth qA.z x.f4 y).f1),iv ((nth qA.z x.f4 y).f2),iv ((nth qA.z x.f4 y).f3),.bool ((nth qA.z x.f4 y).f4),.bool ((nth qA.z x.f4 y).f5)] hc73 ((nth qA.z x.f4 y).f5) (z.f0 == 6) [iv ((nth qA.z x.f4 y).f0),iv ((nth qA.z x.f4 y).f1),iv ((nth qA.z x.f4 y).f2),iv ((nth qA.z x.f4 y).f3),.bool ((nth qA.z x.f4 y).f4),.bool (z.f0 == 6)] rfl rfl c75)) ?_
   rintro _ u74 a ⟨rfl,S,hX⟩ E
   refine ⟨.c hX,?_⟩
   replace S:=S.front 1 rfl
   refine on1 8 E (.sto S [iv x.f0,iv x.f1,iv x.f2,iv x.f3,.slice (pb b11) x.f4.length c0_4,.slice A0_5 x.f5.length c0_5,.slice A0_6 x.f6.length c0_6]) ?_
   rintro _ u77 a ⟨rfl,hb6,S,hz⟩ E
   refine ⟨.d,?_⟩
   refine mny 0 hst E (.r 9 1 .nil) (fun a E=>?_)
   refine dn ?_
   refine hK70 _ _ (wp_ret (qCK (qCJ ?_)))
   have hn78:=(qCN (S.row_at (i:=1) rfl)).1
   replace S:St W N F u77 F [box b6 #[iv x.f0,iv x.f1,iv x.f2,iv x.f3,.slice (pb b11) ((x.f4.set (y).toNat (⟨(nth qA.z x.f4 y).f0,(nth qA.z x.f4 y).f1,(nth qA.z x.f4 y).f2,(nth qA.z x.f4 y).f3,(nth qA.z x.f4 y).f4,(z.f0 == 6)⟩:qA)).length) c0_4,.slice A0_5 x.f5.length c0_5,.slice A0_6 x.f6.length c0_6] 27,row qA.k 153 (.slice (pb b11) ((x.f4.set (y).toNat (⟨(nth qA.z x.f4 y).f0,(nth qA.z x.f4 y).f1,(nth qA.z x.f4 y).f2,(nth qA.z x.f4 y).f3,(nth qA.z x.f4 y).f4,(z.f0 == 6)⟩:qA)).length) c0_4) (x.f4.set (y).toNat (⟨(nth qA.z x.f4 y).f0,(nth qA.z x.f4 y).f1,(nth qA.z x.f4 y).f2,(nth qA.z x.f4 y).f3,(nth qA.z x.f4 y).f4,(z.f0 == 6)⟩:qA)),box b4 #[iv z.f0,iv z.f1,iv z.f2,iv z.f3,iv z.f4,iv z.f5,.slice A2_6 z.f6.length c2_6] 96,box b2 #[iv x.f0,iv x.f1,iv x.f2,iv x.f3,.slice (pb b11) ((x.f4.set (y).toNat (⟨(nth qA.z x.f4 y).f0,(nth qA.z x.f4 y).f1,(nth qA.z x.f4 y).f2,(nth qA.z x.f4 y).f3,(nth qA.z x.f4 y).f4,(z.f0 == 6)⟩:qA)).length) c0_4,.slice A0_5 x.f5.length c0_5,.slice A0_6 x.f6.length c0_6] 27]:=by rw [← hn78]; exact S
   have hb6:=S.ba 0
   replace S:=S.pm [1] 4
   rw [hN]at S
   obtain rfl:=si H
   exact rtm E (.b hb6 ag27 sz27 (.t .nil)) ⟨_,rfl,_,_,_,_,_,_,_,rfl,S,g0_5,g0_6⟩
   refine wp_skip ?_
   refine qCL ?_
   refine hK15 _ _ (sq fun K79 hK79=>pl0 (plc E (.r 0 1<|.b 1 5 (S.ba 2)<|.r 2 1<|.nil) (fun a E=>?_)))
   exact zz H
  refine rr E fun a E=>(E.ik 48 H (fun c62 E H=>?_) fun c62 E H=>?_)
  refine wp_skip ?_
  exact J67 _ (by omega) _ true _ _ E .of S H
  refine pl0 (plc E (.r 0 2 .nil) (fun a E=>pld ?_))
  exact J67 _ (by omega) _ (z.f0 == 6) _ _ E .of S H
 refine rr E fun a E=>(E.ik 37 H (fun c43 E H=>?_) fun c43 E H=>?_)
 refine wp_skip ?_
 exact J48 _ (by omega) _ true _ _ E .of S H
 refine pl0 (plc E (.r 0 2 .nil) (fun a E=>pld ?_))
 exact J48 _ (by omega) _ (z.f0 == 4) _ _ E .of S H
def qBo.f(k:Nat)(x:qF)(y:qE):Option (qF × Int):=if y.f0=1 then ((qCG.f k x y).bind fun t14=>(some (t14.1,t14.2))) else (if y.f0=8 then (none) else (if y.f0=9 then (some (x,0)) else (if y.f0=10 then (none) else ((qCF.f k x y.f1).bind fun t40=>(if t40.2=true then ((qBE.f k x t40.1 y).bind fun t49=>(some (t49.1,t49.2))) else (some (x,5)))))))
def qBo.Post(x:qF)(y:qE)(A0_4:OA)(c0_4:Nat)(A0_5:OA)(c0_5:Nat)(A0_6:OA)(c0_6:Nat)(A1_6:OA)(c1_6:Nat)(W F:World)(r:qF × Int)(v:Value)(w':World):Prop:=∃(F':World)(RA0_4:OA)(rc0_4:Nat)(RA0_5:OA)(rc0_5:Nat)(RA0_6:OA)(rc0_6:Nat),v = .tuple #[.agg #[iv r.1.f0,iv r.1.f1,iv r.1.f2,iv r.1.f3,.slice RA0_4 r.1.f4.length rc0_4,.slice RA0_5 r.1.f5.length rc0_5,.slice RA0_6 r.1.f6.length rc0_6],iv r.2]∧St W (mine W [row qA.k 153 (.slice A0_4 x.f4.length c0_4) x.f4]) F w' F' [row qA.k 153 (.slice RA0_4 r.1.f4.length rc0_4) r.1.f4]∧Rd qI.k F' RA0_5 rc0_5 r.1.f5∧Rd qC.k F' RA0_6 rc0_6 r.1.f6
theorem qBo.calls(k:Nat)(x:qF)(y:qE)(A0_4:OA)(c0_4:Nat)(A0_5:OA)(c0_5:Nat)(A0_6:OA)(c0_6:Nat)(A1_6:OA)(c1_6:Nat)(r:qF × Int)(W F:World)(hown:Own W F [row qA.k 153 (.slice A0_4 x.f4.length c0_4) x.f4])(g0_5:Rd qI.k F A0_5 c0_5 x.f5)(g0_6:Rd qC.k F A0_6 c0_6 x.f6)(g1_6:Rd ki F A1_6 c1_6 y.f6)(H:qBo.f k x y=some r):
    Cr 145 #[.agg #[iv x.f0,iv x.f1,iv x.f2,iv x.f3,.slice A0_4 x.f4.length c0_4,.slice A0_5 x.f5.length c0_5,.slice A0_6 x.f6.length c0_6],.agg #[iv y.f0,iv y.f1,iv y.f2,iv y.f3,iv y.f4,iv y.f5,.slice A1_6 y.f6.length c1_6]] W (qBo.Post x y A0_4 c0_4 A0_5 c0_5 A0_6 c0_6 A1_6 c1_6 W F r):=by
 have S:=St.start hown
 obtain ⟨N,hN⟩:∃ N,N=mine W [row qA.k 153 (.slice A0_4 x.f4.length c0_4) x.f4]:=⟨_,rfl⟩
 rw [← hN]at S
 unfold qBo.f at H
 refine ent 50 rfl rfl rfl (fun a E=>?_)
 refine sq fun K1 hK1=>pl0 (plx (t:=27) E S [iv x.f0,iv x.f1,iv x.f2,iv x.f3,.slice A0_4 x.f4.length c0_4,.slice A0_5 x.f5.length c0_5,.slice A0_6 x.f6.length c0_6] fun b2 u3 hb2 S a E=>plx (t:=96) E S [iv y.f0,iv y.f1,iv y.f2,iv y.f3,iv y.f4,iv y.f5,.slice A1_6 y.f6.length c1_6] fun b4 u5 hb4 S a E=>pla (t:=27) E S [iv 0,iv 0,iv 0,iv 0,.slice none 0 0,.slice none 0 0,.slice none 0 0] fun b6 u7 hb6 S a E=>plc E (.r 3 1 .nil) (fun a E=>pld (hK1 _ _ (sq fun K8 hK8=>sq fun K9 hK9=>pl0 ?_))))
 have hb4:=S.ba 1
 refine plc E (.r 0 1<|.b 1 0 hb4<|.nil) (fun a E=>pld (hK9 _ _ (wp_block (rr E fun a E=>(E.ik 10 H (fun c11 E H=>?_) fun c11 E H=>?_)))))
 refine sq fun K12 hK12=>pl0 (plc E (.bn 0 0 7 (S.ba 2)<|.bn 1 0 7 hb4<|.nil) (fun a E=>?_))
 replace S:=S.front 3 rfl
 obtain ⟨t14,h15,H⟩:=bd H
 refine ple E (.cl en178 (qCG.calls k x y _ _ _ _ _ _ _ _ _ _ _ (Own.left (X:=[row qA.k 153 (.slice A0_4 x.f4.length c0_4) x.f4]) S.own) g0_5 g0_6 g1_6 h15)) ?_
 rintro _ u13 a ⟨F16,A17,c18,A21,c22,A24,c25,rfl,hC,g23,g26⟩ E
 have hs:=hC.sub
 replace S:=S.called (X:=[row qA.k 153 (.slice A0_4 x.f4.length c0_4) x.f4]) hC
 replace g0_5:=g0_5.mono hs
 replace g0_6:=g0_6.mono hs
 replace g1_6:=g1_6.mono hs
 refine plc E (.r 3 2 .nil) (fun a E=>?_)
 replace S:=S.front 1 rfl
 refine pls E S [iv t14.1.f0,iv t14.1.f1,iv t14.1.f2,iv t14.1.f3,.slice A17 t14.1.f4.length c18,.slice A21 t14.1.f5.length c22,.slice A24 t14.1.f6.length c25] fun u27 hb6 S a E=>plc E (.r 6 1 .nil) (fun a E=>pld (hK12 _ _ (wp_ret (qCK (qCJ ?_)))))
 replace S:=S.pm [1] 4
 rw [hN]at S
 obtain rfl:=si H
 exact rtm E (.b hb6 ag27 sz27 (.t .nil)) ⟨_,rfl,_,_,_,_,_,_,_,rfl,S,g23,g26⟩
 refine rr E fun a E=>(E.ik 17 H (fun c29 E H=>?_) fun c29 E H=>?_)
 refine sq fun K30 hK30=>pl0 (plc E (.bn 0 0 7 (S.ba 2)<|.bn 1 0 7 hb4<|.nil) (fun a E=>?_))
 exact zz H
 refine rr E fun a E=>(E.ik 24 H (fun c32 E H=>?_) fun c32 E H=>?_)
 refine sq fun K33 hK33=>pl0 (plc E (.bn 0 0 7 (S.ba 2) .nil) (fun a E=>pls E S [iv x.f0,iv x.f1,iv x.f2,iv x.f3,.slice A0_4 x.f4.length c0_4,.slice A0_5 x.f5.length c0_5,.slice A0_6 x.f6.length c0_6] fun u34 hb6 S a E=>plc E (.r 2 1 .nil) (fun a E=>pld (hK33 _ _ (wp_ret (qCK (qCJ ?_)))))))
 replace S:=S.pm [] 3
 rw [hN]at S
 obtain rfl:=si H
 exact rtm E (.b hb6 ag27 sz27 (.t .nil)) ⟨_,rfl,_,_,_,_,_,_,_,rfl,S,g0_5,g0_6⟩
 refine rr E fun a E=>(E.ik 27 H (fun c36 E H=>?_) fun c36 E H=>?_)
 refine sq fun K37 hK37=>pl0 (plc E (.bn 0 0 7 (S.ba 2)<|.bn 1 0 7 hb4<|.nil) (fun a E=>?_))
 exact zz H
 refine wp_skip ?_
 refine qCL ?_
 refine hK8 _ _ (sq fun K38 hK38=>pl0 ?_)
 have hb2:=S.ba 2
 refine plc E (.bn 0 0 7 hb2<|.r 1 1<|.b 2 1 hb4<|.nil) (fun a E=>?_)
 obtain ⟨t40,h41,H⟩:=bd H
 refine plq E S en181 (qCF.calls k x y.f1 _ _ _ _ _ _ _ _ _ (Sub.refl _) (S.rd_at (i:=3) rfl) (g0_5.mono S.own.sub) (g0_6.mono S.own.sub) h41) fun u39 S a E=>plc E (.r 4 5 .nil) (fun a E=>pld (hK38 _ _ (sq fun K42 hK42=>rr E fun a E=>(E.ibn 42 H (fun c44 E H=>?_) fun c44 E H=>?_))))
 refine wp_skip (hK42 _ _ (sq fun K47 hK47=>pl0 (plc E (.bn 0 0 7 (S.ba 2)<|.r 1 1<|.bn 2 0 7 (S.ba 1)<|.nil) (fun a E=>?_))))
 replace S:=S.front 3 rfl
 obtain ⟨t49,h50,H⟩:=bd H
 refine ple E (.cl en182 (qBE.calls k x t40.1 y _ _ _ _ _ _ _ _ _ _ _ (Own.left (X:=[row qA.k 153 (.slice A0_4 x.f4.length c0_4) x.f4]) S.own) g0_5 g0_6 g1_6 h50)) ?_
 rintro _ u48 a ⟨F51,A52,c53,A56,c57,A59,c60,rfl,hC,g58,g61⟩ E
 have hs:=hC.sub
 replace S:=S.called (X:=[row qA.k 153 (.slice A0_4 x.f4.length c0_4) x.f4]) hC
 replace g0_5:=g0_5.mono hs
 replace g0_6:=g0_6.mono hs
 replace g1_6:=g1_6.mono hs
 refine plc E (.r 4 2 .nil) (fun a E=>?_)
 replace S:=S.front 1 rfl
 refine pls E S [iv t49.1.f0,iv t49.1.f1,iv t49.1.f2,iv t49.1.f3,.slice A52 t49.1.f4.length c53,.slice A56 t49.1.f5.length c57,.slice A59 t49.1.f6.length c60] fun u62 hb6 S a E=>plc E (.r 7 1 .nil) (fun a E=>pld (hK47 _ _ (wp_ret ?_)))
 replace S:=S.pm [1] 4
 rw [hN]at S
 obtain rfl:=si H
 exact rtm E (.b hb6 ag27 sz27 (.t .nil)) ⟨_,rfl,_,_,_,_,_,_,_,rfl,S,g58,g61⟩
 refine sq fun K45 hK45=>pl0 (plc E (.bn 0 0 7 (S.ba 2) .nil) (fun a E=>pls E S [iv x.f0,iv x.f1,iv x.f2,iv x.f3,.slice A0_4 x.f4.length c0_4,.slice A0_5 x.f5.length c0_5,.slice A0_6 x.f6.length c0_6] fun u46 hb6 S a E=>plc E (.r 2 1 .nil) (fun a E=>pld (hK45 _ _ (wp_ret (qCJ ?_))))))
 replace S:=S.pm [] 3
 rw [hN]at S
 obtain rfl:=si H
 exact rtm E (.b hb6 ag27 sz27 (.t .nil)) ⟨_,rfl,_,_,_,_,_,_,_,rfl,S,g0_5,g0_6⟩
def qBX.f(x:qI)(y:Int):Option Int:=(qAn.f x.f0 y).bind fun t6=>(some t6)
def qBX.Post(W F:World)(r:Int)(v:Value)(w':World):Prop:=∃(F':World),v=iv r∧Sm W F w' F' []
theorem qBX.calls(x:qI)(y:Int)(A0_1:OA)(c0_1:Nat)(r:Int)(W F:World)(hown:Sub F W)(g0_1:Rd ki F A0_1 c0_1 x.f1)(H:qBX.f x y=some r):
    Cr 235 #[.agg #[iv x.f0,.slice A0_1 x.f1.length c0_1],iv y] W (qBX.Post W F r):=by
 have S:=sT hown
 unfold qBX.f at H
 refine ent 9 rfl rfl rfl (fun a E=>?_)
 refine sq fun K1 hK1=>pl0 (plx (t:=84) E S [iv x.f0,.slice A0_1 x.f1.length c0_1] fun b2 u3 hb2 S a E=>plc E (.r 1 1 .nil) (fun a E=>pld (hK1 _ _ (sq fun K4 hK4=>pl0 (plc E (.r 0 1<|.b 1 0 hb2<|.r 2 1<|.nil) (fun a E=>?_))))))
 obtain ⟨t6,h7,H⟩:=bd H
 refine plq E S en197 (qAn.calls x.f0 y _ _ _ S.own.sub h7) fun u5 S a E=>plc E (.r 4 1 .nil) (fun a E=>pld (hK4 _ _ (wp_ret ?_)))
 replace S:=S.tail
 obtain rfl:=si H
 exact rt1 E ⟨_,rfl,_,rfl,S⟩
def qO.l7:Nat→List qI→Int→Int→Int→Option (Int × Bool)
 | 0,_,_,_,_=>none
 | k+1,x,y,x5,x6=>if x5<x6 then (if 0≤(w64 ((IntKind.u64.wrap (w64 (x5+x6))).fdiv 2))∧(w64 ((IntKind.u64.wrap (w64 (x5+x6))).fdiv 2))<(x.length:Int) then ((qBX.f (nth qI.z x (w64 ((IntKind.u64.wrap (w64 (x5+x6))).fdiv 2))) y).bind fun t25=>(if t25<0 then (qO.l7 k x y (w64 ((w64 ((IntKind.u64.wrap (w64 (x5+x6))).fdiv 2))+1)) x6) else (qO.l7 k x y x5 (w64 ((IntKind.u64.wrap (w64 (x5+x6))).fdiv 2))))) else (none)) else (if x5<(x.length:Int) then (if 0≤x5∧x5<(x.length:Int) then ((qBX.f (nth qI.z x x5) y).bind fun t39=>(some (x5,(t39 == 0)))) else (none)) else (some (x5,false)))
theorem qO.l7_s k x y x5 x6:type_of% (qO.l7.eq_2 x y x5 x6 k):=qO.l7.eq_2 x y x5 x6 k
def qO.f(k:Nat)(x:List qI)(y:Int):Option (Int × Bool):=qO.l7 k x y 0 (x.length:Int)
def qO.Post(W F:World)(r:Int × Bool)(v:Value)(w':World):Prop:=∃(F':World),v = .tuple #[iv r.1,.bool r.2]∧Sm W F w' F' []
theorem qO.calls(k:Nat)(x:List qI)(y:Int)(A0_0:OA)(c0_0:Nat)(r:Int × Bool)(W F:World)(hown:Sub F W)(g0_0:Rd qI.k F A0_0 c0_0 x)(H:qO.f k x y=some r):
    Cr 234 #[.slice A0_0 x.length c0_0,iv y,.func (.func 235) #[] #[]] W (qO.Post W F r):=by
 have S:=sT hown
 unfold qO.f at H
 refine ent 49 rfl rfl rfl (fun a E=>?_)
 refine rr E fun a E=>(rr E fun a E=>(rr E fun a E=>(sq fun K4 hK4=>wp_block ?_)))
 refine wp_loop_ghost (fun kq8 a w'=>∃(G:NV)(x5:Int)(x6:Int),kq8≤k∧Env 49 G a∧At G [(0,.slice A0_0 x.length c0_0),(1,iv y),(2,.func (.func 235) #[] #[]),(8,iv (x.length:Int)),(9,iv x5),(10,iv x6)]∧Sm W F w' F []∧qO.l7 kq8 x y x5 x6=some r) k ⟨_,0,(x.length:Int),Nat.le_refl _,E,.of,S,H⟩ ?_
 rintro kq8 a u10 ⟨G,x5,x6,hkq,E,A,S,H⟩
 obtain _ | k9:=kq8
 exact zz H
 rw [qO.l7_s]at H
 obtain ⟨J,E⟩:=E.at A
 refine sq fun K11 hK11=>rr E fun a E=>(E.ik 17 H (fun c13 E H=>?_) fun c13 E H=>?_)
 refine wp_skip (hK11 _ _ (wp_block (rr E fun a E=>(sq fun K15 hK15=>pl0 ?_))))
 obtain ⟨c16,H⟩:=gd H
 have hE_:=E
 obtain ⟨ad17,rfl⟩:=g0_0.addr c16.1 c16.2
 replace E:=hE_
 obtain ⟨cs19,⟨A21,c22,rfl,g23⟩,hc20⟩:=g0_0.el qI.z (w64 ((IntKind.u64.wrap (w64 (x5+x6))).fdiv 2)) c16.1 c16.2
 refine plc E (.r 0 3<|.x 3 c16<|.cs 4 (S.fcs hc20)<|.r 5 1<|.nil) (fun a E=>?_)
 obtain ⟨t25,h26,H⟩:=bd H
 refine plq E S en235 (qBX.calls (nth qI.z x (w64 ((IntKind.u64.wrap (w64 (x5+x6))).fdiv 2))) y _ _ _ _ _ S.own.sub g23 h26) fun u24 S a E=>plc E (.r 7 1 .nil) (fun a E=>pld (hK15 _ _ (E.ik 31 H (fun c27 E H=>?_) fun c27 E H=>?_)))
 refine pl0 (plc E (.r 0 3 .nil) (fun a E=>pld ?_))
 refine qCL ?_
 exact qCM ⟨k9,by omega,_,(w64 ((w64 ((IntKind.u64.wrap (w64 (x5+x6))).fdiv 2))+1)),x6,by omega,E,.of,S,H⟩
 refine pl0 (plc E (.r 0 2 .nil) (fun a E=>pld ?_))
 refine qCL ?_
 exact qCM ⟨k9,by omega,_,x5,(w64 ((IntKind.u64.wrap (w64 (x5+x6))).fdiv 2)),by omega,E,.of,S,H⟩
 refine wp_exit ?_
 refine hK4 _ _ (sq fun K28 hK28=>pl0 (plc E (.r 0 5 .nil) (fun a E=>E.fk 39 H (fun c29 E H=>?_) fun c29 E H=>?_)))
 obtain ⟨c30,H⟩:=gd H
 have hE_:=E
 obtain ⟨ad31,rfl⟩:=g0_0.addr c30.1 c30.2
 replace E:=hE_
 obtain ⟨cs33,⟨A35,c36,rfl,g37⟩,hc34⟩:=g0_0.el qI.z x5 c30.1 c30.2
 refine plc E (.r 5 3<|.x 8 c30<|.cs 9 (S.fcs hc34)<|.r 10 1<|.nil) (fun a E=>?_)
 obtain ⟨t39,h40,H⟩:=bd H
 refine plq E S en235 (qBX.calls (nth qI.z x x5) y _ _ _ _ _ S.own.sub g37 h40) fun u38 S a E=>plc E (.r 12 4 .nil) (fun a E=>pld (hK28 _ _ (wp_ret ?_)))
 obtain rfl:=si H
 exact rtN E ⟨_,rfl,_,rfl,S⟩
 refine plc E (.r 5 11 .nil) (fun a E=>pld (hK28 _ _ (wp_ret ?_)))
 obtain rfl:=si H
 exact rtN E ⟨_,rfl,_,rfl,S⟩
def qBy.f(k:Nat)(x:qF)(y:Int):Option (Int × Bool):=(qO.f k x.f5 y).bind fun t6=>(some (t6.1,t6.2))
def qBy.Post(W F:World)(r:Int × Bool)(v:Value)(w':World):Prop:=∃(F':World),v = .tuple #[iv r.1,.bool r.2]∧Sm W F w' F' []
theorem qBy.calls(k:Nat)(x:qF)(y:Int)(A0_4:OA)(c0_4:Nat)(A0_5:OA)(c0_5:Nat)(A0_6:OA)(c0_6:Nat)(r:Int × Bool)(W F:World)(hown:Sub F W)(g0_4:Rd qA.k F A0_4 c0_4 x.f4)(g0_5:Rd qI.k F A0_5 c0_5 x.f5)(g0_6:Rd qC.k F A0_6 c0_6 x.f6)(H:qBy.f k x y=some r):
    Cr 198 #[.agg #[iv x.f0,iv x.f1,iv x.f2,iv x.f3,.slice A0_4 x.f4.length c0_4,.slice A0_5 x.f5.length c0_5,.slice A0_6 x.f6.length c0_6],iv y] W (qBy.Post W F r):=by
 have S:=sT hown
 unfold qBy.f at H
 refine ent 12 rfl rfl rfl (fun a E=>?_)
 refine sq fun K1 hK1=>pl0 (plx (t:=27) E S [iv x.f0,iv x.f1,iv x.f2,iv x.f3,.slice A0_4 x.f4.length c0_4,.slice A0_5 x.f5.length c0_5,.slice A0_6 x.f6.length c0_6] fun b2 u3 hb2 S a E=>plc E (.r 1 2 .nil) (fun a E=>pld (hK1 _ _ (sq fun K4 hK4=>pl0 (plc E (.r 0 1<|.b 1 5 hb2<|.r 2 1<|.nil) (fun a E=>?_))))))
 obtain ⟨t6,h7,H⟩:=bd H
 refine plq E S en234 (qO.calls k x.f5 y _ _ _ _ _ S.own.sub g0_5 h7) fun u5 S a E=>plc E (.r 4 4 .nil) (fun a E=>pld (hK4 _ _ (wp_ret ?_)))
 replace S:=S.tail
 obtain rfl:=si H
 exact rtN E ⟨_,rfl,_,rfl,S⟩
def qAr.j6:Nat→Int→Bool→Option (List qK)
 | 0,_,_=>none
 | k+1,x,y5=>if y5=true then (some []) else (some [(⟨1,0,0⟩:qK),(⟨2,1,x⟩:qK),(⟨2,2,1⟩:qK),(⟨2,3,1⟩:qK),(⟨3,0,0⟩:qK)])
theorem qAr.j6_s k x y5:type_of% (qAr.j6.eq_2 x y5 k):=qAr.j6.eq_2 x y5 k
def qAr.f(k:Nat)(x:Int):Option (List qK):=if x<1 then (qAr.j6 k x true) else (qAr.j6 k x (decide (x>3)))
def qAr.Post(W F:World)(r:List qK)(v:Value)(w':World):Prop:=∃(F':World)(RA0_0:OA)(rc0_0:Nat),v = .slice RA0_0 r.length rc0_0∧Sm W F w' F' [row qK.k 279 (.slice RA0_0 r.length rc0_0) r]
theorem qAr.calls(k:Nat)(x:Int)(r:List qK)(W F:World)(hown:Sub F W)(H:qAr.f k x=some r):
    Cr 237 #[iv x] W (qAr.Post W F r):=by
 have S:=sT hown
 unfold qAr.f at H
 refine ent 16 rfl rfl rfl (fun a E=>?_)
 refine rr E fun a E=>(sq fun K2 hK2=>sq fun K3 hK3=>?_)
 have J9:∀ kq7,kq7≤k→∀(G:NV)(y5:Bool)(a:Act)(w':World),Env 16 G a→At G [(0,iv x),(8,.bool y5)]→Sm W F w' F []→qAr.j6 kq7 x y5=some r→K3 a w':=by
  intro kq7 hkq G y5 a u10 E A S H
  obtain _ | k8:=kq7
  exact zz H
  rw [qAr.j6_s]at H
  obtain ⟨J,E⟩:=E.at A
  refine hK3 _ _ (E.ib 8 H (fun c11 E H=>?_) fun c11 E H=>?_)
  refine rr E fun a E=>(wp_ret (qCJ ?_))
  replace S:=S.nilrow qK.k 279
  obtain rfl:=si H
  exact rt1 E ⟨_,rfl,_,_,_,rfl,S⟩
  refine wp_skip (hK2 _ _ (sq fun K14 hK14=>pl0 (plc E (.r 0 6 .nil) (fun a E=>ple E (.lit (d:=qK.k) (e:=279) S [(⟨1,0,0⟩:qK),(⟨2,1,x⟩:qK),(⟨2,2,1⟩:qK),(⟨2,3,1⟩:qK),(⟨3,0,0⟩:qK)] (.cons rfl<|.cons rfl<|.cons rfl<|.cons rfl<|.cons rfl .nil)) ?_))))
  rintro _ u15 a ⟨A16,c17,rfl,S,hg⟩ E
  refine plc E (.r 7 1 .nil) (fun a E=>pld (hK14 _ _ (wp_ret ?_)))
  obtain rfl:=si H
  exact rt1 E ⟨_,rfl,_,_,_,rfl,S⟩
 refine pl0 (plc E (.r 0 3 .nil) (fun a E=>E.fk 5 H (fun c4 E H=>?_) fun c4 E H=>?_))
 refine plc E (.r 3 3 .nil) (fun a E=>pld ?_)
 exact J9 _ (by omega) _ true _ _ E .of S H
 refine plc E (.r 3 3 .nil) (fun a E=>pld ?_)
 exact J9 _ (by omega) _ (decide (x>3)) _ _ E .of S H
def qAz.j23:Nat→Int→qK→Bool→Option (Int × Bool)
 | 0,_,_,_=>none
 | k+1,x,y,y22=>if x=(-1) then (some (y.f1,false)) else (if y22=true then (if y.f2≥1 then (some (y.f1,(decide (y.f2≤12)))) else (some (y.f1,false))) else (some (y.f1,false)))
theorem qAz.j23_s k x y y22:type_of% (qAz.j23.eq_2 x y y22 k):=qAz.j23.eq_2 x y y22 k
def qAz.f(k:Nat)(x:Int)(y:qK):Option (Int × Bool):=if y.f0=1 then (if x=(-1) then (if y.f1=0 then (some (0,(y.f2 == 0))) else (some (0,false))) else (some (0,false))) else (if y.f0=3 then (if x=3 then (if y.f1=0 then (some ((-1),(y.f2 == 0))) else (some ((-1),false))) else (some ((-1),false))) else (if y.f0=2 then (if y.f1>x then (if y.f1≤3 then (if y.f1=2 then (qAz.j23 k x y (x == 1)) else (qAz.j23 k x y true)) else (qAz.j23 k x y false)) else (qAz.j23 k x y false)) else (some ((-1),false))))
def qAz.Post(W F:World)(r:Int × Bool)(v:Value)(w':World):Prop:=∃(F':World),v = .tuple #[iv r.1,.bool r.2]∧Sm W F w' F' []
theorem qAz.calls(k:Nat)(x:Int)(y:qK)(r:Int × Bool)(W F:World)(hown:Sub F W)(H:qAz.f k x y=some r):
    Cr 297 #[iv x,.agg #[iv y.f0,iv y.f1,iv y.f2]] W (qAz.Post W F r):=by
 have S:=sT hown
 unfold qAz.f at H
 refine ent 74 rfl rfl rfl (fun a E=>?_)
 refine sq fun K1 hK1=>pl0 (plx (t:=279) E S [iv y.f0,iv y.f1,iv y.f2] fun b2 u3 hb2 S a E=>plc E (.r 1 2 .nil) (fun a E=>pld (hK1 _ _ (sq fun K4 hK4=>rg E (.r 0 1<|.b 1 0 hb2<|.nil) fun a E=>(wp_block (rr E fun a E=>(E.ik 9 H (fun c7 E H=>?_) fun c7 E H=>?_)))))))
 refine sq fun K8 hK8=>?_
 refine drawn 14 ⟨[],[],fun q=>False⟩ mixed rfl (by kernel_rfl) (fun hst=>?_)
 replace S:=S.drew
 refine mny 11 hst E (.r 0 3 .nil) (fun a E=>?_)
 refine E.fk 13 H (fun c9 E H=>?_) fun c9 E H=>?_
 have hb2:=S.ba 0
 refine mny 5 hst E (.r 3 1<|.b 4 1 hb2<|.r 5 3<|.r 12 1<|.nil) (fun a E=>?_)
 refine E.fk 18 H (fun c10 E H=>?_) fun c10 E H=>?_
 refine mny 0 hst E (.r 8 1<|.b 9 2 hb2<|.r 10 2<|.r 13 1<|.nil) (fun a E=>?_)
 refine dn ?_
 refine hK8 _ _ (wp_ret (qCK (qCJ ?_)))
 replace S:=S.tail
 obtain rfl:=si H
 exact rtN E ⟨_,rfl,_,rfl,S⟩
 refine mny 0 hst E (.r 8 4<|.r 13 1<|.nil) (fun a E=>?_)
 refine dn ?_
 refine hK8 _ _ (wp_ret (qCK (qCJ ?_)))
 replace S:=S.tail
 obtain rfl:=si H
 exact rtN E ⟨_,rfl,_,rfl,S⟩
 refine mny 0 hst E (.r 3 11 .nil) (fun a E=>?_)
 refine dn ?_
 refine hK8 _ _ (wp_ret (qCK (qCJ ?_)))
 replace S:=S.tail
 obtain rfl:=si H
 exact rtN E ⟨_,rfl,_,rfl,S⟩
 refine rr E fun a E=>(E.ik 23 H (fun c12 E H=>?_) fun c12 E H=>?_)
 refine sq fun K13 hK13=>?_
 refine drawn 14 ⟨[],[],fun q=>False⟩ mixed rfl (by kernel_rfl) (fun hst=>?_)
 replace S:=S.drew
 refine mny 11 hst E (.r 0 3 .nil) (fun a E=>?_)
 refine E.fk 27 H (fun c14 E H=>?_) fun c14 E H=>?_
 have hb2:=S.ba 0
 refine mny 5 hst E (.r 3 1<|.b 4 1 hb2<|.r 5 3<|.r 12 1<|.nil) (fun a E=>?_)
 refine E.fk 32 H (fun c15 E H=>?_) fun c15 E H=>?_
 refine mny 0 hst E (.r 8 1<|.b 9 2 hb2<|.r 10 2<|.r 13 1<|.nil) (fun a E=>?_)
 refine dn ?_
 refine hK13 _ _ (wp_ret (qCK (qCJ ?_)))
 replace S:=S.tail
 obtain rfl:=si H
 exact rtN E ⟨_,rfl,_,rfl,S⟩
 refine mny 0 hst E (.r 8 4<|.r 13 1<|.nil) (fun a E=>?_)
 refine dn ?_
 refine hK13 _ _ (wp_ret (qCK (qCJ ?_)))
 replace S:=S.tail
 obtain rfl:=si H
 exact rtN E ⟨_,rfl,_,rfl,S⟩
 refine mny 0 hst E (.r 3 11 .nil) (fun a E=>?_)
 refine dn ?_
 refine hK13 _ _ (wp_ret (qCK (qCJ ?_)))
 replace S:=S.tail
 obtain rfl:=si H
 exact rtN E ⟨_,rfl,_,rfl,S⟩
 refine rr E fun a E=>(E.ik 37 H (fun c17 E H=>?_) fun c17 E H=>?_)
 refine sq fun K18 hK18=>?_
 have J26:∀ kq24,kq24≤k→∀(G:NV)(y22:Bool)(a:Act)(w':World),Env 74 G a→At G [(0,iv x),(3,.pointer (pb b2)),(6,.bool y22)]→Sm W F w' F [box b2 #[iv y.f0,iv y.f1,iv y.f2] 279]→qAz.j23 kq24 x y y22=some r→K18 a w':=by
  intro kq24 hkq G y22 a u27 E A S H
  obtain _ | k25:=kq24
  exact zz H
  rw [qAz.j23_s]at H
  obtain ⟨J,E⟩:=E.at A
  refine hK18 _ _ (sq fun K28 hK28=>?_)
  refine drawn 19 ⟨[],[],fun q=>False⟩ mixed rfl (by kernel_rfl) (fun hst=>?_)
  replace S:=S.drew
  have hb2:=S.ba 0
  refine mny 14 hst E (.r 0 1<|.b 1 1 hb2<|.r 2 3<|.nil) (fun a E=>?_)
  refine E.fkn 61 H (fun c29 E H=>?_) fun c29 E H=>?_
  refine mny 0 hst E (.r 5 14 .nil) (fun a E=>?_)
  refine dn ?_
  refine hK28 _ _ (wp_ret (qCK (qCJ ?_)))
  replace S:=S.tail
  obtain rfl:=si H
  exact rtN E ⟨_,rfl,_,rfl,S⟩
  refine mny 11 hst E (.r 5 3 .nil) (fun a E=>?_)
  refine E.fb 64 H (fun c30 E H=>?_) fun c30 E H=>?_
  refine mny 5 hst E (.r 8 1<|.b 9 2 hb2<|.r 10 3<|.r 17 1<|.nil) (fun a E=>?_)
  refine E.fk 69 H (fun c31 E H=>?_) fun c31 E H=>?_
  refine mny 0 hst E (.r 13 1<|.b 14 2 hb2<|.r 15 2<|.r 18 1<|.nil) (fun a E=>?_)
  refine dn ?_
  refine hK28 _ _ (wp_ret (qCK (qCJ ?_)))
  replace S:=S.tail
  obtain rfl:=si H
  exact rtN E ⟨_,rfl,_,rfl,S⟩
  refine mny 0 hst E (.r 13 4<|.r 18 1<|.nil) (fun a E=>?_)
  refine dn ?_
  refine hK28 _ _ (wp_ret (qCK (qCJ ?_)))
  replace S:=S.tail
  obtain rfl:=si H
  exact rtN E ⟨_,rfl,_,rfl,S⟩
  refine mny 0 hst E (.r 8 11 .nil) (fun a E=>?_)
  refine dn ?_
  refine hK28 _ _ (wp_ret (qCK (qCJ ?_)))
  replace S:=S.tail
  obtain rfl:=si H
  exact rtN E ⟨_,rfl,_,rfl,S⟩
 refine pl0 (plc E (.r 0 1<|.b 1 1 hb2<|.r 2 3<|.nil) (fun a E=>E.fk 43 H (fun c19 E H=>?_) fun c19 E H=>?_))
 refine plc E (.r 5 1<|.b 6 1 hb2<|.r 7 3<|.nil) (fun a E=>E.fk 48 H (fun c20 E H=>?_) fun c20 E H=>?_)
 refine plc E (.r 10 1<|.b 11 1 hb2<|.r 12 2<|.nil) (fun a E=>E.fkn 52 H (fun c21 E H=>?_) fun c21 E H=>?_)
 refine plc E (.r 14 5 .nil) (fun a E=>pld ?_)
 exact J26 _ (by omega) _ (x == 1) _ _ E .of S H
 refine plc E (.r 14 5 .nil) (fun a E=>pld ?_)
 exact J26 _ (by omega) _ true _ _ E .of S H
 refine plc E (.r 10 9 .nil) (fun a E=>pld ?_)
 exact J26 _ (by omega) _ false _ _ E .of S H
 refine plc E (.r 5 14 .nil) (fun a E=>pld ?_)
 exact J26 _ (by omega) _ false _ _ E .of S H
 refine wp_skip ?_
 refine qCL ?_
 refine hK4 _ _ (rr E fun a E=>(wp_ret ?_))
 replace S:=S.tail
 obtain rfl:=si H
 exact rtN E ⟨_,rfl,_,rfl,S⟩
mutual
def qAb.j6:Nat→List qK→Bool→Option Int
 | 0,_,_=>none
 | k+1,x,y5=>if y5=true then (some 1) else (qAb.l18 k x (-1) 0)
def qAb.l18:Nat→List qK→Int→Int→Option Int
 | 0,_,_,_=>none
 | k+1,x,x16,x17=>if x17<(x.length:Int) then (if 0≤x17∧x17<(x.length:Int) then ((qAz.f k x16 (nth qK.z x x17)).bind fun t37=>(if t37.2=true then (qAb.l18 k x t37.1 (w64 (x17+1))) else (some 1))) else (none)) else (some 0)
end
theorem qAb.j6_s k x y5:type_of% (qAb.j6.eq_2 x y5 k):=qAb.j6.eq_2 x y5 k
theorem qAb.l18_s k x x16 x17:type_of% (qAb.l18.eq_2 x x16 x17 k):=qAb.l18.eq_2 x x16 x17 k
def qAb.f(k:Nat)(x:List qK):Option Int:=if (x.length:Int)=0 then (qAb.j6 k x true) else (qAb.j6 k x (decide ((x.length:Int)>8)))
def qAb.Post(W F:World)(r:Int)(v:Value)(w':World):Prop:=∃(F':World),v=iv r∧Sm W F w' F' []
theorem qAb.calls(k:Nat)(x:List qK)(A0_0:OA)(c0_0:Nat)(r:Int)(W F:World)(hown:Sub F W)(g0_0:Rd qK.k F A0_0 c0_0 x)(H:qAb.f k x=some r):
    Cr 262 #[.slice A0_0 x.length c0_0] W (qAb.Post W F r):=by
 have S:=sT hown
 unfold qAb.f at H
 refine ent 32 rfl rfl rfl (fun a E=>?_)
 refine rr E fun a E=>(sq fun K2 hK2=>sq fun K3 hK3=>?_)
 have J9:∀ kq7,kq7≤k→∀(G:NV)(y5:Bool)(a:Act)(w':World),Env 32 G a→At G [(0,.slice A0_0 x.length c0_0),(15,.bool y5)]→Sm W F w' F []→qAb.j6 kq7 x y5=some r→K3 a w':=by
  intro kq7 hkq G y5 a u10 E A S H
  obtain _ | k8:=kq7
  exact zz H
  rw [qAb.j6_s]at H
  obtain ⟨J,E⟩:=E.at A
  refine hK3 _ _ (E.ib 15 H (fun c11 E H=>?_) fun c11 E H=>?_)
  refine rr E fun a E=>(wp_ret (qCJ ?_))
  obtain rfl:=si H
  exact rt1 E ⟨_,rfl,_,rfl,S⟩
  refine wp_skip (hK2 _ _ (rr E fun a E=>(sq fun K14 hK14=>rr E fun a E=>(wp_block ?_))))
  refine wp_loop_ghost (fun kq19 a w'=>∃(G:NV)(x16:Int)(x17:Int),kq19≤k8∧Env 32 G a∧At G [(3,iv x16),(16,.slice A0_0 x.length c0_0),(17,iv (x.length:Int)),(18,iv x17)]∧Sm W F w' F []∧qAb.l18 kq19 x x16 x17=some r) k8 ⟨_,(-1),0,Nat.le_refl _,E,.of,S,H⟩ ?_
  rintro kq19 a u21 ⟨G,x16,x17,hkq,E,A,S,H⟩
  obtain _ | k20:=kq19
  exact zz H
  rw [qAb.l18_s]at H
  obtain ⟨J,E⟩:=E.at A
  refine rr E fun a E=>(sq fun K23 hK23=>E.ik 19 H (fun c24 E H=>?_) fun c24 E H=>?_)
  refine wp_skip (hK23 _ _ (sq fun K25 hK25=>wp_block (sq fun K26 hK26=>pl0 ?_)))
  obtain ⟨c27,H⟩:=gd H
  have hE_:=E
  obtain ⟨ad28,rfl⟩:=g0_0.addr c27.1 c27.2
  replace E:=hE_
  obtain ⟨cs30,rfl,hc31⟩:=g0_0.el qK.z x17 c27.1 c27.2
  refine plc E (.x 0 c27<|.cs 1 (S.fcs hc31)<|.nil) (fun a E=>pla (t:=279) E S [iv 0,iv 0,iv 0] fun b32 u33 hb32 S a E=>pls E S [iv ((nth qK.z x x17).f0),iv ((nth qK.z x x17).f1),iv ((nth qK.z x x17).f2)] fun u34 hb32 S a E=>pld (hK26 _ _ (sq fun K35 hK35=>pl0 (plc E (.r 0 1<|.bn 1 0 3 hb32<|.nil) (fun a E=>?_)))))
  obtain ⟨t37,h38,H⟩:=bd H
  refine plq E S en297 (qAz.calls k20 x16 (nth qK.z x x17) _ _ _ S.own.sub h38) fun u36 S a E=>plc E (.r 3 5 .nil) (fun a E=>pld (hK35 _ _ (sq fun K39 hK39=>rr E fun a E=>(E.ibn 29 H (fun c41 E H=>?_) fun c41 E H=>?_))))
  refine wp_skip (hK39 _ _ (pl0 (plc E (.r 0 2 .nil) (fun a E=>pld ?_))))
  refine qCL ?_
  refine hK25 _ _ (pl0 (plc E (.r 0 2 .nil) (fun a E=>pld ?_)))
  replace S:=S.tail
  exact qCM ⟨k20,by omega,_,t37.1,(w64 (x17+1)),by omega,E,.of,S,H⟩
  refine rr E fun a E=>(wp_ret (qCJ (qCK (qCJ (qCJ (qCK (qCJ ?_)))))))
  replace S:=S.tail
  obtain rfl:=si H
  exact rt1 E ⟨_,rfl,_,rfl,S⟩
  refine wp_exit ?_
  refine hK14 _ _ (rr E fun a E=>(wp_ret ?_))
  obtain rfl:=si H
  exact rt1 E ⟨_,rfl,_,rfl,S⟩
 refine pl0 (plc E (.r 0 4 .nil) (fun a E=>E.fk 11 H (fun c4 E H=>?_) fun c4 E H=>?_))
 refine plc E (.r 4 4 .nil) (fun a E=>pld ?_)
 exact J9 _ (by omega) _ true _ _ E .of S H
 refine plc E (.r 4 4 .nil) (fun a E=>pld ?_)
 exact J9 _ (by omega) _ (decide ((x.length:Int)>8)) _ _ E .of S H
def qBg.f(x:qA):Option Bool:=some true
def qBg.Post(W F:World)(r:Bool)(v:Value)(w':World):Prop:=∃(F':World),v = .bool r∧Sm W F w' F' []
theorem qBg.calls(x:qA)(r:Bool)(W F:World)(hown:Sub F W)(H:qBg.f x=some r):
    Cr 318 #[.agg #[iv x.f0,iv x.f1,iv x.f2,iv x.f3,.bool x.f4,.bool x.f5]] W (qBg.Post W F r):=by
 have S:=sT hown
 unfold qBg.f at H
 refine ent 3 rfl rfl rfl (fun a E=>?_)
 refine sq fun K1 hK1=>pl0 (plx (t:=153) E S [iv x.f0,iv x.f1,iv x.f2,iv x.f3,.bool x.f4,.bool x.f5] fun b2 u3 hb2 S a E=>plc E (.r 1 1 .nil) (fun a E=>pld (hK1 _ _ (rr E fun a E=>(wp_ret ?_)))))
 replace S:=S.tail
 obtain rfl:=si H
 exact rt1 E ⟨_,rfl,_,rfl,S⟩
def qBV.f(x:qA):Option Int:=some x.f1
def qBV.Post(W F:World)(r:Int)(v:Value)(w':World):Prop:=∃(F':World),v=iv r∧Sm W F w' F' []
theorem qBV.calls(x:qA)(r:Int)(W F:World)(hown:Sub F W)(H:qBV.f x=some r):
    Cr 319 #[.agg #[iv x.f0,iv x.f1,iv x.f2,iv x.f3,.bool x.f4,.bool x.f5]] W (qBV.Post W F r):=by
 have S:=sT hown
 unfold qBV.f at H
 refine ent 5 rfl rfl rfl (fun a E=>?_)
 refine sq fun K1 hK1=>pl0 (plx (t:=153) E S [iv x.f0,iv x.f1,iv x.f2,iv x.f3,.bool x.f4,.bool x.f5] fun b2 u3 hb2 S a E=>plc E (.r 1 1 .nil) (fun a E=>pld (hK1 _ _ (rg E (.r 0 1<|.b 1 1 hb2<|.r 2 1<|.nil) fun a E=>(wp_ret ?_)))))
 replace S:=S.tail
 obtain rfl:=si H
 exact rt1 E ⟨_,rfl,_,rfl,S⟩
def qBS.f(x:qB)(y:Int):Option Int:=(qAn.f x.f0 y).bind fun t6=>(some t6)
def qBS.Post(W F:World)(r:Int)(v:Value)(w':World):Prop:=∃(F':World),v=iv r∧Sm W F w' F' []
theorem qBS.calls(x:qB)(y:Int)(r:Int)(W F:World)(hown:Sub F W)(H:qBS.f x y=some r):
    Cr 337 #[.agg #[iv x.f0,iv x.f1],iv y] W (qBS.Post W F r):=by
 have S:=sT hown
 unfold qBS.f at H
 refine ent 9 rfl rfl rfl (fun a E=>?_)
 refine sq fun K1 hK1=>pl0 (plx (t:=306) E S [iv x.f0,iv x.f1] fun b2 u3 hb2 S a E=>plc E (.r 1 1 .nil) (fun a E=>pld (hK1 _ _ (sq fun K4 hK4=>pl0 (plc E (.r 0 1<|.b 1 0 hb2<|.r 2 1<|.nil) (fun a E=>?_))))))
 obtain ⟨t6,h7,H⟩:=bd H
 refine plq E S en197 (qAn.calls x.f0 y _ _ _ S.own.sub h7) fun u5 S a E=>plc E (.r 4 1 .nil) (fun a E=>pld (hK4 _ _ (wp_ret ?_)))
 replace S:=S.tail
 obtain rfl:=si H
 exact rt1 E ⟨_,rfl,_,rfl,S⟩
def qG.l7:Nat→List qB→Int→Int→Int→Option (Int × Bool)
 | 0,_,_,_,_=>none
 | k+1,x,y,x5,x6=>if x5<x6 then (if 0≤(w64 ((IntKind.u64.wrap (w64 (x5+x6))).fdiv 2))∧(w64 ((IntKind.u64.wrap (w64 (x5+x6))).fdiv 2))<(x.length:Int) then ((qBS.f (nth qB.z x (w64 ((IntKind.u64.wrap (w64 (x5+x6))).fdiv 2))) y).bind fun t22=>(if t22<0 then (qG.l7 k x y (w64 ((w64 ((IntKind.u64.wrap (w64 (x5+x6))).fdiv 2))+1)) x6) else (qG.l7 k x y x5 (w64 ((IntKind.u64.wrap (w64 (x5+x6))).fdiv 2))))) else (none)) else (if x5<(x.length:Int) then (if 0≤x5∧x5<(x.length:Int) then ((qBS.f (nth qB.z x x5) y).bind fun t33=>(some (x5,(t33 == 0)))) else (none)) else (some (x5,false)))
theorem qG.l7_s k x y x5 x6:type_of% (qG.l7.eq_2 x y x5 x6 k):=qG.l7.eq_2 x y x5 x6 k
def qG.f(k:Nat)(x:List qB)(y:Int):Option (Int × Bool):=qG.l7 k x y 0 (x.length:Int)
def qG.Post(W F:World)(r:Int × Bool)(v:Value)(w':World):Prop:=∃(F':World),v = .tuple #[iv r.1,.bool r.2]∧Sm W F w' F' []
theorem qG.calls(k:Nat)(x:List qB)(y:Int)(A0_0:OA)(c0_0:Nat)(r:Int × Bool)(W F:World)(hown:Sub F W)(g0_0:Rd qB.k F A0_0 c0_0 x)(H:qG.f k x y=some r):
    Cr 336 #[.slice A0_0 x.length c0_0,iv y,.func (.func 337) #[] #[]] W (qG.Post W F r):=by
 have S:=sT hown
 unfold qG.f at H
 refine ent 49 rfl rfl rfl (fun a E=>?_)
 refine rr E fun a E=>(rr E fun a E=>(rr E fun a E=>(sq fun K4 hK4=>wp_block ?_)))
 refine wp_loop_ghost (fun kq8 a w'=>∃(G:NV)(x5:Int)(x6:Int),kq8≤k∧Env 49 G a∧At G [(0,.slice A0_0 x.length c0_0),(1,iv y),(2,.func (.func 337) #[] #[]),(8,iv (x.length:Int)),(9,iv x5),(10,iv x6)]∧Sm W F w' F []∧qG.l7 kq8 x y x5 x6=some r) k ⟨_,0,(x.length:Int),Nat.le_refl _,E,.of,S,H⟩ ?_
 rintro kq8 a u10 ⟨G,x5,x6,hkq,E,A,S,H⟩
 obtain _ | k9:=kq8
 exact zz H
 rw [qG.l7_s]at H
 obtain ⟨J,E⟩:=E.at A
 refine sq fun K11 hK11=>rr E fun a E=>(E.ik 17 H (fun c13 E H=>?_) fun c13 E H=>?_)
 refine wp_skip (hK11 _ _ (wp_block (rr E fun a E=>(sq fun K15 hK15=>pl0 ?_))))
 obtain ⟨c16,H⟩:=gd H
 have hE_:=E
 obtain ⟨ad17,rfl⟩:=g0_0.addr c16.1 c16.2
 replace E:=hE_
 obtain ⟨cs19,rfl,hc20⟩:=g0_0.el qB.z (w64 ((IntKind.u64.wrap (w64 (x5+x6))).fdiv 2)) c16.1 c16.2
 refine plc E (.r 0 3<|.x 3 c16<|.cs 4 (S.fcs hc20)<|.r 5 1<|.nil) (fun a E=>?_)
 obtain ⟨t22,h23,H⟩:=bd H
 refine plq E S en337 (qBS.calls (nth qB.z x (w64 ((IntKind.u64.wrap (w64 (x5+x6))).fdiv 2))) y _ _ _ S.own.sub h23) fun u21 S a E=>plc E (.r 7 1 .nil) (fun a E=>pld (hK15 _ _ (E.ik 31 H (fun c24 E H=>?_) fun c24 E H=>?_)))
 refine pl0 (plc E (.r 0 3 .nil) (fun a E=>pld ?_))
 refine qCL ?_
 exact qCM ⟨k9,by omega,_,(w64 ((w64 ((IntKind.u64.wrap (w64 (x5+x6))).fdiv 2))+1)),x6,by omega,E,.of,S,H⟩
 refine pl0 (plc E (.r 0 2 .nil) (fun a E=>pld ?_))
 refine qCL ?_
 exact qCM ⟨k9,by omega,_,x5,(w64 ((IntKind.u64.wrap (w64 (x5+x6))).fdiv 2)),by omega,E,.of,S,H⟩
 refine wp_exit ?_
 refine hK4 _ _ (sq fun K25 hK25=>pl0 (plc E (.r 0 5 .nil) (fun a E=>E.fk 39 H (fun c26 E H=>?_) fun c26 E H=>?_)))
 obtain ⟨c27,H⟩:=gd H
 have hE_:=E
 obtain ⟨ad28,rfl⟩:=g0_0.addr c27.1 c27.2
 replace E:=hE_
 obtain ⟨cs30,rfl,hc31⟩:=g0_0.el qB.z x5 c27.1 c27.2
 refine plc E (.r 5 3<|.x 8 c27<|.cs 9 (S.fcs hc31)<|.r 10 1<|.nil) (fun a E=>?_)
 obtain ⟨t33,h34,H⟩:=bd H
 refine plq E S en337 (qBS.calls (nth qB.z x x5) y _ _ _ S.own.sub h34) fun u32 S a E=>plc E (.r 12 4 .nil) (fun a E=>pld (hK25 _ _ (wp_ret ?_)))
 obtain rfl:=si H
 exact rtN E ⟨_,rfl,_,rfl,S⟩
 refine plc E (.r 5 11 .nil) (fun a E=>pld (hK25 _ _ (wp_ret ?_)))
 obtain rfl:=si H
 exact rtN E ⟨_,rfl,_,rfl,S⟩
def qq.f(p:List qB)(s:Int)(t:List qB):Option (List qB):=match t with
 | [x]=>if 0≤s∧s≤(p.length:Int)∧p.length≤1000000 then some (p.take s.toNat++x :: p.drop s.toNat) else none
 | _=>none
def qq.Post(p:List qB)(s:Int)(t:List qB)(A0_0:OA)(c0_0:Nat)(A2_0:OA)(c2_0:Nat)(W F:World)(r:List qB)(v:Value)(w':World):Prop:=∃(F':World)(RA0_0:OA)(rc0_0:Nat),v = .slice RA0_0 r.length rc0_0∧St W (mine W [row qB.k 306 (.slice A0_0 p.length c0_0) p,row qB.k 306 (.slice A2_0 t.length c2_0) t]) F w' F' [row qB.k 306 (.slice RA0_0 r.length rc0_0) r]
set_option maxHeartbeats 4000000 in
set_option maxRecDepth 100000 in
theorem qq.calls(p:List qB)(s:Int)(t:List qB)(A0_0:OA)(c0_0:Nat)(A2_0:OA)(c2_0:Nat)(r:List qB)(W F:World)(hown:Own W F [row qB.k 306 (.slice A0_0 p.length c0_0) p,row qB.k 306 (.slice A2_0 t.length c2_0) t])(H:qq.f p s t=some r):
    Cr 338 #[.slice A0_0 p.length c0_0,iv s,.slice A2_0 t.length c2_0] W (qq.Post p s t A0_0 c0_0 A2_0 c2_0 W F r):=by
 have S:=St.start hown
 unfold qq.f at H
 rcases t with _ | ⟨x,_ | ⟨y,l⟩⟩
 ·
  cases H
 rotate_left
 ·
  cases H
 replace H:(if 0≤s∧s≤(p.length:Int)∧p.length≤1000000 then some (p.take s.toNat++x :: p.drop s.toNat) else none)=some r:=H
 by_cases hc:0≤s∧s≤(p.length:Int)∧p.length≤1000000
 rotate_left
 ·
  rw [if_neg hc]at H; cases H
 rw [if_pos hc]at H
 have hr:=Option.some.inj H
 clear H
 obtain ⟨h0,h1,hm⟩:=hc
 obtain ⟨j,rfl⟩:∃ j:Nat,s=j:=⟨s.toNat,by omega⟩
 simp only [Int.toNat_natCast]at hr
 refine enter (n:=95) rfl rfl rfl (Nat.le_of_ble_eq_true rfl) (fun a E=>?_)
 obtain ⟨A12,c12,hA12,hv12⟩:=y_suf (P:=Tryz.prog) (k:=.i64) (S.row_at (i:=0) rfl) ⟨h0,h1⟩
 refine rr E fun a E=>(rg E (.r 0 2<|.y 2 (hv12 (by kernel_rfl)) .nil) fun a E=>(rr E fun a E=>(sq fun K3 hK3=>rr E fun a E=>(cf E (wp_skip (hK3 _ _ (rr E fun a E=>(sq fun K6 hK6=>rr E fun a E=>?_))))))))
 by_cases hi:(j:Int)=(p.length:Int)
 ·
  replace E:=E.kt 22 hi
  refine ct E ?_
  obtain rfl:j=p.length:=by omega
  obtain rfl:p++[x]=r:=by rw [← hr]; simp
  refine sq fun K8 hK8=>pl0 (plc E (.r 0 2 .nil) (fun a E=>ple E (.ap (d:=qB.k) 16 S (qCX (S.row_at (i:=1) rfl)) (by simp only [List.length_cons,List.length_nil]; omega) c2_0) ?_))
  rintro _ w1 a ⟨A1,c1,rfl,S,hz⟩ E
  refine plc E (.r 3 1 .nil) (fun a E=>pld (hK8 _ _ (wp_ret (qCJ ?_))))
  replace S:=S.pm [0] 2
  exact rt1 E ⟨_,rfl,F,_,_,rfl,S⟩
 replace E:=E.kf 22 hi
 refine cf E (wp_skip (hK6 _ _ ?_))
 have hlt:j<p.length:=by omega
 have hxc:p.length≤c0_0∧c0_0≤maxLen:=by
  obtain ⟨_,q1,q2,_⟩:=qCN (S.row_at (i:=0) rfl)
  exact ⟨q1,q2⟩
 have hxc2:[x].length≤c2_0:=(qCN (S.row_at (i:=1) rfl)).2.1
 have hE_:=E
 obtain ⟨g,cur,rfl,hsz,hrep,S⟩:=S.unrow (by omega)
 replace S:=S.front 1 rfl
 obtain ⟨g2,cur2,rfl,hsz2,hrep2,S⟩:=S.unrow (by simp)
 replace E:=hE_
 have hne:g2≠g:=S.ne (i:=0) (j:=1) rfl rfl (by decide)
 obtain ⟨cs,hcs⟩:∃ cs,cs=cur2.toList.take 2:=⟨_,rfl⟩
 have hx:(qB.k).K F x cs:=by
  have h5:=hrep2.2 0 x rfl
  rw [Nat.zero_mul,List.drop_zero,List.take_take]at h5
  rw [hcs]
  exact h5
 have hcl:cs.length=2:=(qB.k).len hx
 have hcget:∀ q u,cs[q]? = some u→cur2[q]? = some u:=fun q u hq=>by
  rw [hcs,List.getElem?_take]at hq
  split at hq
  ·
   rwa [Array.getElem?_toList]at hq
  ·
   cases hq
 have hcone:∀ u ∈ cs,u.oneCell'=true:=(qB.k).one hx
 obtain ⟨inner,hin⟩:∃ inner,inner=cur.toList.take (p.length * 2):=⟨_,rfl⟩
 replace hrep:RepsK qB.k F p inner:=by rw [hin]; exact hrep
 have hil:inner.length=p.length * 2:=hrep.1
 have hione:∀ u ∈ inner.drop (j * 2),u.oneCell'=true:=fun u hu=>hrep.one u (List.mem_of_mem_drop hu)
 have hidl:(inner.drop (j * 2)).length=(p.length - j) * 2:=by rw [List.length_drop,hil,Nat.sub_mul]
 have higet:∀ q u,(inner.drop (j * 2))[q]? = some u→cur[j * 2+q]? = some u:=fun q u hq=>by
  rw [List.getElem?_drop,hin,List.getElem?_take]at hq
  split at hq
  ·
   rwa [Array.getElem?_toList]at hq
  ·
   cases hq
 replace hsz:cur.size=c0_0 * 2:=hsz
 have hw1:w64 ((p.length:Int)+(([x].length:Nat):Int))=((p.length+1:Nat):Int):=by
  simp only [List.length_cons,List.length_nil]
  rw [qCQ (by omega) (by omega)]
  omega
 have hw2:w64 ((j:Int)+(([x].length:Nat):Int))=((j+1:Nat):Int):=by
  simp only [List.length_cons,List.length_nil]
  rw [qCQ (by omega) (by omega)]
  omega
 refine sq fun K9 hK9=>rg E (.r 0 4<|.y 4 (y_cap (A:=some ⟨g,0,none⟩) (n:=p.length) (c:=c0_0))<|.r 5 1 .nil) fun a E=>?_
 by_cases hroom:w64 ((p.length:Int)+(([x].length:Nat):Int))>(c0_0:Int)
 ·
  replace E:=E.kt 31 hroom
  rw [hw1]at hroom
  refine ct E ?_
  have hw3:w64 (w64 ((p.length:Int)+(([x].length:Nat):Int)) - (j:Int))=((p.length+1 - j:Nat):Int):=by
   rw [hw1,qCQ (by omega) (by omega)]
   omega
  refine sq fun K11 hK11=>pl0 (plc E (.r 0 2<|.y 2 (y_hi (e:=306) (z:=2) (g:=g) (n:=p.length) (c:=c0_0) (k:=.i64) (hi:=(j:Int)) ⟨by omega,by omega⟩)<|.r 3 5 .nil) (fun a E=>ple E (.gro (e:=306) (g:=g) (c:=c0_0) (j:=j) (z:=2) (bytes:=16) (k:=w64 (w64 ((p.length:Int)+(([x].length:Nat):Int)) - (j:Int))) S (S.ba 1) (by omega) (by omega) (by rw [hsz]; exact Nat.mul_le_mul_right _ (by omega)) (by rw [hw3]; omega) (by kernel_rfl)) ?_))
  rintro _ w1 a ⟨b,arr,cc,rfl,has,hc1,hc2,hpre,S,hag⟩ E
  rw [hw3]at hc1 E
  have hnb:g2≠b:=S.ne (i:=1) (j:=0) rfl rfl (by decide)
  have hgb:g≠b:=S.ne (i:=2) (j:=0) rfl rfl (by decide)
  have hk3:j+((p.length+1 - j:Nat):Int).toNat=p.length+1:=by rw [Int.toNat_natCast]; omega
  rw [hk3]at hc1 E
  have hpi:arr.toList.take (j * 2)=inner.take (j * 2):=by
   rw [hpre,hin,List.take_take,Nat.min_eq_left (Nat.mul_le_mul_right _ (by omega))]
  obtain ⟨s1,s2,s3⟩:=qDk (sz:=2) (n:=p.length) (i:=j) (cap:=cc) (c0:=arr.toList) (inner:=inner) (cs:=cs) hpi hil hcl (by omega) hc1 (by rw [Array.length_toList]; exact has)
  obtain ⟨C1,hC1⟩:∃ C1,C1=arr.toList.take (j * 2)++cs++arr.toList.drop (j * 2+cs.length):=⟨_,rfl⟩
  rw [← hC1]at s1 s2 s3
  obtain ⟨C2,hC2⟩:∃ C2,C2=C1.take ((j+1) * 2)++inner.drop (j * 2)++C1.drop ((j+1) * 2+(inner.drop (j * 2)).length):=⟨_,rfl⟩
  rw [← hC2]at s1 s2
  refine plc E (.r 9 1 .nil) (fun a E=>pld (hK11 _ _ (sq fun K12 hK12=>pl0 (plc E (.r 0 2<|.y 2 (y_lo (e:=306) (z:=2) (g:=b) (n:=p.length+1) (c:=cc) (k:=.i64) (lo:=(j:Int)) ⟨by omega,by omega⟩ (by omega))<|.r 3 1 .nil) (fun a E=>?_)))))
  have hb2:=S.ba 1
  have hbg:=S.ba 2
  have hmin1:Nat.min [x].length (p.length+1 - (j:Int).toNat)=1:=by
   rw [Int.toNat_natCast]
   simp only [List.length_cons,List.length_nil]
   exact Nat.min_eq_left (by omega)
  refine ple E (.cpy (e:=306) (z:=2) (off:=(j:Int).toNat * 2) (dn:=p.length+1 - (j:Int).toNat) (dc:=cc - (j:Int).toNat) (sn:=[x].length) (sc:=c2_0) (sa:=⟨g2,0,none⟩) S cs (by rw [hmin1,hcl]) (fun q u hq=>by rw [qCZ,Nat.zero_add]; exact qCS hb2 (hcget q u hq)) hcone (by
      rw [Int.toNat_natCast,has,hcl]
      have:=Nat.mul_le_mul_right 2 (show j+1≤cc by omega)
      omega) (by kernel_rfl)) ?_
  rintro _ w2 a ⟨rfl,S,hz,hnew,hoth⟩ E
  simp only [Int.toNat_natCast]at S hnew
  rw [← hC1]at S hnew
  refine pld (hK12 _ _ (sq fun K13 hK13=>?_))
  refine drawn 9 ⟨[8],[],fun q=>False⟩ mixed rfl (by kernel_rfl) (fun hst=>?_)
  replace S:=S.drew
  have hbg2:=S.ba 2
  refine mny 1 hst E (.r 0 4<|.y 4 (y_lo (e:=306) (z:=2) (g:=b) (n:=p.length+1) (c:=cc) (k:=.i64) (lo:=w64 ((j:Int)+(([x].length:Nat):Int))) ⟨by omega,by omega⟩ (by omega))<|.r 5 2<|.y 7 (y_lo (e:=306) (z:=2) (g:=g) (n:=p.length) (c:=c0_0) (k:=.i64) (lo:=(j:Int)) ⟨by omega,by omega⟩ (by omega)) .nil) (fun a E=>?_)
  refine on1 8 E (.cpy (e:=306) (z:=2) (off:=(w64 ((j:Int)+(([x].length:Nat):Int))).toNat * 2) (dn:=p.length+1 - (w64 ((j:Int)+(([x].length:Nat):Int))).toNat) (dc:=cc - (w64 ((j:Int)+(([x].length:Nat):Int))).toNat) (sn:=p.length - (j:Int).toNat) (sc:=c0_0 - (j:Int).toNat) (sa:=⟨g,(j:Int).toNat * 2,none⟩) S (inner.drop (j * 2)) (by
      rw [hw2,Int.toNat_natCast,Int.toNat_natCast,hidl,show p.length+1 - (j+1)=p.length - j by omega]
      congr 1
      exact (Nat.min_self _).symm) (fun q u hq=>by rw [qCZ,Int.toNat_natCast]; exact qCS hbg2 (higet q u hq)) hione (by
      rw [hw2,Int.toNat_natCast,hidl,List.size_toArray,s3,← Nat.add_mul]
      exact Nat.mul_le_mul_right _ (by omega)) (by kernel_rfl)) ?_
  rintro _ w3 a ⟨rfl,S,hz,hnew,hoth⟩ E
  refine ⟨.d,?_⟩
  refine dn ?_
  rw [hw2,Int.toNat_natCast]at S
  simp only [List.toList_toArray]at S
  rw [← hC2]at S
  refine hK13 _ _ (rr E fun a E=>(wp_ret (qCJ ?_)))
  have hrl:r.length=p.length+1:=by rw [← hr]; simp; omega
  have hrr:RepsK qB.k F r (C2.toArray.toList.take (r.length * (qB.k).sz)):=by
   rw [hrl]
   show RepsK qB.k F r (C2.take ((p.length+1) * 2))
   rw [s1,← hr]
   exact qCn hrep hx (by omega) rfl
  have hS2:=S.rerow (c:=cc) r (show C2.toArray.size=cc * 2 by simpa using s2) (by omega) hc2 hrr
  replace hS2:=hS2.front 1 rfl
  replace hS2:=hS2.tail
  replace hS2:=hS2.front 1 rfl
  replace hS2:=hS2.tail
  rw [← hrl]at E
  exact rt1 E ⟨_,rfl,F,_,_,rfl,hS2⟩
 replace E:=E.kf 31 hroom
 rw [hw1]at hroom
 have hrm:p.length+1≤c0_0:=by omega
 refine cf E (wp_skip (hK9 _ _ ?_))
 obtain ⟨s1,s2,s3⟩:=qEM (sz:=2) (n:=p.length) (i:=j) (cap:=c0_0) (cur:=cur.toList) (inner:=inner) (cs:=cs) hin.symm hcl (by omega) hrm (by rw [Array.length_toList]; exact hsz)
 obtain ⟨C1,hC1⟩:∃ C1,C1=cur.toList.take ((j+1) * 2)++inner.drop (j * 2)++cur.toList.drop ((j+1) * 2+(inner.drop (j * 2)).length):=⟨_,rfl⟩
 rw [← hC1]at s1 s2 s3
 obtain ⟨C2,hC2⟩:∃ C2,C2=C1.take (j * 2)++cs++C1.drop (j * 2+cs.length):=⟨_,rfl⟩
 rw [← hC2]at s1 s2
 refine rg E (.r 0 4<|.y 4 (y_hi (e:=306) (z:=2) (g:=g) (n:=p.length) (c:=c0_0) (k:=.i64) (hi:=w64 ((p.length:Int)+(([x].length:Nat):Int))) ⟨by omega,by omega⟩)<|.r 5 1 .nil) fun a E=>?_
 have hn1:(w64 ((p.length:Int)+(([x].length:Nat):Int))).toNat=p.length+1:=by rw [hw1,Int.toNat_natCast]
 rw [hn1]at E
 refine sq fun K16 hK16=>sq fun K17 hK17=>pl0 (plc E (.r 0 5<|.y 5 (y_lo (e:=306) (z:=2) (g:=g) (n:=p.length+1) (c:=c0_0) (k:=.i64) (lo:=w64 ((j:Int)+(([x].length:Nat):Int))) ⟨by omega,by omega⟩ (by omega)) .nil) (fun a E=>?_))
 have hb2:=S.ba 0
 have hbg:=S.ba 1
 have hcz:cur.size≠0:=by rw [hsz]; exact Nat.mul_ne_zero (by omega) (by decide)
 refine ple E (.ext (f:=343) (args:=[.slice (pb g2) [x].length c2_0,.slice (some ⟨g,(w64 ((j:Int)+(([x].length:Nat):Int))).toNat * 2,none⟩) (p.length+1 - (w64 ((j:Int)+(([x].length:Nat):Int))).toNat) (c0_0 - (w64 ((j:Int)+(([x].length:Nat):Int))).toNat)]) (v:=.bool false) (R:=fun v w'=>v = .bool false∧w'=_) (by
    rw [run_callFunc_extern Tryz.func343 (by kernel_rfl) (by kernel_rfl) (by kernel_rfl) (e:=Extern.SlicesOverlaps.overlaps #[281,281] #[4]) (by kernel_rfl)]
    refine (congrArg (fun r:Result Value=>r.andThen fun v w'=>Result.ok (Next.value v) w') (Lib.run_overlaps_apart _ 281 4 306 Tryz.underlying281 2 (fun _=>by kernel_rfl) ⟨g2,0,none⟩ ⟨g,(w64 ((j:Int)+(([x].length:Nat):Int))).toNat * 2,none⟩ [x].length c2_0 _ _ hne 306 306 cur2.size cur.size (by simp [World.shape?,hb2]) (by simp [World.shape?,hbg]) hcz (by simp [World.frozen?,hb2]) (by simp [World.frozen?,hb2]))).trans rfl) ⟨rfl,rfl⟩) ?_
 rintro _ _ a ⟨rfl,rfl⟩ E
 refine plc E (.r 7 1 .nil) (fun a E=>pld (hK17 _ _ (ct E (sq fun K18 hK18=>?_))))
 refine drawn 9 ⟨[8],[],fun q=>False⟩ mixed rfl (by kernel_rfl) (fun hst=>?_)
 replace S:=S.drew
 replace S:=S.front 1 rfl
 have hbg2:=S.ba 0
 refine mny 1 hst E (.r 0 4<|.y 4 (y_lo (e:=306) (z:=2) (g:=g) (n:=p.length+1) (c:=c0_0) (k:=.i64) (lo:=w64 ((j:Int)+(([x].length:Nat):Int))) ⟨by omega,by omega⟩ (by omega))<|.r 5 2<|.y 7 (y_lo (e:=306) (z:=2) (g:=g) (n:=p.length+1) (c:=c0_0) (k:=.i64) (lo:=(j:Int)) ⟨by omega,by omega⟩ (by omega)) .nil) (fun a E=>?_)
 refine on1 8 E (.cpy (e:=306) (z:=2) (off:=(w64 ((j:Int)+(([x].length:Nat):Int))).toNat * 2) (dn:=p.length+1 - (w64 ((j:Int)+(([x].length:Nat):Int))).toNat) (dc:=c0_0 - (w64 ((j:Int)+(([x].length:Nat):Int))).toNat) (sn:=p.length+1 - (j:Int).toNat) (sc:=c0_0 - (j:Int).toNat) (sa:=⟨g,(j:Int).toNat * 2,none⟩) S (inner.drop (j * 2)) (by
    rw [hw2,Int.toNat_natCast,Int.toNat_natCast,hidl,show p.length+1 - (j+1)=p.length - j by omega]
    congr 1
    exact (Nat.min_eq_right (by omega)).symm) (fun q u hq=>by rw [qCZ,Int.toNat_natCast]; exact qCS hbg2 (higet q u hq)) hione (by
    rw [hw2,Int.toNat_natCast,hidl,hsz,← Nat.add_mul]
    exact Nat.mul_le_mul_right _ (by omega)) (by kernel_rfl)) ?_
 rintro _ w2 a ⟨rfl,S,hz,hnew,hoth⟩ E
 refine ⟨.d,?_⟩
 refine dn ?_
 rw [hw2,Int.toNat_natCast,← hC1]at S
 refine hK18 _ _ (sq fun K19 hK19=>pl0 ?_)
 have hb3:=S.ba 1
 refine plc E (.r 0 2<|.y 2 (y_lo (e:=306) (z:=2) (g:=g) (n:=p.length+1) (c:=c0_0) (k:=.i64) (lo:=(j:Int)) ⟨by omega,by omega⟩ (by omega))<|.r 3 1 .nil) (fun a E=>?_)
 have hmin1:Nat.min [x].length (p.length+1 - (j:Int).toNat)=1:=by
  rw [Int.toNat_natCast]
  simp only [List.length_cons,List.length_nil]
  exact Nat.min_eq_left (by omega)
 refine ple E (.cpy (e:=306) (z:=2) (off:=(j:Int).toNat * 2) (dn:=p.length+1 - (j:Int).toNat) (dc:=c0_0 - (j:Int).toNat) (sn:=[x].length) (sc:=c2_0) (sa:=⟨g2,0,none⟩) S cs (by rw [hmin1,hcl]) (fun q u hq=>by rw [qCZ,Nat.zero_add]; exact qCS hb3 (hcget q u hq)) hcone (by
    rw [Int.toNat_natCast,List.size_toArray,s3,hcl]
    have:=Nat.mul_le_mul_right 2 (show j+1≤c0_0 by omega)
    omega) (by kernel_rfl)) ?_
 rintro _ w3 a ⟨rfl,S,hz,hnew,hoth⟩ E
 simp only [Int.toNat_natCast,List.toList_toArray]at S
 rw [← hC2]at S
 refine pld (hK19 _ _ (rr E fun a E=>(wp_ret (qCJ ?_))))
 have hrl:r.length=p.length+1:=by rw [← hr]; simp; omega
 have hrr:RepsK qB.k F r (C2.toArray.toList.take (r.length * (qB.k).sz)):=by
  rw [hrl]
  show RepsK qB.k F r (C2.take ((p.length+1) * 2))
  rw [s1,← hr]
  exact qCn hrep hx (by omega) rfl
 have hS2:=S.rerow (c:=c0_0) r (show C2.toArray.size=c0_0 * 2 by simpa using s2) (by omega) hxc.2 hrr
 replace hS2:=hS2.front 1 rfl
 replace hS2:=hS2.tail
 rw [← hrl]at E
 exact rt1 E ⟨_,rfl,F,_,_,rfl,hS2⟩
end Go.Proofs.YtpabbpebefdafaaGreat.CN
