import Derived.Test.YtpohepinmjmbkaaGreatQD2
namespace Go.Proofs.YtpohepinmjmbkaaGreat.QD
open Go Go.RowKit Go.Proofs.YtpohepinmjmbkaaGreat.Sl
set_option linter.unusedVariables false
set_option linter.unusedSimpArgs false
set_option maxHeartbeats 4000000
set_option maxRecDepth 100000
def qBe.f(x0_:qA):Option Bool:=some true
def qBe.Post(W F:World)(r:Bool)(v:Value)(w':World):Prop:=∃(F':World),v = .bool r∧St W (mine W []) F w' F' []
theorem qBe.calls(x0_:qA)(r:Bool)(W F:World)(hown:Sub F W)(H:qBe.f x0_=some r):
    Calls Tryz.prog 237 #[.agg #[iv x0_.f0,iv x0_.f1,iv x0_.f2,iv x0_.f3,.bool x0_.f4,.bool x0_.f5]] W fun e w'=>∃ v,e = .returned v∧qBe.Post W F r v w':=by
 have hS:=St.start (Own.nil hown)
 unfold qBe.f at H
 refine enter (n:=3) rfl rfl rfl (Nat.le_of_ble_eq_true rfl) (fun a hE=>?_)
 refine sq fun K1 hK1=>pl0 (ple hE (.bx (t:=104) hS [iv x0_.f0,iv x0_.f1,iv x0_.f2,iv x0_.f3,.bool x0_.f4,.bool x0_.f5]) ?_)
 rintro _ u3 a ⟨b2,rfl,hb2,hS,hg⟩ hE
 refine plc hE (.r 1 1 .nil) (fun a hE=>pld (hK1 _ _ (rr hE fun a hE=>(wp_ret ?_))))
 replace hS:=hS.tail
 obtain rfl:=si H
 exact rt1 hE ⟨_,rfl,_,rfl,hS⟩
def qBU.f(x0_:qA):Option Int:=some x0_.f1
def qBU.Post(W F:World)(r:Int)(v:Value)(w':World):Prop:=∃(F':World),v=iv r∧St W (mine W []) F w' F' []
theorem qBU.calls(x0_:qA)(r:Int)(W F:World)(hown:Sub F W)(H:qBU.f x0_=some r):
    Calls Tryz.prog 238 #[.agg #[iv x0_.f0,iv x0_.f1,iv x0_.f2,iv x0_.f3,.bool x0_.f4,.bool x0_.f5]] W fun e w'=>∃ v,e = .returned v∧qBU.Post W F r v w':=by
 have hS:=St.start (Own.nil hown)
 unfold qBU.f at H
 refine enter (n:=5) rfl rfl rfl (Nat.le_of_ble_eq_true rfl) (fun a hE=>?_)
 refine sq fun K1 hK1=>pl0 (ple hE (.bx (t:=104) hS [iv x0_.f0,iv x0_.f1,iv x0_.f2,iv x0_.f3,.bool x0_.f4,.bool x0_.f5]) ?_)
 rintro _ u3 a ⟨b2,rfl,hb2,hS,hg⟩ hE
 refine plc hE (.r 1 1 .nil) (fun a hE=>pld (hK1 _ _ (rg hE (.r 0 1<|.b 1 1 hb2<|.r 2 1<|.nil) fun a hE=>(wp_ret ?_))))
 replace hS:=hS.tail
 obtain rfl:=si H
 exact rt1 hE ⟨_,rfl,_,rfl,hS⟩
def qBR.f(x0_:qB)(x1_:Int):Option Int:=(qAP.f x0_.f0 x1_).bind fun t6=>(some t6)
def qBR.Post(W F:World)(r:Int)(v:Value)(w':World):Prop:=∃(F':World),v=iv r∧St W (mine W []) F w' F' []
theorem qBR.calls(x0_:qB)(x1_:Int)(r:Int)(W F:World)(hown:Sub F W)(H:qBR.f x0_ x1_=some r):
    Calls Tryz.prog 255 #[.agg #[iv x0_.f0,iv x0_.f1],iv x1_] W fun e w'=>∃ v,e = .returned v∧qBR.Post W F r v w':=by
 have hS:=St.start (Own.nil hown)
 unfold qBR.f at H
 refine enter (n:=9) rfl rfl rfl (Nat.le_of_ble_eq_true rfl) (fun a hE=>?_)
 refine sq fun K1 hK1=>pl0 (ple hE (.bx (t:=216) hS [iv x0_.f0,iv x0_.f1]) ?_)
 rintro _ u3 a ⟨b2,rfl,hb2,hS,hg⟩ hE
 refine plc hE (.r 1 1 .nil) (fun a hE=>pld (hK1 _ _ (sq fun K4 hK4=>pl0 (plc hE (.r 0 1<|.b 1 0 hb2<|.r 2 1<|.nil) (fun a hE=>?_)))))
 obtain ⟨t6,h7,H⟩:=bd H
 refine ple hE (.cl en161 (qAP.calls x0_.f0 x1_ _ _ _ hS.own.sub h7)) ?_
 rintro _ u5 a ⟨_,rfl,hC⟩ hE
 replace hS:=hS.lent hC
 refine plc hE (.r 4 1 .nil) (fun a hE=>pld (hK4 _ _ (wp_ret ?_)))
 replace hS:=hS.tail
 obtain rfl:=si H
 exact rt1 hE ⟨_,rfl,_,rfl,hS⟩
def qH.l7:Nat→List qB→Int→Int→Int→Option (Int × Bool)
 | 0,_,_,_,_=>none
 | k+1,x0_,x1_,x5,x6=>if x5<x6 then (if 0≤(w64 ((IntKind.u64.wrap (w64 (x5+x6))).fdiv 2))∧(w64 ((IntKind.u64.wrap (w64 (x5+x6))).fdiv 2))<(x0_.length:Int) then ((qBR.f (⟨(nth qB.z x0_ (w64 ((IntKind.u64.wrap (w64 (x5+x6))).fdiv 2))).f0,(nth qB.z x0_ (w64 ((IntKind.u64.wrap (w64 (x5+x6))).fdiv 2))).f1⟩:qB) x1_).bind fun t22=>(if t22<0 then (qH.l7 k x0_ x1_ (w64 ((w64 ((IntKind.u64.wrap (w64 (x5+x6))).fdiv 2))+1)) x6) else (qH.l7 k x0_ x1_ x5 (w64 ((IntKind.u64.wrap (w64 (x5+x6))).fdiv 2))))) else (none)) else (if x5<(x0_.length:Int) then (if 0≤x5∧x5<(x0_.length:Int) then ((qBR.f (⟨(nth qB.z x0_ x5).f0,(nth qB.z x0_ x5).f1⟩:qB) x1_).bind fun t33=>(some (x5,(t33 == 0)))) else (none)) else (some (x5,false)))
theorem qH.l7_s k x0_ x1_ x5 x6:type_of% (qH.l7.eq_2 x0_ x1_ x5 x6 k):=qH.l7.eq_2 x0_ x1_ x5 x6 k
def qH.f(k:Nat)(x0_:List qB)(x1_:Int):Option (Int × Bool):=qH.l7 k x0_ x1_ 0 (x0_.length:Int)
def qH.Post(W F:World)(r:Int × Bool)(v:Value)(w':World):Prop:=∃(F':World),v = .tuple #[iv r.1,.bool r.2]∧St W (mine W []) F w' F' []
theorem qH.calls(k:Nat)(x0_:List qB)(x1_:Int)(A0_0:Option Addr)(c0_0:Nat)(r:Int × Bool)(W F:World)(hown:Sub F W)(g0_0:Rd qB.k F A0_0 c0_0 x0_)(H:qH.f k x0_ x1_=some r):
    Calls Tryz.prog 254 #[.slice A0_0 x0_.length c0_0,iv x1_,.func (.func 255) #[] #[]] W fun e w'=>∃ v,e = .returned v∧qH.Post W F r v w':=by
 have hS:=St.start (Own.nil hown)
 unfold qH.f at H
 refine enter (n:=49) rfl rfl rfl (Nat.le_of_ble_eq_true rfl) (fun a hE=>?_)
 refine rr hE fun a hE=>(rr hE fun a hE=>(rr hE fun a hE=>(sq fun K4 hK4=>wp_block ?_)))
 refine wp_loop_ghost (fun kq8 a w'=>∃(G:Nat→Value)(x5:Int)(x6:Int),kq8≤k∧Env 49 G a∧At G [(0,.slice A0_0 x0_.length c0_0),(1,iv x1_),(2,.func (.func 255) #[] #[]),(8,iv (x0_.length:Int)),(9,iv x5),(10,iv x6)]∧St W (mine W []) F w' F []∧qH.l7 kq8 x0_ x1_ x5 x6=some r) k ⟨_,0,(x0_.length:Int),Nat.le_refl _,hE,.of,hS,H⟩ ?_
 rintro kq8 a u10 ⟨G,x5,x6,hkq,hE,hA,hS,H⟩
 obtain _ | k9:=kq8
 ·
  exact zz H
 rw [qH.l7_s]at H
 obtain ⟨J,hE⟩:=hE.at hA
 refine sq fun K11 hK11=>rr hE fun a hE=>?_
 refine hE.ik 17 H (fun c13 hE H=>?_) fun c13 hE H=>?_
 ·
  refine wp_skip (hK11 _ _ (wp_block (rr hE fun a hE=>(sq fun K15 hK15=>pl0 ?_))))
  obtain ⟨c16,H⟩:=gd H
  have hE_:=hE
  obtain ⟨ad17,rfl⟩:=g0_0.addr c16.1 c16.2
  replace hE:=hE_
  obtain ⟨cs19,rfl,hc20⟩:=g0_0.el qB.z (w64 ((IntKind.u64.wrap (w64 (x5+x6))).fdiv 2)) c16.1 c16.2
  refine plc hE (.r 0 3<|.x 3 c16<|.cs 4 (hS.fcs hc20)<|.r 5 1<|.nil) (fun a hE=>?_)
  obtain ⟨t22,h23,H⟩:=bd H
  refine ple hE (.cl en255 (qBR.calls (⟨(nth qB.z x0_ (w64 ((IntKind.u64.wrap (w64 (x5+x6))).fdiv 2))).f0,(nth qB.z x0_ (w64 ((IntKind.u64.wrap (w64 (x5+x6))).fdiv 2))).f1⟩:qB) x1_ _ _ _ hS.own.sub h23)) ?_
  rintro _ u21 a ⟨_,rfl,hC⟩ hE
  replace hS:=hS.lent hC
  refine plc hE (.r 7 1 .nil) (fun a hE=>pld (hK15 _ _ ?_))
  refine hE.ik 31 H (fun c24 hE H=>?_) fun c24 hE H=>?_
  ·
   refine pl0 (plc hE (.r 0 3 .nil) (fun a hE=>pld ?_))
   refine qCF ?_
   exact qCG ⟨k9,by omega,_,(w64 ((w64 ((IntKind.u64.wrap (w64 (x5+x6))).fdiv 2))+1)),x6,by omega,hE,.of,hS,H⟩
  refine pl0 (plc hE (.r 0 2 .nil) (fun a hE=>pld ?_))
  refine qCF ?_
  exact qCG ⟨k9,by omega,_,x5,(w64 ((IntKind.u64.wrap (w64 (x5+x6))).fdiv 2)),by omega,hE,.of,hS,H⟩
 refine wp_exit ?_
 refine hK4 _ _ (sq fun K25 hK25=>pl0 (plc hE (.r 0 5 .nil) (fun a hE=>?_)))
 rcases sp H with ⟨c26,H⟩ | ⟨c26,H⟩
 ·
  replace hE:=hE.kt 39 c26
  obtain ⟨c27,H⟩:=gd H
  have hE_:=hE
  obtain ⟨ad28,rfl⟩:=g0_0.addr c27.1 c27.2
  replace hE:=hE_
  obtain ⟨cs30,rfl,hc31⟩:=g0_0.el qB.z x5 c27.1 c27.2
  refine plc hE (.r 5 3<|.x 8 c27<|.cs 9 (hS.fcs hc31)<|.r 10 1<|.nil) (fun a hE=>?_)
  obtain ⟨t33,h34,H⟩:=bd H
  refine ple hE (.cl en255 (qBR.calls (⟨(nth qB.z x0_ x5).f0,(nth qB.z x0_ x5).f1⟩:qB) x1_ _ _ _ hS.own.sub h34)) ?_
  rintro _ u32 a ⟨_,rfl,hC⟩ hE
  replace hS:=hS.lent hC
  refine plc hE (.r 12 4 .nil) (fun a hE=>pld (hK25 _ _ (wp_ret ?_)))
  obtain rfl:=si H
  exact rtN hE ⟨_,rfl,_,rfl,hS⟩
 replace hE:=hE.kf 39 c26
 refine plc hE (.r 5 11 .nil) (fun a hE=>pld (hK25 _ _ (wp_ret ?_)))
 obtain rfl:=si H
 exact rtN hE ⟨_,rfl,_,rfl,hS⟩
def qt.f(x0_:List qB)(x1_:Int)(x2_:List qB):Option (List qB):=match x2_ with
 | [x]=>if 0≤x1_∧x1_≤(x0_.length:Int)∧x0_.length≤1000000 then some (x0_.take x1_.toNat++x :: x0_.drop x1_.toNat) else none
 | _=>none
def qt.Post(x0_:List qB)(x1_:Int)(x2_:List qB)(A0_0:Option Addr)(c0_0:Nat)(A2_0:Option Addr)(c2_0:Nat)(W F:World)(r:List qB)(v:Value)(w':World):Prop:=∃(F':World)(RA0_0:Option Addr)(rc0_0:Nat),v = .slice RA0_0 r.length rc0_0∧St W (mine W [row qB.k 216 (.slice A0_0 x0_.length c0_0) x0_,row qB.k 216 (.slice A2_0 x2_.length c2_0) x2_]) F w' F' [row qB.k 216 (.slice RA0_0 r.length rc0_0) r]
set_option maxHeartbeats 4000000 in
set_option maxRecDepth 100000 in
theorem qt.calls(x0_:List qB)(x1_:Int)(x2_:List qB)(A0_0:Option Addr)(c0_0:Nat)(A2_0:Option Addr)(c2_0:Nat)(r:List qB)(W F:World)(hown:Own W F [row qB.k 216 (.slice A0_0 x0_.length c0_0) x0_,row qB.k 216 (.slice A2_0 x2_.length c2_0) x2_])(H:qt.f x0_ x1_ x2_=some r):
  Calls Tryz.prog 256 #[.slice A0_0 x0_.length c0_0,iv x1_,.slice A2_0 x2_.length c2_0] W fun e w'=>∃ v,e = .returned v∧qt.Post x0_ x1_ x2_ A0_0 c0_0 A2_0 c2_0 W F r v w':=by
 have hS:=St.start hown
 unfold qt.f at H
 rcases x2_ with _ | ⟨x,_ | ⟨y,l⟩⟩
 ·cases H
 rotate_left
 ·cases H
 replace H:(if 0≤x1_∧x1_≤(x0_.length:Int)∧x0_.length≤1000000 then some (x0_.take x1_.toNat++x :: x0_.drop x1_.toNat) else none)=some r:=H
 by_cases hc:0≤x1_∧x1_≤(x0_.length:Int)∧x0_.length≤1000000
 rotate_left
 ·rw [if_neg hc]at H; cases H
 rw [if_pos hc]at H
 have hr:=Option.some.inj H
 clear H
 obtain ⟨h0,h1,hm⟩:=hc
 obtain ⟨j,rfl⟩:∃ j:Nat,x1_=j:=⟨x1_.toNat,by omega⟩
 simp only [Int.toNat_natCast]at hr
 refine enter (n:=95) rfl rfl rfl (Nat.le_of_ble_eq_true rfl) (fun a hE=>?_)
 obtain ⟨A12,c12,hA12,hv12⟩:=y_suf (P:=Tryz.prog) (k:=.i64) (hS.row_at (i:=0) rfl) ⟨h0,h1⟩
 refine sq fun K0 hK0=>?_
 refine pl0 ?_
 refine plc hE (.r 0 1 .nil) (fun a hE=>?_)
 refine pld ?_
 refine hK0 _ _ ?_
 refine sq fun K1 hK1=>?_
 refine pl0 ?_
 refine plc hE (.r 0 2<|.y 2 (hv12 (by kernel_rfl)) .nil) (fun a hE=>?_)
 refine pld ?_
 refine hK1 _ _ ?_
 refine sq fun K2 hK2=>?_
 refine pl0 ?_
 refine plc hE (.r 0 3 .nil) (fun a hE=>?_)
 refine pld ?_
 refine hK2 _ _ ?_
 refine sq fun K3 hK3=>?_
 refine sq fun K4 hK4=>?_
 refine pl0 ?_
 refine plc hE (.r 0 2 .nil) (fun a hE=>?_)
 refine pld ?_
 refine hK4 _ _ ?_
 refine cf hE ?_
 refine wp_skip ?_
 refine hK3 _ _ ?_
 refine sq fun K5 hK5=>?_
 refine pl0 ?_
 refine plc hE (.r 0 3 .nil) (fun a hE=>?_)
 refine pld ?_
 refine hK5 _ _ ?_
 refine sq fun K6 hK6=>?_
 refine sq fun K7 hK7=>?_
 refine pl0 ?_
 refine plc hE (.r 0 3 .nil) (fun a hE=>?_)
 refine pld ?_
 refine hK7 _ _ ?_
 by_cases hi:(j:Int)=(x0_.length:Int)
 ·replace hE:=hE.kt 22 hi
  refine ct hE ?_
  obtain rfl:j=x0_.length:=by omega
  obtain rfl:x0_++[x]=r:=by rw [← hr]; simp
  refine sq fun K8 hK8=>?_
  refine pl0 ?_
  refine plc hE (.r 0 2 .nil) (fun a hE=>?_)
  refine ple hE (.ap (d:=qB.k) 16 hS (qCO (hS.row_at (i:=1) rfl)) (by simp only [List.length_cons,List.length_nil]; omega) c2_0) ?_
  rintro _ w1 a ⟨A1,c1,rfl,hS,hz⟩ hE
  refine plc hE (.r 3 1 .nil) (fun a hE=>?_)
  refine pld ?_
  refine hK8 _ _ ?_
  refine wp_ret (qCD ?_)
  replace hS:=hS.front 1 rfl
  replace hS:=hS.tail
  exact rt1 hE ⟨_,rfl,F,_,_,rfl,hS⟩
 replace hE:=hE.kf 22 hi
 refine cf hE ?_
 refine wp_skip ?_
 refine hK6 _ _ ?_
 have hlt:j<x0_.length:=by omega
 have hxc:x0_.length≤c0_0∧c0_0≤maxLen:=by
  obtain ⟨_,q1,q2,_⟩:=qCH (hS.row_at (i:=0) rfl)
  exact ⟨q1,q2⟩
 have hxc2:[x].length≤c2_0:=(qCH (hS.row_at (i:=1) rfl)).2.1
 have hE_:=hE
 obtain ⟨g,cur,rfl,hsz,hrep,hS⟩:=hS.unrow (by omega)
 replace hS:=hS.front 1 rfl
 obtain ⟨g2,cur2,rfl,hsz2,hrep2,hS⟩:=hS.unrow (by simp)
 replace hE:=hE_
 have hne:g2≠g:=hS.ne (i:=0) (j:=1) rfl rfl (by decide)
 obtain ⟨cs,hcs⟩:∃ cs,cs=cur2.toList.take 2:=⟨_,rfl⟩
 have hx:(qB.k).K F x cs:=by
  have h5:=hrep2.2 0 x rfl
  rw [Nat.zero_mul,List.drop_zero,List.take_take]at h5
  rw [hcs]
  exact h5
 have hcl:cs.length=2:=(qB.k).len hx
 have hcget:∀ q u,cs[q]? = some u→cur2[q]? = some u:=fun q u hq=>by
  rw [hcs,List.getElem?_take]at hq
  split at hq
  ·rwa [Array.getElem?_toList]at hq
  ·cases hq
 have hcone:∀ u ∈ cs,u.oneCell'=true:=(qB.k).one hx
 obtain ⟨inner,hin⟩:∃ inner,inner=cur.toList.take (x0_.length * 2):=⟨_,rfl⟩
 replace hrep:RepsK qB.k F x0_ inner:=by rw [hin]; exact hrep
 have hil:inner.length=x0_.length * 2:=hrep.1
 have hione:∀ u ∈ inner.drop (j * 2),u.oneCell'=true:=fun u hu=>hrep.one u (List.mem_of_mem_drop hu)
 have hidl:(inner.drop (j * 2)).length=(x0_.length - j) * 2:=by rw [List.length_drop,hil,Nat.sub_mul]
 have higet:∀ q u,(inner.drop (j * 2))[q]? = some u→cur[j * 2+q]? = some u:=fun q u hq=>by
  rw [List.getElem?_drop,hin,List.getElem?_take]at hq
  split at hq
  ·rwa [Array.getElem?_toList]at hq
  ·cases hq
 replace hsz:cur.size=c0_0 * 2:=hsz
 have hw1:w64 ((x0_.length:Int)+(([x].length:Nat):Int))=((x0_.length+1:Nat):Int):=by
  simp only [List.length_cons,List.length_nil]
  rw [qCN (by omega) (by omega)]
  omega
 have hw2:w64 ((j:Int)+(([x].length:Nat):Int))=((j+1:Nat):Int):=by
  simp only [List.length_cons,List.length_nil]
  rw [qCN (by omega) (by omega)]
  omega
 refine sq fun K9 hK9=>?_
 refine sq fun K10 hK10=>?_
 refine pl0 ?_
 refine plc hE (.r 0 4<|.y 4 (y_cap (A:=some ⟨g,0,none⟩) (n:=x0_.length) (c:=c0_0))<|.r 5 1 .nil) (fun a hE=>?_)
 refine pld ?_
 refine hK10 _ _ ?_
 by_cases hroom:w64 ((x0_.length:Int)+(([x].length:Nat):Int))>(c0_0:Int)
 ·replace hE:=hE.kt 31 hroom
  rw [hw1]at hroom
  refine ct hE ?_
  have hw3:w64 (w64 ((x0_.length:Int)+(([x].length:Nat):Int)) - (j:Int))=((x0_.length+1 - j:Nat):Int):=by
   rw [hw1,qCN (by omega) (by omega)]
   omega
  refine sq fun K11 hK11=>?_
  refine pl0 ?_
  refine plc hE (.r 0 2<|.y 2 (y_hi (e:=216) (z:=2) (g:=g) (n:=x0_.length) (c:=c0_0) (k:=.i64) (hi:=(j:Int)) ⟨by omega,by omega⟩)<|.r 3 5 .nil) (fun a hE=>?_)
  refine ple hE (.gro (e:=216) (g:=g) (c:=c0_0) (j:=j) (z:=2) (bytes:=16) (k:=w64 (w64 ((x0_.length:Int)+(([x].length:Nat):Int)) - (j:Int))) hS (hS.ba 1) (by omega) (by omega) (by rw [hsz]; exact Nat.mul_le_mul_right _ (by omega)) (by rw [hw3]; omega) (by kernel_rfl)) ?_
  rintro _ w1 a ⟨b,arr,cc,rfl,has,hc1,hc2,hpre,hS,hag⟩ hE
  rw [hw3]at hc1 hE
  have hnb:g2≠b:=hS.ne (i:=1) (j:=0) rfl rfl (by decide)
  have hgb:g≠b:=hS.ne (i:=2) (j:=0) rfl rfl (by decide)
  have hk3:j+((x0_.length+1 - j:Nat):Int).toNat=x0_.length+1:=by rw [Int.toNat_natCast]; omega
  rw [hk3]at hc1 hE
  have hpi:arr.toList.take (j * 2)=inner.take (j * 2):=by
   rw [hpre,hin,List.take_take,Nat.min_eq_left (Nat.mul_le_mul_right _ (by omega))]
  obtain ⟨s1,s2,s3⟩:=qDk (sz:=2) (n:=x0_.length) (i:=j) (cap:=cc) (c0:=arr.toList) (inner:=inner) (cs:=cs) hpi hil hcl (by omega) hc1 (by rw [Array.length_toList]; exact has)
  obtain ⟨C1,hC1⟩:∃ C1,C1=arr.toList.take (j * 2)++cs++arr.toList.drop (j * 2+cs.length):=⟨_,rfl⟩
  rw [← hC1]at s1 s2 s3
  obtain ⟨C2,hC2⟩:∃ C2,C2=C1.take ((j+1) * 2)++inner.drop (j * 2)++C1.drop ((j+1) * 2+(inner.drop (j * 2)).length):=⟨_,rfl⟩
  rw [← hC2]at s1 s2
  refine plc hE (.r 9 1 .nil) (fun a hE=>?_)
  refine pld ?_
  refine hK11 _ _ ?_
  refine sq fun K12 hK12=>?_
  refine pl0 ?_
  refine plc hE (.r 0 2<|.y 2 (y_lo (e:=216) (z:=2) (g:=b) (n:=x0_.length+1) (c:=cc) (k:=.i64) (lo:=(j:Int)) ⟨by omega,by omega⟩ (by omega))<|.r 3 1 .nil) (fun a hE=>?_)
  have hb2:=hS.ba 1
  have hbg:=hS.ba 2
  have hmin1:Nat.min [x].length (x0_.length+1 - (j:Int).toNat)=1:=by
   rw [Int.toNat_natCast]
   simp only [List.length_cons,List.length_nil]
   exact Nat.min_eq_left (by omega)
  refine ple hE (.cpy (e:=216) (z:=2) (off:=(j:Int).toNat * 2) (dn:=x0_.length+1 - (j:Int).toNat) (dc:=cc - (j:Int).toNat) (sn:=[x].length) (sc:=c2_0) (sa:=⟨g2,0,none⟩) hS cs (by rw [hmin1,hcl]) (fun q u hq=>by rw [qCT,Nat.zero_add]; exact qCP hb2 (hcget q u hq)) hcone (by
   rw [Int.toNat_natCast,has,hcl]
   have:=Nat.mul_le_mul_right 2 (show j+1≤cc by omega)
   omega) (by kernel_rfl)) ?_
  rintro _ w2 a ⟨rfl,hS,hz,hnew,hoth⟩ hE
  simp only [Int.toNat_natCast]at hS hnew
  rw [← hC1]at hS hnew
  refine pld ?_
  refine hK12 _ _ ?_
  refine sq fun K13 hK13=>?_
  refine drawn 9 ⟨[8],[],fun q=>False⟩ mixed rfl (by kernel_rfl) (fun hst=>?_)
  replace hS:=hS.drew
  have hbg2:=hS.ba 2
  refine mny 1 hst hE (.r 0 4<|.y 4 (y_lo (e:=216) (z:=2) (g:=b) (n:=x0_.length+1) (c:=cc) (k:=.i64) (lo:=w64 ((j:Int)+(([x].length:Nat):Int))) ⟨by omega,by omega⟩ (by omega))<|.r 5 2<|.y 7 (y_lo (e:=216) (z:=2) (g:=g) (n:=x0_.length) (c:=c0_0) (k:=.i64) (lo:=(j:Int)) ⟨by omega,by omega⟩ (by omega)) .nil) (fun a hE=>?_)
  refine on1 8 hE (.cpy (e:=216) (z:=2) (off:=(w64 ((j:Int)+(([x].length:Nat):Int))).toNat * 2) (dn:=x0_.length+1 - (w64 ((j:Int)+(([x].length:Nat):Int))).toNat) (dc:=cc - (w64 ((j:Int)+(([x].length:Nat):Int))).toNat) (sn:=x0_.length - (j:Int).toNat) (sc:=c0_0 - (j:Int).toNat) (sa:=⟨g,(j:Int).toNat * 2,none⟩) hS (inner.drop (j * 2)) (by
   rw [hw2,Int.toNat_natCast,Int.toNat_natCast,hidl,show x0_.length+1 - (j+1)=x0_.length - j by omega]
   congr 1
   exact (Nat.min_self _).symm) (fun q u hq=>by rw [qCT,Int.toNat_natCast]; exact qCP hbg2 (higet q u hq)) hione (by
   rw [hw2,Int.toNat_natCast,hidl,List.size_toArray,s3,← Nat.add_mul]
   exact Nat.mul_le_mul_right _ (by omega)) (by kernel_rfl)) ?_
  rintro _ w3 a ⟨rfl,hS,hz,hnew,hoth⟩ hE
  refine ⟨.d,?_⟩
  refine dn ?_
  rw [hw2,Int.toNat_natCast]at hS
  simp only [List.toList_toArray]at hS
  rw [← hC2]at hS
  refine hK13 _ _ ?_
  refine sq fun K14 hK14=>?_
  refine pl0 ?_
  refine plc hE (.r 0 2 .nil) (fun a hE=>?_)
  refine pld ?_
  refine hK14 _ _ ?_
  refine wp_ret (qCD ?_)
  have hrl:r.length=x0_.length+1:=by rw [← hr]; simp; omega
  have hrr:RepsK qB.k F r (C2.toArray.toList.take (r.length * (qB.k).sz)):=by
   rw [hrl]
   show RepsK qB.k F r (C2.take ((x0_.length+1) * 2))
   rw [s1,← hr]
   exact qCh hrep hx (by omega) rfl
  have hS2:=hS.rerow (c:=cc) r (show C2.toArray.size=cc * 2 by simpa using s2) (by omega) hc2 hrr
  replace hS2:=hS2.front 1 rfl
  replace hS2:=hS2.tail
  replace hS2:=hS2.front 1 rfl
  replace hS2:=hS2.tail
  rw [← hrl]at hE
  exact rt1 hE ⟨_,rfl,F,_,_,rfl,hS2⟩
 replace hE:=hE.kf 31 hroom
 rw [hw1]at hroom
 have hrm:x0_.length+1≤c0_0:=by omega
 refine cf hE ?_
 refine wp_skip ?_
 refine hK9 _ _ ?_
 obtain ⟨s1,s2,s3⟩:=qEK (sz:=2) (n:=x0_.length) (i:=j) (cap:=c0_0) (cur:=cur.toList) (inner:=inner) (cs:=cs) hin.symm hcl (by omega) hrm (by rw [Array.length_toList]; exact hsz)
 obtain ⟨C1,hC1⟩:∃ C1,C1=cur.toList.take ((j+1) * 2)++inner.drop (j * 2)++cur.toList.drop ((j+1) * 2+(inner.drop (j * 2)).length):=⟨_,rfl⟩
 rw [← hC1]at s1 s2 s3
 obtain ⟨C2,hC2⟩:∃ C2,C2=C1.take (j * 2)++cs++C1.drop (j * 2+cs.length):=⟨_,rfl⟩
 rw [← hC2]at s1 s2
 refine sq fun K15 hK15=>?_
 refine pl0 ?_
 refine plc hE (.r 0 4<|.y 4 (y_hi (e:=216) (z:=2) (g:=g) (n:=x0_.length) (c:=c0_0) (k:=.i64) (hi:=w64 ((x0_.length:Int)+(([x].length:Nat):Int))) ⟨by omega,by omega⟩)<|.r 5 1 .nil) (fun a hE=>?_)
 refine pld ?_
 refine hK15 _ _ ?_
 have hn1:(w64 ((x0_.length:Int)+(([x].length:Nat):Int))).toNat=x0_.length+1:=by rw [hw1,Int.toNat_natCast]
 rw [hn1]at hE
 refine sq fun K16 hK16=>?_
 refine sq fun K17 hK17=>?_
 refine pl0 ?_
 refine plc hE (.r 0 5<|.y 5 (y_lo (e:=216) (z:=2) (g:=g) (n:=x0_.length+1) (c:=c0_0) (k:=.i64) (lo:=w64 ((j:Int)+(([x].length:Nat):Int))) ⟨by omega,by omega⟩ (by omega)) .nil) (fun a hE=>?_)
 have hb2:=hS.ba 0
 have hbg:=hS.ba 1
 have hcz:cur.size≠0:=by rw [hsz]; exact Nat.mul_ne_zero (by omega) (by decide)
 refine ple hE (.ext (f:=261) (args:=[.slice (pb g2) [x].length c2_0,.slice (some ⟨g,(w64 ((j:Int)+(([x].length:Nat):Int))).toNat * 2,none⟩) (x0_.length+1 - (w64 ((j:Int)+(([x].length:Nat):Int))).toNat) (c0_0 - (w64 ((j:Int)+(([x].length:Nat):Int))).toNat)]) (v:=.bool false) (R:=fun v w'=>v = .bool false∧w'=_) (by
  rw [run_callFunc_extern Tryz.func261 (by kernel_rfl) (by kernel_rfl) (by kernel_rfl) (e:=Extern.SlicesOverlaps.overlaps #[177,177] #[4]) (by kernel_rfl)]
  refine (congrArg (fun r:Result Value=>r.andThen fun v w'=>Result.ok (Next.value v) w') (Lib.run_overlaps_apart _ 177 4 216 Tryz.underlying177 2 (fun _=>by kernel_rfl) ⟨g2,0,none⟩ ⟨g,(w64 ((j:Int)+(([x].length:Nat):Int))).toNat * 2,none⟩ [x].length c2_0 _ _ hne 216 216 cur2.size cur.size (by simp [World.shape?,hb2]) (by simp [World.shape?,hbg]) hcz (by simp [World.frozen?,hb2]) (by simp [World.frozen?,hb2]))).trans rfl) ⟨rfl,rfl⟩) ?_
 rintro _ _ a ⟨rfl,rfl⟩ hE
 refine plc hE (.r 7 1 .nil) (fun a hE=>?_)
 refine pld ?_
 refine hK17 _ _ ?_
 refine ct hE ?_
 refine sq fun K18 hK18=>?_
 refine drawn 9 ⟨[8],[],fun q=>False⟩ mixed rfl (by kernel_rfl) (fun hst=>?_)
 replace hS:=hS.drew
 replace hS:=hS.front 1 rfl
 have hbg2:=hS.ba 0
 refine mny 1 hst hE (.r 0 4<|.y 4 (y_lo (e:=216) (z:=2) (g:=g) (n:=x0_.length+1) (c:=c0_0) (k:=.i64) (lo:=w64 ((j:Int)+(([x].length:Nat):Int))) ⟨by omega,by omega⟩ (by omega))<|.r 5 2<|.y 7 (y_lo (e:=216) (z:=2) (g:=g) (n:=x0_.length+1) (c:=c0_0) (k:=.i64) (lo:=(j:Int)) ⟨by omega,by omega⟩ (by omega)) .nil) (fun a hE=>?_)
 refine on1 8 hE (.cpy (e:=216) (z:=2) (off:=(w64 ((j:Int)+(([x].length:Nat):Int))).toNat * 2) (dn:=x0_.length+1 - (w64 ((j:Int)+(([x].length:Nat):Int))).toNat) (dc:=c0_0 - (w64 ((j:Int)+(([x].length:Nat):Int))).toNat) (sn:=x0_.length+1 - (j:Int).toNat) (sc:=c0_0 - (j:Int).toNat) (sa:=⟨g,(j:Int).toNat * 2,none⟩) hS (inner.drop (j * 2)) (by
  rw [hw2,Int.toNat_natCast,Int.toNat_natCast,hidl,show x0_.length+1 - (j+1)=x0_.length - j by omega]
  congr 1
  exact (Nat.min_eq_right (by omega)).symm) (fun q u hq=>by rw [qCT,Int.toNat_natCast]; exact qCP hbg2 (higet q u hq)) hione (by
  rw [hw2,Int.toNat_natCast,hidl,hsz,← Nat.add_mul]
  exact Nat.mul_le_mul_right _ (by omega)) (by kernel_rfl)) ?_
 rintro _ w2 a ⟨rfl,hS,hz,hnew,hoth⟩ hE
 refine ⟨.d,?_⟩
 refine dn ?_
 rw [hw2,Int.toNat_natCast,← hC1]at hS
 refine hK18 _ _ ?_
 refine sq fun K19 hK19=>?_
 refine pl0 ?_
 have hb3:=hS.ba 1
 refine plc hE (.r 0 2<|.y 2 (y_lo (e:=216) (z:=2) (g:=g) (n:=x0_.length+1) (c:=c0_0) (k:=.i64) (lo:=(j:Int)) ⟨by omega,by omega⟩ (by omega))<|.r 3 1 .nil) (fun a hE=>?_)
 have hmin1:Nat.min [x].length (x0_.length+1 - (j:Int).toNat)=1:=by
  rw [Int.toNat_natCast]
  simp only [List.length_cons,List.length_nil]
  exact Nat.min_eq_left (by omega)
 refine ple hE (.cpy (e:=216) (z:=2) (off:=(j:Int).toNat * 2) (dn:=x0_.length+1 - (j:Int).toNat) (dc:=c0_0 - (j:Int).toNat) (sn:=[x].length) (sc:=c2_0) (sa:=⟨g2,0,none⟩) hS cs (by rw [hmin1,hcl]) (fun q u hq=>by rw [qCT,Nat.zero_add]; exact qCP hb3 (hcget q u hq)) hcone (by
  rw [Int.toNat_natCast,List.size_toArray,s3,hcl]
  have:=Nat.mul_le_mul_right 2 (show j+1≤c0_0 by omega)
  omega) (by kernel_rfl)) ?_
 rintro _ w3 a ⟨rfl,hS,hz,hnew,hoth⟩ hE
 simp only [Int.toNat_natCast,List.toList_toArray]at hS
 rw [← hC2]at hS
 refine pld ?_
 refine hK19 _ _ ?_
 refine sq fun K20 hK20=>?_
 refine pl0 ?_
 refine plc hE (.r 0 2 .nil) (fun a hE=>?_)
 refine pld ?_
 refine hK20 _ _ ?_
 refine wp_ret (qCD ?_)
 have hrl:r.length=x0_.length+1:=by rw [← hr]; simp; omega
 have hrr:RepsK qB.k F r (C2.toArray.toList.take (r.length * (qB.k).sz)):=by
  rw [hrl]
  show RepsK qB.k F r (C2.take ((x0_.length+1) * 2))
  rw [s1,← hr]
  exact qCh hrep hx (by omega) rfl
 have hS2:=hS.rerow (c:=c0_0) r (show C2.toArray.size=c0_0 * 2 by simpa using s2) (by omega) hxc.2 hrr
 replace hS2:=hS2.front 1 rfl
 replace hS2:=hS2.tail
 rw [← hrl]at hE
 exact rt1 hE ⟨_,rfl,F,_,_,rfl,hS2⟩
mutual
def qS.l19:Nat→List qA→List qB→Int→Option (List qB)
 | 0,_,_,_=>none
 | k+1,x0_,l16,x17=>if x17<(x0_.length:Int) then (if 0≤x17∧x17<(x0_.length:Int) then ((qBe.f (⟨(nth qA.z x0_ x17).f0,(nth qA.z x0_ x17).f1,(nth qA.z x0_ x17).f2,(nth qA.z x0_ x17).f3,(nth qA.z x0_ x17).f4,(nth qA.z x0_ x17).f5⟩:qA)).bind fun t39=>(if t39=true then ((qBU.f (⟨(nth qA.z x0_ x17).f0,(nth qA.z x0_ x17).f1,(nth qA.z x0_ x17).f2,(nth qA.z x0_ x17).f3,(nth qA.z x0_ x17).f4,(nth qA.z x0_ x17).f5⟩:qA)).bind fun t44=>((qH.f k l16 t44).bind fun t47=>(if t47.2=true then (qS.j72 k x0_ x17 t47 l16) else ((qBU.f (⟨(nth qA.z x0_ x17).f0,(nth qA.z x0_ x17).f1,(nth qA.z x0_ x17).f2,(nth qA.z x0_ x17).f3,(nth qA.z x0_ x17).f4,(nth qA.z x0_ x17).f5⟩:qA)).bind fun t53=>((qt.f l16 t47.1 [(⟨t53,0⟩:qB)]).bind fun t60=>(qS.j72 k x0_ x17 t47 t60)))))) else (qS.l19 k x0_ l16 (w64 (x17+1))))) else (none)) else (some l16)
def qS.j72:Nat→List qA→Int→Int × Bool→List qB→Option (List qB)
 | 0,_,_,_,_=>none
 | k+1,x0_,x17,t47,l70=>if ((nth qA.z x0_ x17).f5)=true then (if 0≤t47.1∧t47.1<(l70.length:Int) then (qS.l19 k x0_ (l70.set (t47.1).toNat (⟨(nth qB.z l70 t47.1).f0,(if (w64 ((nth qB.z l70 t47.1).f1+(nth qA.z x0_ x17).f3))<65536 then (w64 ((nth qB.z l70 t47.1).f1+(nth qA.z x0_ x17).f3)) else 65536)⟩:qB)) (w64 (x17+1))) else (none)) else (qS.l19 k x0_ l70 (w64 (x17+1)))
end
theorem qS.l19_s k x0_ l16 x17:type_of% (qS.l19.eq_2 x0_ l16 x17 k):=qS.l19.eq_2 x0_ l16 x17 k
theorem qS.j72_s k x0_ x17 t47 l70:type_of% (qS.j72.eq_2 x0_ x17 t47 l70 k):=qS.j72.eq_2 x0_ x17 t47 l70 k
def qS.f(k:Nat)(x0_:List qA):Option (List qB):=(qAM.f k x0_).bind fun t6=>(if t6=0 then (qS.l19 k x0_ [] 0) else (some []))
def qS.Post(W F:World)(r:List qB)(v:Value)(w':World):Prop:=∃(F':World)(RA0_0:Option Addr)(rc0_0:Nat),v = .slice RA0_0 r.length rc0_0∧St W (mine W []) F w' F' [row qB.k 216 (.slice RA0_0 r.length rc0_0) r]
theorem qS.calls(k:Nat)(x0_:List qA)(A0_0:Option Addr)(c0_0:Nat)(r:List qB)(W F:World)(hown:Sub F W)(g0_0:Rd qA.k F A0_0 c0_0 x0_)(H:qS.f k x0_=some r):
    Calls Tryz.prog 236 #[.slice A0_0 x0_.length c0_0,.func (.func 237) #[] #[],.func (.func 238) #[] #[]] W fun e w'=>∃ v,e = .returned v∧qS.Post W F r v w':=by
 have hS:=St.start (Own.nil hown)
 unfold qS.f at H
 refine enter (n:=60) rfl rfl rfl (Nat.le_of_ble_eq_true rfl) (fun a hE=>?_)
 refine rr hE fun a hE=>(rr hE fun a hE=>(sq fun K3 hK3=>sq fun K4 hK4=>pl0 (plc hE (.r 0 1 .nil) (fun a hE=>?_))))
 obtain ⟨t6,h7,H⟩:=bd H
 refine ple hE (.cl en80 (qAM.calls k x0_ _ _ _ _ _ hS.own.sub g0_0 h7)) ?_
 rintro _ u5 a ⟨_,rfl,hC⟩ hE
 replace hS:=hS.lent hC
 refine plc hE (.r 2 1 .nil) (fun a hE=>pld (hK4 _ _ ?_))
 refine hE.ikn 14 H (fun c8 hE H=>?_) fun c8 hE H=>?_
 ·
  refine wp_skip (hK3 _ _ (sq fun K11 hK11=>rr hE fun a hE=>(wp_block ?_)))
  replace hS:=hS.nilrow qB.k 216
  refine wp_loop_ghost (fun kq20 a w'=>∃(G:Nat→Value)(A14:Option Addr)(c15:Nat)(l16:List qB)(x17:Int)(F18:World),kq20≤k∧Env 60 G a∧At G [(1,.func (.func 237) #[] #[]),(2,.func (.func 238) #[] #[]),(7,.slice A14 l16.length c15),(15,.slice A0_0 x0_.length c0_0),(16,iv (x0_.length:Int)),(17,iv x17)]∧St W (mine W []) F w' F18 [row qB.k 216 (.slice A14 l16.length c15) l16]∧Rd qA.k F18 A0_0 c0_0 x0_∧qS.l19 kq20 x0_ l16 x17=some r) k ⟨_,none,0,[],0,F,Nat.le_refl _,hE,.of,hS,g0_0,H⟩ ?_
  rintro kq20 a u22 ⟨G,A14,c15,l16,x17,F18,hkq,hE,hA,hS,g0_0,H⟩
  obtain _ | k21:=kq20
  ·
   exact zz H
  rw [qS.l19_s]at H
  obtain ⟨J,hE⟩:=hE.at hA
  refine rr hE fun a hE=>(sq fun K24 hK24=>?_)
  refine hE.ik 18 H (fun c25 hE H=>?_) fun c25 hE H=>?_
  ·
   refine wp_skip (hK24 _ _ (sq fun K26 hK26=>wp_block (sq fun K27 hK27=>pl0 ?_)))
   obtain ⟨c28,H⟩:=gd H
   have hE_:=hE
   obtain ⟨ad29,rfl⟩:=g0_0.addr c28.1 c28.2
   replace hE:=hE_
   obtain ⟨cs31,rfl,hc32⟩:=g0_0.el qA.z x17 c28.1 c28.2
   refine plc hE (.x 0 c28<|.cs 1 (hS.fcs hc32)<|.nil) (fun a hE=>ple hE (.al (t:=104) hS [iv 0,iv 0,iv 0,iv 0,.bool false,.bool false]) ?_)
   rintro _ u34 a ⟨b33,rfl,hb33,hS,hg⟩ hE
   refine ple hE (.sto hS [iv ((nth qA.z x0_ x17).f0),iv ((nth qA.z x0_ x17).f1),iv ((nth qA.z x0_ x17).f2),iv ((nth qA.z x0_ x17).f3),.bool ((nth qA.z x0_ x17).f4),.bool ((nth qA.z x0_ x17).f5)]) ?_
   rintro _ u35 a ⟨rfl,hb33,hS,hz⟩ hE
   refine pld (hK27 _ _ (sq fun K36 hK36=>sq fun K37 hK37=>pl0 (plc hE (.r 0 1<|.bn 1 0 6 hb33<|.nil) (fun a hE=>?_))))
   obtain ⟨t39,h40,H⟩:=bd H
   refine ple hE (.cl en237 (qBe.calls (⟨(nth qA.z x0_ x17).f0,(nth qA.z x0_ x17).f1,(nth qA.z x0_ x17).f2,(nth qA.z x0_ x17).f3,(nth qA.z x0_ x17).f4,(nth qA.z x0_ x17).f5⟩:qA) _ _ _ hS.own.sub h40)) ?_
   rintro _ u38 a ⟨_,rfl,hC⟩ hE
   replace hS:=hS.lent hC
   refine plc hE (.r 3 1 .nil) (fun a hE=>pld (hK37 _ _ ?_))
   refine hE.ibn 24 H (fun c41 hE H=>?_) fun c41 hE H=>?_
   ·
    refine wp_skip (hK36 _ _ (sq fun K42 hK42=>pl0 ?_))
    have hb33:=hS.ba 0
    refine plc hE (.r 0 2<|.bn 2 0 6 hb33<|.nil) (fun a hE=>?_)
    obtain ⟨t44,h45,H⟩:=bd H
    refine ple hE (.cl en238 (qBU.calls (⟨(nth qA.z x0_ x17).f0,(nth qA.z x0_ x17).f1,(nth qA.z x0_ x17).f2,(nth qA.z x0_ x17).f3,(nth qA.z x0_ x17).f4,(nth qA.z x0_ x17).f5⟩:qA) _ _ _ hS.own.sub h45)) ?_
    rintro _ u43 a ⟨_,rfl,hC⟩ hE
    replace hS:=hS.lent hC
    obtain ⟨t47,h48,H⟩:=bd H
    refine ple hE (.cl en254 (qH.calls k21 l16 t44 _ _ _ _ _ (Sub.refl _) (hS.rd_at (i:=1) rfl) h48)) ?_
    rintro _ u46 a ⟨_,rfl,hC⟩ hE
    replace hS:=hS.lent hC
    refine plc hE (.r 5 5 .nil) (fun a hE=>pld (hK42 _ _ (sq fun K49 hK49=>?_)))
    have J75:∀ kq73,kq73≤k21→∀(G:Nat→Value)(A68:Option Addr)(c69:Nat)(l70:List qB)(F71:World)(a:Act)(w':World),Env 60 G a→At G [(1,.func (.func 237) #[] #[]),(2,.func (.func 238) #[] #[]),(7,.slice A68 l70.length c69),(9,.pointer (pb b33)),(10,iv t47.1),(15,.slice (some ad29) x0_.length c0_0),(16,iv (x0_.length:Int)),(17,iv x17)]→St W (mine W []) F w' F71 [box b33 #[iv ((nth qA.z x0_ x17).f0),iv ((nth qA.z x0_ x17).f1),iv ((nth qA.z x0_ x17).f2),iv ((nth qA.z x0_ x17).f3),.bool ((nth qA.z x0_ x17).f4),.bool ((nth qA.z x0_ x17).f5)] 104,row qB.k 216 (.slice A68 l70.length c69) l70]→Rd qA.k F71 (some ad29) c0_0 x0_→qS.j72 kq73 x0_ x17 t47 l70=some r→K49 a w':=by
     intro kq73 hkq G A68 c69 l70 F71 a u76 hE hA hS g0_0 H
     obtain _ | k74:=kq73
     ·
      exact zz H
     rw [qS.j72_s]at H
     obtain ⟨J,hE⟩:=hE.at hA
     refine hK49 _ _ (sq fun K77 hK77=>pl0 ?_)
     have hb33:=hS.ba 0
     refine plc hE (.r 0 1<|.b 1 5 hb33<|.nil) (fun a hE=>pld (hK77 _ _ ?_))
     refine hE.ib 44 H (fun c78 hE H=>?_) fun c78 hE H=>?_
     ·
      refine drawn 14 ⟨[13],[],fun q=>False⟩ mixed rfl (by kernel_rfl) (fun hst=>?_)
      replace hS:=hS.drew
      obtain ⟨c79,H⟩:=gd H
      have hr80:=hS.ra 1
      have hE_:=hE
      obtain ⟨b81,rfl⟩:=qCK hr80 c79.1 c79.2
      replace hE:=hE_
      have hr_:=hS.ra 1
      obtain ⟨cs83,rfl,hc84⟩:=qCI hr_ qB.z t47.1 c79.1 c79.2
      have hb33:=hS.ba 0
      have hr85:=hS.ra 1
      refine mny 1 hst hE (.r 0 4<|.x 4 c79<|.r 5 1<|.c 6 (hc84 1 _ rfl)<|.r 7 1<|.b 8 3 hb33<|.r 9 2<|.x 11 c79<|.r 12 1<|.nil) (fun a hE=>?_)
      replace hS:=hS.front 1 rfl
      obtain ⟨cs90,rfl,hc91⟩:=qCI (hS.row_at (i:=0) rfl) qB.z t47.1 c79.1 c79.2
      refine on1 13 hE (.set (d:=qB.k) (n:=l70.length) (i:=t47.1) (⟨(nth qB.z l70 t47.1).f0,(if (w64 ((nth qB.z l70 t47.1).f1+(nth qA.z x0_ x17).f3))<65536 then (w64 ((nth qB.z l70 t47.1).f1+(nth qA.z x0_ x17).f3)) else 65536)⟩:qB) 1 (ea1 _ _ _) hS c79 [iv ((nth qB.z l70 t47.1).f0),iv ((nth qB.z l70 t47.1).f1)] hc91 [iv ((nth qB.z l70 t47.1).f0),iv (if (w64 ((nth qB.z l70 t47.1).f1+(nth qA.z x0_ x17).f3))<65536 then (w64 ((nth qB.z l70 t47.1).f1+(nth qA.z x0_ x17).f3)) else 65536)] rfl) ?_
      rintro _ u89 a ⟨rfl,hS,hz⟩ hE
      refine ⟨.d,?_⟩
      refine dn ?_
      refine qCF ?_
      refine hK26 _ _ (pl0 (plc hE (.r 0 2 .nil) (fun a hE=>pld ?_)))
      have hn92:=(qCH (hS.row_at (i:=0) rfl)).1
      replace hE:=hE.set (d:=7) (v:=.slice (pb b81) ((l70.set (t47.1).toNat (⟨(nth qB.z l70 t47.1).f0,(if (w64 ((nth qB.z l70 t47.1).f1+(nth qA.z x0_ x17).f3))<65536 then (w64 ((nth qB.z l70 t47.1).f1+(nth qA.z x0_ x17).f3)) else 65536)⟩:qB)).length) c69) (Eq.trans (b:=.slice (pb b81) l70.length c69) (by kernel_rfl) (by rw [← hn92]))
      replace hS:St W (mine W []) F u89 F71 [row qB.k 216 (.slice (pb b81) ((l70.set (t47.1).toNat (⟨(nth qB.z l70 t47.1).f0,(if (w64 ((nth qB.z l70 t47.1).f1+(nth qA.z x0_ x17).f3))<65536 then (w64 ((nth qB.z l70 t47.1).f1+(nth qA.z x0_ x17).f3)) else 65536)⟩:qB)).length) c69) (l70.set (t47.1).toNat (⟨(nth qB.z l70 t47.1).f0,(if (w64 ((nth qB.z l70 t47.1).f1+(nth qA.z x0_ x17).f3))<65536 then (w64 ((nth qB.z l70 t47.1).f1+(nth qA.z x0_ x17).f3)) else 65536)⟩:qB)),box b33 #[iv ((nth qA.z x0_ x17).f0),iv ((nth qA.z x0_ x17).f1),iv ((nth qA.z x0_ x17).f2),iv ((nth qA.z x0_ x17).f3),.bool ((nth qA.z x0_ x17).f4),.bool ((nth qA.z x0_ x17).f5)] 104]:=by rw [← hn92]; exact hS
      replace hS:=hS.pm [0] 2
      exact qCG ⟨k74,by omega,_,(pb b81),c69,(l70.set (t47.1).toNat (⟨(nth qB.z l70 t47.1).f0,(if (w64 ((nth qB.z l70 t47.1).f1+(nth qA.z x0_ x17).f3))<65536 then (w64 ((nth qB.z l70 t47.1).f1+(nth qA.z x0_ x17).f3)) else 65536)⟩:qB)),(w64 (x17+1)),F71,by omega,hE,.of,hS,g0_0,H⟩
     refine wp_skip ?_
     refine qCF ?_
     refine hK26 _ _ (pl0 (plc hE (.r 0 2 .nil) (fun a hE=>pld ?_)))
     replace hS:=hS.tail
     exact qCG ⟨k74,by omega,_,A68,c69,l70,(w64 (x17+1)),F71,by omega,hE,.of,hS,g0_0,H⟩
    refine rr hE fun a hE=>?_
    refine hE.ibn 34 H (fun c51 hE H=>?_) fun c51 hE H=>?_
    ·
     refine wp_skip ?_
     exact J75 _ (by omega) _ A14 c15 l16 F18 _ _ hE .of hS g0_0 H
    refine pl0 ?_
    have hb33:=hS.ba 0
    refine plc hE (.r 0 3<|.bn 3 0 6 hb33<|.nil) (fun a hE=>?_)
    obtain ⟨t53,h54,H⟩:=bd H
    refine ple hE (.cl en238 (qBU.calls (⟨(nth qA.z x0_ x17).f0,(nth qA.z x0_ x17).f1,(nth qA.z x0_ x17).f2,(nth qA.z x0_ x17).f3,(nth qA.z x0_ x17).f4,(nth qA.z x0_ x17).f5⟩:qA) _ _ _ hS.own.sub h54)) ?_
    rintro _ u52 a ⟨_,rfl,hC⟩ hE
    replace hS:=hS.lent hC
    refine plc hE (.r 5 1 .nil) (fun a hE=>ple hE (.lit (d:=qB.k) (e:=216) hS [(⟨t53,0⟩:qB)] (.cons rfl .nil)) ?_)
    rintro _ u55 a ⟨A56,c57,rfl,hS,hg⟩ hE
    replace hS:=hS.front 2 rfl
    obtain ⟨t60,h61,H⟩:=bd H
    refine ple hE (.cl en256 (qt.calls l16 t47.1 [(⟨t53,0⟩:qB)] _ _ _ _ _ _ _ (Own.left (X:=[row qB.k 216 (.slice A14 l16.length c15) l16,row qB.k 216 (.slice A56 ([(⟨t53,0⟩:qB)].length) c57) [(⟨t53,0⟩:qB)]]) hS.own) h61)) ?_
    rintro _ u59 a ⟨F62,A63,c64,rfl,hC⟩ hE
    have hs:=hC.sub
    replace hS:=hS.called (X:=[row qB.k 216 (.slice A14 l16.length c15) l16,row qB.k 216 (.slice A56 ([(⟨t53,0⟩:qB)].length) c57) [(⟨t53,0⟩:qB)]]) hC
    replace g0_0:=g0_0.mono hs
    refine plc hE (.r 8 1 .nil) (fun a hE=>pld ?_)
    replace hS:=hS.front 1 rfl
    exact J75 _ (by omega) _ A63 c64 t60 F62 _ _ hE .of hS g0_0 H
   refine wp_exit ?_
   refine hK26 _ _ (pl0 (plc hE (.r 0 2 .nil) (fun a hE=>pld ?_)))
   replace hS:=hS.tail
   exact qCG ⟨k21,by omega,_,A14,c15,l16,(w64 (x17+1)),F18,by omega,hE,.of,hS,g0_0,H⟩
  refine wp_exit ?_
  refine hK11 _ _ (rr hE fun a hE=>(wp_ret ?_))
  obtain rfl:=si H
  exact rt1 hE ⟨_,rfl,_,_,_,rfl,hS⟩
 refine rr hE fun a hE=>(wp_ret (qCD ?_))
 replace hS:=hS.nilrow qB.k 216
 obtain rfl:=si H
 exact rt1 hE ⟨_,rfl,_,_,_,rfl,hS⟩
def qBo.f(k:Nat)(x0_:List qA):Option (List qB):=(qS.f k x0_).bind fun t4=>(some t4)
def qBo.Post(W F:World)(r:List qB)(v:Value)(w':World):Prop:=∃(F':World)(RA0_0:Option Addr)(rc0_0:Nat),v = .slice RA0_0 r.length rc0_0∧St W (mine W []) F w' F' [row qB.k 216 (.slice RA0_0 r.length rc0_0) r]
theorem qBo.calls(k:Nat)(x0_:List qA)(A0_0:Option Addr)(c0_0:Nat)(r:List qB)(W F:World)(hown:Sub F W)(g0_0:Rd qA.k F A0_0 c0_0 x0_)(H:qBo.f k x0_=some r):
    Calls Tryz.prog 225 #[.slice A0_0 x0_.length c0_0] W fun e w'=>∃ v,e = .returned v∧qBo.Post W F r v w':=by
 have hS:=St.start (Own.nil hown)
 unfold qBo.f at H
 refine enter (n:=5) rfl rfl rfl (Nat.le_of_ble_eq_true rfl) (fun a hE=>?_)
 refine rr hE fun a hE=>(sq fun K2 hK2=>pl0 (plc hE (.r 0 1 .nil) (fun a hE=>?_)))
 obtain ⟨t4,h5,H⟩:=bd H
 refine ple hE (.cl en236 (qS.calls k x0_ _ _ _ _ _ hS.own.sub g0_0 h5)) ?_
 rintro _ u3 a ⟨F6,A7,c8,rfl,hC⟩ hE
 have hs:=hC.sub
 replace hS:=hS.called (X:=[]) hC
 replace g0_0:=g0_0.mono hs
 refine plc hE (.r 2 1 .nil) (fun a hE=>pld (hK2 _ _ (wp_ret ?_)))
 obtain rfl:=si H
 exact rt1 hE ⟨_,rfl,_,_,_,rfl,hS⟩
def qBf.f(x0_:qA)(xf0_:Int):Option Bool:=some (x0_.f1 == xf0_)
def qBf.Post(W F:World)(r:Bool)(v:Value)(w':World):Prop:=∃(F':World),v = .bool r∧St W (mine W []) F w' F' []
theorem qBf.calls(x0_:qA)(xf0_:Int)(pf0_:Nat)(r:Bool)(W F:World)(hown:Sub F W)(hpf0_:F.heap[pf0_]? = some (.cells #[iv xf0_] 3 (0,0)))(H:qBf.f x0_ xf0_=some r):
    Calls Tryz.prog 239 #[.agg #[iv x0_.f0,iv x0_.f1,iv x0_.f2,iv x0_.f3,.bool x0_.f4,.bool x0_.f5],.pointer (pb pf0_)] W fun e w'=>∃ v,e = .returned v∧qBf.Post W F r v w':=by
 have hS:=St.start (Own.nil hown)
 unfold qBf.f at H
 refine enter (n:=8) rfl rfl rfl (Nat.le_of_ble_eq_true rfl) (fun a hE=>?_)
 refine sq fun K1 hK1=>pl0 (ple hE (.bx (t:=104) hS [iv x0_.f0,iv x0_.f1,iv x0_.f2,iv x0_.f3,.bool x0_.f4,.bool x0_.f5]) ?_)
 rintro _ u3 a ⟨b2,rfl,hb2,hS,hg⟩ hE
 refine plc hE (.r 1 1 .nil) (fun a hE=>pld (hK1 _ _ (rg hE (.r 0 1<|.b 1 1 hb2<|.b 2 0 (hS.own.sub _ _ _ _ hpf0_)<|.r 3 2<|.nil) fun a hE=>(wp_ret ?_))))
 replace hS:=hS.tail
 obtain rfl:=si H
 exact rt1 hE ⟨_,rfl,_,rfl,hS⟩
def qBV.f(x0_:qA):Option Int:=some x0_.f2
def qBV.Post(W F:World)(r:Int)(v:Value)(w':World):Prop:=∃(F':World),v=iv r∧St W (mine W []) F w' F' []
theorem qBV.calls(x0_:qA)(r:Int)(W F:World)(hown:Sub F W)(H:qBV.f x0_=some r):
    Calls Tryz.prog 240 #[.agg #[iv x0_.f0,iv x0_.f1,iv x0_.f2,iv x0_.f3,.bool x0_.f4,.bool x0_.f5]] W fun e w'=>∃ v,e = .returned v∧qBV.Post W F r v w':=by
 have hS:=St.start (Own.nil hown)
 unfold qBV.f at H
 refine enter (n:=5) rfl rfl rfl (Nat.le_of_ble_eq_true rfl) (fun a hE=>?_)
 refine sq fun K1 hK1=>pl0 (ple hE (.bx (t:=104) hS [iv x0_.f0,iv x0_.f1,iv x0_.f2,iv x0_.f3,.bool x0_.f4,.bool x0_.f5]) ?_)
 rintro _ u3 a ⟨b2,rfl,hb2,hS,hg⟩ hE
 refine plc hE (.r 1 1 .nil) (fun a hE=>pld (hK1 _ _ (rg hE (.r 0 1<|.b 1 2 hb2<|.r 2 1<|.nil) fun a hE=>(wp_ret ?_))))
 replace hS:=hS.tail
 obtain rfl:=si H
 exact rt1 hE ⟨_,rfl,_,rfl,hS⟩
mutual
def qT.l19:Nat→List qA→Int→List qB→Int→Option (List qB)
 | 0,_,_,_,_=>none
 | k+1,x0_,x1c0_,l16,x17=>if x17<(x0_.length:Int) then (if 0≤x17∧x17<(x0_.length:Int) then ((qBf.f (⟨(nth qA.z x0_ x17).f0,(nth qA.z x0_ x17).f1,(nth qA.z x0_ x17).f2,(nth qA.z x0_ x17).f3,(nth qA.z x0_ x17).f4,(nth qA.z x0_ x17).f5⟩:qA) x1c0_).bind fun t39=>(if t39=true then ((qBV.f (⟨(nth qA.z x0_ x17).f0,(nth qA.z x0_ x17).f1,(nth qA.z x0_ x17).f2,(nth qA.z x0_ x17).f3,(nth qA.z x0_ x17).f4,(nth qA.z x0_ x17).f5⟩:qA)).bind fun t44=>((qH.f k l16 t44).bind fun t47=>(if t47.2=true then (qT.j72 k x0_ x1c0_ x17 t47 l16) else ((qBV.f (⟨(nth qA.z x0_ x17).f0,(nth qA.z x0_ x17).f1,(nth qA.z x0_ x17).f2,(nth qA.z x0_ x17).f3,(nth qA.z x0_ x17).f4,(nth qA.z x0_ x17).f5⟩:qA)).bind fun t53=>((qt.f l16 t47.1 [(⟨t53,0⟩:qB)]).bind fun t60=>(qT.j72 k x0_ x1c0_ x17 t47 t60)))))) else (qT.l19 k x0_ x1c0_ l16 (w64 (x17+1))))) else (none)) else (some l16)
def qT.j72:Nat→List qA→Int→Int→Int × Bool→List qB→Option (List qB)
 | 0,_,_,_,_,_=>none
 | k+1,x0_,x1c0_,x17,t47,l70=>if ((nth qA.z x0_ x17).f5)=true then (if 0≤t47.1∧t47.1<(l70.length:Int) then (qT.l19 k x0_ x1c0_ (l70.set (t47.1).toNat (⟨(nth qB.z l70 t47.1).f0,(if (w64 ((nth qB.z l70 t47.1).f1+(nth qA.z x0_ x17).f3))<65536 then (w64 ((nth qB.z l70 t47.1).f1+(nth qA.z x0_ x17).f3)) else 65536)⟩:qB)) (w64 (x17+1))) else (none)) else (qT.l19 k x0_ x1c0_ l70 (w64 (x17+1)))
end
theorem qT.l19_s k x0_ x1c0_ l16 x17:type_of% (qT.l19.eq_2 x0_ x1c0_ l16 x17 k):=qT.l19.eq_2 x0_ x1c0_ l16 x17 k
theorem qT.j72_s k x0_ x1c0_ x17 t47 l70:type_of% (qT.j72.eq_2 x0_ x1c0_ x17 t47 l70 k):=qT.j72.eq_2 x0_ x1c0_ x17 t47 l70 k
def qT.f(k:Nat)(x0_:List qA)(x1c0_:Int):Option (List qB):=(qAM.f k x0_).bind fun t6=>(if t6=0 then (qT.l19 k x0_ x1c0_ [] 0) else (some []))
def qT.Post(W F:World)(r:List qB)(v:Value)(w':World):Prop:=∃(F':World)(RA0_0:Option Addr)(rc0_0:Nat),v = .slice RA0_0 r.length rc0_0∧St W (mine W []) F w' F' [row qB.k 216 (.slice RA0_0 r.length rc0_0) r]
theorem qT.calls(k:Nat)(x0_:List qA)(x1c0_:Int)(A0_0:Option Addr)(c0_0:Nat)(p1c0_:Nat)(r:List qB)(W F:World)(hown:Sub F W)(g0_0:Rd qA.k F A0_0 c0_0 x0_)(hp1c0_:F.heap[p1c0_]? = some (.cells #[iv x1c0_] 3 (0,0)))(H:qT.f k x0_ x1c0_=some r):
    Calls Tryz.prog 236 #[.slice A0_0 x0_.length c0_0,.func (.func 239) #[] #[.pointer (pb p1c0_)],.func (.func 240) #[] #[]] W fun e w'=>∃ v,e = .returned v∧qT.Post W F r v w':=by
 have hS:=St.start (Own.nil hown)
 unfold qT.f at H
 refine enter (n:=60) rfl rfl rfl (Nat.le_of_ble_eq_true rfl) (fun a hE=>?_)
 refine rr hE fun a hE=>(rr hE fun a hE=>(sq fun K3 hK3=>sq fun K4 hK4=>pl0 (plc hE (.r 0 1 .nil) (fun a hE=>?_))))
 obtain ⟨t6,h7,H⟩:=bd H
 refine ple hE (.cl en80 (qAM.calls k x0_ _ _ _ _ _ hS.own.sub g0_0 h7)) ?_
 rintro _ u5 a ⟨_,rfl,hC⟩ hE
 replace hS:=hS.lent hC
 refine plc hE (.r 2 1 .nil) (fun a hE=>pld (hK4 _ _ ?_))
 refine hE.ikn 14 H (fun c8 hE H=>?_) fun c8 hE H=>?_
 ·
  refine wp_skip (hK3 _ _ (sq fun K11 hK11=>rr hE fun a hE=>(wp_block ?_)))
  replace hS:=hS.nilrow qB.k 216
  refine wp_loop_ghost (fun kq20 a w'=>∃(G:Nat→Value)(A14:Option Addr)(c15:Nat)(l16:List qB)(x17:Int)(F18:World),kq20≤k∧Env 60 G a∧At G [(1,.func (.func 239) #[] #[.pointer (pb p1c0_)]),(2,.func (.func 240) #[] #[]),(7,.slice A14 l16.length c15),(15,.slice A0_0 x0_.length c0_0),(16,iv (x0_.length:Int)),(17,iv x17)]∧St W (mine W []) F w' F18 [row qB.k 216 (.slice A14 l16.length c15) l16]∧Rd qA.k F18 A0_0 c0_0 x0_∧F18.heap[p1c0_]? = some (.cells #[iv x1c0_] 3 (0,0))∧qT.l19 kq20 x0_ x1c0_ l16 x17=some r) k ⟨_,none,0,[],0,F,Nat.le_refl _,hE,.of,hS,g0_0,hp1c0_,H⟩ ?_
  rintro kq20 a u22 ⟨G,A14,c15,l16,x17,F18,hkq,hE,hA,hS,g0_0,hp1c0_,H⟩
  obtain _ | k21:=kq20
  ·
   exact zz H
  rw [qT.l19_s]at H
  obtain ⟨J,hE⟩:=hE.at hA
  refine rr hE fun a hE=>(sq fun K24 hK24=>?_)
  refine hE.ik 18 H (fun c25 hE H=>?_) fun c25 hE H=>?_
  ·
   refine wp_skip (hK24 _ _ (sq fun K26 hK26=>wp_block (sq fun K27 hK27=>pl0 ?_)))
   obtain ⟨c28,H⟩:=gd H
   have hE_:=hE
   obtain ⟨ad29,rfl⟩:=g0_0.addr c28.1 c28.2
   replace hE:=hE_
   obtain ⟨cs31,rfl,hc32⟩:=g0_0.el qA.z x17 c28.1 c28.2
   refine plc hE (.x 0 c28<|.cs 1 (hS.fcs hc32)<|.nil) (fun a hE=>ple hE (.al (t:=104) hS [iv 0,iv 0,iv 0,iv 0,.bool false,.bool false]) ?_)
   rintro _ u34 a ⟨b33,rfl,hb33,hS,hg⟩ hE
   refine ple hE (.sto hS [iv ((nth qA.z x0_ x17).f0),iv ((nth qA.z x0_ x17).f1),iv ((nth qA.z x0_ x17).f2),iv ((nth qA.z x0_ x17).f3),.bool ((nth qA.z x0_ x17).f4),.bool ((nth qA.z x0_ x17).f5)]) ?_
   rintro _ u35 a ⟨rfl,hb33,hS,hz⟩ hE
   refine pld (hK27 _ _ (sq fun K36 hK36=>sq fun K37 hK37=>pl0 (plc hE (.r 0 1<|.bn 1 0 6 hb33<|.nil) (fun a hE=>?_))))
   obtain ⟨t39,h40,H⟩:=bd H
   refine ple hE (.cl en239 (qBf.calls (⟨(nth qA.z x0_ x17).f0,(nth qA.z x0_ x17).f1,(nth qA.z x0_ x17).f2,(nth qA.z x0_ x17).f3,(nth qA.z x0_ x17).f4,(nth qA.z x0_ x17).f5⟩:qA) x1c0_ _ _ _ _ hS.own.sub hp1c0_ h40)) ?_
   rintro _ u38 a ⟨_,rfl,hC⟩ hE
   replace hS:=hS.lent hC
   refine plc hE (.r 3 1 .nil) (fun a hE=>pld (hK37 _ _ ?_))
   refine hE.ibn 24 H (fun c41 hE H=>?_) fun c41 hE H=>?_
   ·
    refine wp_skip (hK36 _ _ (sq fun K42 hK42=>pl0 ?_))
    have hb33:=hS.ba 0
    refine plc hE (.r 0 2<|.bn 2 0 6 hb33<|.nil) (fun a hE=>?_)
    obtain ⟨t44,h45,H⟩:=bd H
    refine ple hE (.cl en240 (qBV.calls (⟨(nth qA.z x0_ x17).f0,(nth qA.z x0_ x17).f1,(nth qA.z x0_ x17).f2,(nth qA.z x0_ x17).f3,(nth qA.z x0_ x17).f4,(nth qA.z x0_ x17).f5⟩:qA) _ _ _ hS.own.sub h45)) ?_
    rintro _ u43 a ⟨_,rfl,hC⟩ hE
    replace hS:=hS.lent hC
    obtain ⟨t47,h48,H⟩:=bd H
    refine ple hE (.cl en254 (qH.calls k21 l16 t44 _ _ _ _ _ (Sub.refl _) (hS.rd_at (i:=1) rfl) h48)) ?_
    rintro _ u46 a ⟨_,rfl,hC⟩ hE
    replace hS:=hS.lent hC
    refine plc hE (.r 5 5 .nil) (fun a hE=>pld (hK42 _ _ (sq fun K49 hK49=>?_)))
    have J75:∀ kq73,kq73≤k21→∀(G:Nat→Value)(A68:Option Addr)(c69:Nat)(l70:List qB)(F71:World)(a:Act)(w':World),Env 60 G a→At G [(1,.func (.func 239) #[] #[.pointer (pb p1c0_)]),(2,.func (.func 240) #[] #[]),(7,.slice A68 l70.length c69),(9,.pointer (pb b33)),(10,iv t47.1),(15,.slice (some ad29) x0_.length c0_0),(16,iv (x0_.length:Int)),(17,iv x17)]→St W (mine W []) F w' F71 [box b33 #[iv ((nth qA.z x0_ x17).f0),iv ((nth qA.z x0_ x17).f1),iv ((nth qA.z x0_ x17).f2),iv ((nth qA.z x0_ x17).f3),.bool ((nth qA.z x0_ x17).f4),.bool ((nth qA.z x0_ x17).f5)] 104,row qB.k 216 (.slice A68 l70.length c69) l70]→Rd qA.k F71 (some ad29) c0_0 x0_→F71.heap[p1c0_]? = some (.cells #[iv x1c0_] 3 (0,0))→qT.j72 kq73 x0_ x1c0_ x17 t47 l70=some r→K49 a w':=by
     intro kq73 hkq G A68 c69 l70 F71 a u76 hE hA hS g0_0 hp1c0_ H
     obtain _ | k74:=kq73
     ·
      exact zz H
     rw [qT.j72_s]at H
     obtain ⟨J,hE⟩:=hE.at hA
     refine hK49 _ _ (sq fun K77 hK77=>pl0 ?_)
     have hb33:=hS.ba 0
     refine plc hE (.r 0 1<|.b 1 5 hb33<|.nil) (fun a hE=>pld (hK77 _ _ ?_))
     refine hE.ib 44 H (fun c78 hE H=>?_) fun c78 hE H=>?_
     ·
      refine drawn 14 ⟨[13],[],fun q=>False⟩ mixed rfl (by kernel_rfl) (fun hst=>?_)
      replace hS:=hS.drew
      obtain ⟨c79,H⟩:=gd H
      have hr80:=hS.ra 1
      have hE_:=hE
      obtain ⟨b81,rfl⟩:=qCK hr80 c79.1 c79.2
      replace hE:=hE_
      have hr_:=hS.ra 1
      obtain ⟨cs83,rfl,hc84⟩:=qCI hr_ qB.z t47.1 c79.1 c79.2
      have hb33:=hS.ba 0
      have hr85:=hS.ra 1
      refine mny 1 hst hE (.r 0 4<|.x 4 c79<|.r 5 1<|.c 6 (hc84 1 _ rfl)<|.r 7 1<|.b 8 3 hb33<|.r 9 2<|.x 11 c79<|.r 12 1<|.nil) (fun a hE=>?_)
      replace hS:=hS.front 1 rfl
      obtain ⟨cs90,rfl,hc91⟩:=qCI (hS.row_at (i:=0) rfl) qB.z t47.1 c79.1 c79.2
      refine on1 13 hE (.set (d:=qB.k) (n:=l70.length) (i:=t47.1) (⟨(nth qB.z l70 t47.1).f0,(if (w64 ((nth qB.z l70 t47.1).f1+(nth qA.z x0_ x17).f3))<65536 then (w64 ((nth qB.z l70 t47.1).f1+(nth qA.z x0_ x17).f3)) else 65536)⟩:qB) 1 (ea1 _ _ _) hS c79 [iv ((nth qB.z l70 t47.1).f0),iv ((nth qB.z l70 t47.1).f1)] hc91 [iv ((nth qB.z l70 t47.1).f0),iv (if (w64 ((nth qB.z l70 t47.1).f1+(nth qA.z x0_ x17).f3))<65536 then (w64 ((nth qB.z l70 t47.1).f1+(nth qA.z x0_ x17).f3)) else 65536)] rfl) ?_
      rintro _ u89 a ⟨rfl,hS,hz⟩ hE
      refine ⟨.d,?_⟩
      refine dn ?_
      refine qCF ?_
      refine hK26 _ _ (pl0 (plc hE (.r 0 2 .nil) (fun a hE=>pld ?_)))
      have hn92:=(qCH (hS.row_at (i:=0) rfl)).1
      replace hE:=hE.set (d:=7) (v:=.slice (pb b81) ((l70.set (t47.1).toNat (⟨(nth qB.z l70 t47.1).f0,(if (w64 ((nth qB.z l70 t47.1).f1+(nth qA.z x0_ x17).f3))<65536 then (w64 ((nth qB.z l70 t47.1).f1+(nth qA.z x0_ x17).f3)) else 65536)⟩:qB)).length) c69) (Eq.trans (b:=.slice (pb b81) l70.length c69) (by kernel_rfl) (by rw [← hn92]))
      replace hS:St W (mine W []) F u89 F71 [row qB.k 216 (.slice (pb b81) ((l70.set (t47.1).toNat (⟨(nth qB.z l70 t47.1).f0,(if (w64 ((nth qB.z l70 t47.1).f1+(nth qA.z x0_ x17).f3))<65536 then (w64 ((nth qB.z l70 t47.1).f1+(nth qA.z x0_ x17).f3)) else 65536)⟩:qB)).length) c69) (l70.set (t47.1).toNat (⟨(nth qB.z l70 t47.1).f0,(if (w64 ((nth qB.z l70 t47.1).f1+(nth qA.z x0_ x17).f3))<65536 then (w64 ((nth qB.z l70 t47.1).f1+(nth qA.z x0_ x17).f3)) else 65536)⟩:qB)),box b33 #[iv ((nth qA.z x0_ x17).f0),iv ((nth qA.z x0_ x17).f1),iv ((nth qA.z x0_ x17).f2),iv ((nth qA.z x0_ x17).f3),.bool ((nth qA.z x0_ x17).f4),.bool ((nth qA.z x0_ x17).f5)] 104]:=by rw [← hn92]; exact hS
      replace hS:=hS.pm [0] 2
      exact qCG ⟨k74,by omega,_,(pb b81),c69,(l70.set (t47.1).toNat (⟨(nth qB.z l70 t47.1).f0,(if (w64 ((nth qB.z l70 t47.1).f1+(nth qA.z x0_ x17).f3))<65536 then (w64 ((nth qB.z l70 t47.1).f1+(nth qA.z x0_ x17).f3)) else 65536)⟩:qB)),(w64 (x17+1)),F71,by omega,hE,.of,hS,g0_0,hp1c0_,H⟩
     refine wp_skip ?_
     refine qCF ?_
     refine hK26 _ _ (pl0 (plc hE (.r 0 2 .nil) (fun a hE=>pld ?_)))
     replace hS:=hS.tail
     exact qCG ⟨k74,by omega,_,A68,c69,l70,(w64 (x17+1)),F71,by omega,hE,.of,hS,g0_0,hp1c0_,H⟩
    refine rr hE fun a hE=>?_
    refine hE.ibn 34 H (fun c51 hE H=>?_) fun c51 hE H=>?_
    ·
     refine wp_skip ?_
     exact J75 _ (by omega) _ A14 c15 l16 F18 _ _ hE .of hS g0_0 hp1c0_ H
    refine pl0 ?_
    have hb33:=hS.ba 0
    refine plc hE (.r 0 3<|.bn 3 0 6 hb33<|.nil) (fun a hE=>?_)
    obtain ⟨t53,h54,H⟩:=bd H
    refine ple hE (.cl en240 (qBV.calls (⟨(nth qA.z x0_ x17).f0,(nth qA.z x0_ x17).f1,(nth qA.z x0_ x17).f2,(nth qA.z x0_ x17).f3,(nth qA.z x0_ x17).f4,(nth qA.z x0_ x17).f5⟩:qA) _ _ _ hS.own.sub h54)) ?_
    rintro _ u52 a ⟨_,rfl,hC⟩ hE
    replace hS:=hS.lent hC
    refine plc hE (.r 5 1 .nil) (fun a hE=>ple hE (.lit (d:=qB.k) (e:=216) hS [(⟨t53,0⟩:qB)] (.cons rfl .nil)) ?_)
    rintro _ u55 a ⟨A56,c57,rfl,hS,hg⟩ hE
    replace hS:=hS.front 2 rfl
    obtain ⟨t60,h61,H⟩:=bd H
    refine ple hE (.cl en256 (qt.calls l16 t47.1 [(⟨t53,0⟩:qB)] _ _ _ _ _ _ _ (Own.left (X:=[row qB.k 216 (.slice A14 l16.length c15) l16,row qB.k 216 (.slice A56 ([(⟨t53,0⟩:qB)].length) c57) [(⟨t53,0⟩:qB)]]) hS.own) h61)) ?_
    rintro _ u59 a ⟨F62,A63,c64,rfl,hC⟩ hE
    have hs:=hC.sub
    replace hS:=hS.called (X:=[row qB.k 216 (.slice A14 l16.length c15) l16,row qB.k 216 (.slice A56 ([(⟨t53,0⟩:qB)].length) c57) [(⟨t53,0⟩:qB)]]) hC
    replace g0_0:=g0_0.mono hs
    replace hp1c0_:=hs _ _ _ _ hp1c0_
    refine plc hE (.r 8 1 .nil) (fun a hE=>pld ?_)
    replace hS:=hS.front 1 rfl
    exact J75 _ (by omega) _ A63 c64 t60 F62 _ _ hE .of hS g0_0 hp1c0_ H
   refine wp_exit ?_
   refine hK26 _ _ (pl0 (plc hE (.r 0 2 .nil) (fun a hE=>pld ?_)))
   replace hS:=hS.tail
   exact qCG ⟨k21,by omega,_,A14,c15,l16,(w64 (x17+1)),F18,by omega,hE,.of,hS,g0_0,hp1c0_,H⟩
  refine wp_exit ?_
  refine hK11 _ _ (rr hE fun a hE=>(wp_ret ?_))
  obtain rfl:=si H
  exact rt1 hE ⟨_,rfl,_,_,_,rfl,hS⟩
 refine rr hE fun a hE=>(wp_ret (qCD ?_))
 replace hS:=hS.nilrow qB.k 216
 obtain rfl:=si H
 exact rt1 hE ⟨_,rfl,_,_,_,rfl,hS⟩
def qBp.f(k:Nat)(x0_:List qA)(x1_:Int):Option (List qB):=(qT.f k x0_ x1_).bind fun t8=>(some t8)
def qBp.Post(W F:World)(r:List qB)(v:Value)(w':World):Prop:=∃(F':World)(RA0_0:Option Addr)(rc0_0:Nat),v = .slice RA0_0 r.length rc0_0∧St W (mine W []) F w' F' [row qB.k 216 (.slice RA0_0 r.length rc0_0) r]
theorem qBp.calls(k:Nat)(x0_:List qA)(x1_:Int)(A0_0:Option Addr)(c0_0:Nat)(r:List qB)(W F:World)(hown:Sub F W)(g0_0:Rd qA.k F A0_0 c0_0 x0_)(H:qBp.f k x0_ x1_=some r):
    Calls Tryz.prog 226 #[.slice A0_0 x0_.length c0_0,iv x1_] W fun e w'=>∃ v,e = .returned v∧qBp.Post W F r v w':=by
 have hS:=St.start (Own.nil hown)
 unfold qBp.f at H
 refine enter (n:=8) rfl rfl rfl (Nat.le_of_ble_eq_true rfl) (fun a hE=>?_)
 refine sq fun K1 hK1=>pl0 (ple hE (.bx (t:=3) hS [iv x1_]) ?_)
 rintro _ u3 a ⟨b2,rfl,hb2,hS,hg⟩ hE
 refine plc hE (.r 1 1 .nil) (fun a hE=>pld (hK1 _ _ (sq fun K4 hK4=>pl0 (plc hE (.r 0 2 .nil) (fun a hE=>?_)))))
 obtain ⟨F5,hs,g6,hS⟩:=hS.giveb
 replace g0_0:=g0_0.mono hs
 obtain ⟨t8,h9,H⟩:=bd H
 refine ple hE (.cl en236 (qT.calls k x0_ x1_ _ _ _ _ _ _ hS.own.sub g0_0 g6 h9)) ?_
 rintro _ u7 a ⟨F10,A11,c12,rfl,hC⟩ hE
 have hs:=hC.sub
 replace hS:=hS.called (X:=[]) hC
 replace g0_0:=g0_0.mono hs
 replace g6:=hs _ _ _ _ g6
 refine plc hE (.r 3 1 .nil) (fun a hE=>pld (hK4 _ _ (wp_ret ?_)))
 obtain rfl:=si H
 exact rt1 hE ⟨_,rfl,_,_,_,rfl,hS⟩
def qBO.f(x0_:qA)(xf0_:Int)(xf1_:Int):Option Bool:=if xf0_=0 then (if xf1_=0 then (some true) else (some (x0_.f2 == xf1_))) else (if x0_.f1=xf0_ then (if xf1_=0 then (some true) else (some (x0_.f2 == xf1_))) else (some false))
def qBO.Post(W F:World)(r:Bool)(v:Value)(w':World):Prop:=∃(F':World),v = .bool r∧St W (mine W []) F w' F' []
theorem qBO.calls(x0_:qA)(xf0_:Int)(xf1_:Int)(pf0_:Nat)(pf1_:Nat)(r:Bool)(W F:World)(hown:Sub F W)(hpf0_:F.heap[pf0_]? = some (.cells #[iv xf0_] 3 (0,0)))(hpf1_:F.heap[pf1_]? = some (.cells #[iv xf1_] 3 (0,0)))(H:qBO.f x0_ xf0_ xf1_=some r):
    Calls Tryz.prog 241 #[.agg #[iv x0_.f0,iv x0_.f1,iv x0_.f2,iv x0_.f3,.bool x0_.f4,.bool x0_.f5],.pointer (pb pf0_),.pointer (pb pf1_)] W fun e w'=>∃ v,e = .returned v∧qBO.Post W F r v w':=by
 have hS:=St.start (Own.nil hown)
 unfold qBO.f at H
 refine enter (n:=23) rfl rfl rfl (Nat.le_of_ble_eq_true rfl) (fun a hE=>?_)
 refine sq fun K1 hK1=>pl0 (ple hE (.bx (t:=104) hS [iv x0_.f0,iv x0_.f1,iv x0_.f2,iv x0_.f3,.bool x0_.f4,.bool x0_.f5]) ?_)
 rintro _ u3 a ⟨b2,rfl,hb2,hS,hg⟩ hE
 refine plc hE (.r 1 1 .nil) (fun a hE=>pld (hK1 _ _ (sq fun K4 hK4=>pl0 (plc hE (.b 0 0 (hS.own.sub _ _ _ _ hpf0_)<|.r 1 2<|.nil) (fun a hE=>?_)))))
 rcases sp H with ⟨c5,H⟩ | ⟨c5,H⟩
 ·
  replace hE:=hE.kt 7 c5
  refine plc hE (.r 3 6<|.b 9 0 (hS.own.sub _ _ _ _ hpf1_)<|.r 10 2<|.nil) (fun a hE=>?_)
  rcases sp H with ⟨c6,H⟩ | ⟨c6,H⟩
  ·
   replace hE:=hE.kt 16 c6
   refine plc hE (.r 12 7 .nil) (fun a hE=>pld (hK4 _ _ (wp_ret ?_)))
   replace hS:=hS.tail
   obtain rfl:=si H
   exact rt1 hE ⟨_,rfl,_,rfl,hS⟩
  replace hE:=hE.kf 16 c6
  refine plc hE (.r 12 1<|.b 13 2 hb2<|.b 14 0 (hS.own.sub _ _ _ _ hpf1_)<|.r 15 4<|.nil) (fun a hE=>pld (hK4 _ _ (wp_ret ?_)))
  replace hS:=hS.tail
  obtain rfl:=si H
  exact rt1 hE ⟨_,rfl,_,rfl,hS⟩
 replace hE:=hE.kf 7 c5
 refine plc hE (.r 3 1<|.b 4 1 hb2<|.b 5 0 (hS.own.sub _ _ _ _ hpf0_)<|.r 6 3<|.nil) (fun a hE=>?_)
 rcases sp H with ⟨c7,H⟩ | ⟨c7,H⟩
 ·
  replace hE:=hE.kt 13 c7
  refine plc hE (.b 9 0 (hS.own.sub _ _ _ _ hpf1_)<|.r 10 2<|.nil) (fun a hE=>?_)
  rcases sp H with ⟨c8,H⟩ | ⟨c8,H⟩
  ·
   replace hE:=hE.kt 16 c8
   refine plc hE (.r 12 7 .nil) (fun a hE=>pld (hK4 _ _ (wp_ret ?_)))
   replace hS:=hS.tail
   obtain rfl:=si H
   exact rt1 hE ⟨_,rfl,_,rfl,hS⟩
  replace hE:=hE.kf 16 c8
  refine plc hE (.r 12 1<|.b 13 2 hb2<|.b 14 0 (hS.own.sub _ _ _ _ hpf1_)<|.r 15 4<|.nil) (fun a hE=>pld (hK4 _ _ (wp_ret ?_)))
  replace hS:=hS.tail
  obtain rfl:=si H
  exact rt1 hE ⟨_,rfl,_,rfl,hS⟩
 replace hE:=hE.kf 13 c7
 refine plc hE (.r 9 10 .nil) (fun a hE=>pld (hK4 _ _ (wp_ret ?_)))
 replace hS:=hS.tail
 obtain rfl:=si H
 exact rt1 hE ⟨_,rfl,_,rfl,hS⟩
def qBP.f(x0_:qA):Option Int:=some x0_.f0
def qBP.Post(W F:World)(r:Int)(v:Value)(w':World):Prop:=∃(F':World),v=iv r∧St W (mine W []) F w' F' []
theorem qBP.calls(x0_:qA)(r:Int)(W F:World)(hown:Sub F W)(H:qBP.f x0_=some r):
    Calls Tryz.prog 242 #[.agg #[iv x0_.f0,iv x0_.f1,iv x0_.f2,iv x0_.f3,.bool x0_.f4,.bool x0_.f5]] W fun e w'=>∃ v,e = .returned v∧qBP.Post W F r v w':=by
 have hS:=St.start (Own.nil hown)
 unfold qBP.f at H
 refine enter (n:=5) rfl rfl rfl (Nat.le_of_ble_eq_true rfl) (fun a hE=>?_)
 refine sq fun K1 hK1=>pl0 (ple hE (.bx (t:=104) hS [iv x0_.f0,iv x0_.f1,iv x0_.f2,iv x0_.f3,.bool x0_.f4,.bool x0_.f5]) ?_)
 rintro _ u3 a ⟨b2,rfl,hb2,hS,hg⟩ hE
 refine plc hE (.r 1 1 .nil) (fun a hE=>pld (hK1 _ _ (rg hE (.r 0 1<|.b 1 0 hb2<|.r 2 1<|.nil) fun a hE=>(wp_ret ?_))))
 replace hS:=hS.tail
 obtain rfl:=si H
 exact rt1 hE ⟨_,rfl,_,rfl,hS⟩
mutual
def qQ.l19:Nat→List qA→Int→Int→List qB→Int→Option (List qB)
 | 0,_,_,_,_,_=>none
 | k+1,x0_,x1c0_,x1c1_,l16,x17=>if x17<(x0_.length:Int) then (if 0≤x17∧x17<(x0_.length:Int) then ((qBO.f (⟨(nth qA.z x0_ x17).f0,(nth qA.z x0_ x17).f1,(nth qA.z x0_ x17).f2,(nth qA.z x0_ x17).f3,(nth qA.z x0_ x17).f4,(nth qA.z x0_ x17).f5⟩:qA) x1c0_ x1c1_).bind fun t39=>(if t39=true then ((qBP.f (⟨(nth qA.z x0_ x17).f0,(nth qA.z x0_ x17).f1,(nth qA.z x0_ x17).f2,(nth qA.z x0_ x17).f3,(nth qA.z x0_ x17).f4,(nth qA.z x0_ x17).f5⟩:qA)).bind fun t44=>((qH.f k l16 t44).bind fun t47=>(if t47.2=true then (qQ.j72 k x0_ x1c0_ x1c1_ x17 t47 l16) else ((qBP.f (⟨(nth qA.z x0_ x17).f0,(nth qA.z x0_ x17).f1,(nth qA.z x0_ x17).f2,(nth qA.z x0_ x17).f3,(nth qA.z x0_ x17).f4,(nth qA.z x0_ x17).f5⟩:qA)).bind fun t53=>((qt.f l16 t47.1 [(⟨t53,0⟩:qB)]).bind fun t60=>(qQ.j72 k x0_ x1c0_ x1c1_ x17 t47 t60)))))) else (qQ.l19 k x0_ x1c0_ x1c1_ l16 (w64 (x17+1))))) else (none)) else (some l16)
def qQ.j72:Nat→List qA→Int→Int→Int→Int × Bool→List qB→Option (List qB)
 | 0,_,_,_,_,_,_=>none
 | k+1,x0_,x1c0_,x1c1_,x17,t47,l70=>if ((nth qA.z x0_ x17).f5)=true then (if 0≤t47.1∧t47.1<(l70.length:Int) then (qQ.l19 k x0_ x1c0_ x1c1_ (l70.set (t47.1).toNat (⟨(nth qB.z l70 t47.1).f0,(if (w64 ((nth qB.z l70 t47.1).f1+(nth qA.z x0_ x17).f3))<65536 then (w64 ((nth qB.z l70 t47.1).f1+(nth qA.z x0_ x17).f3)) else 65536)⟩:qB)) (w64 (x17+1))) else (none)) else (qQ.l19 k x0_ x1c0_ x1c1_ l70 (w64 (x17+1)))
end
theorem qQ.l19_s k x0_ x1c0_ x1c1_ l16 x17:type_of% (qQ.l19.eq_2 x0_ x1c0_ x1c1_ l16 x17 k):=qQ.l19.eq_2 x0_ x1c0_ x1c1_ l16 x17 k
theorem qQ.j72_s k x0_ x1c0_ x1c1_ x17 t47 l70:type_of% (qQ.j72.eq_2 x0_ x1c0_ x1c1_ x17 t47 l70 k):=qQ.j72.eq_2 x0_ x1c0_ x1c1_ x17 t47 l70 k
def qQ.f(k:Nat)(x0_:List qA)(x1c0_:Int)(x1c1_:Int):Option (List qB):=(qAM.f k x0_).bind fun t6=>(if t6=0 then (qQ.l19 k x0_ x1c0_ x1c1_ [] 0) else (some []))
def qQ.Post(W F:World)(r:List qB)(v:Value)(w':World):Prop:=∃(F':World)(RA0_0:Option Addr)(rc0_0:Nat),v = .slice RA0_0 r.length rc0_0∧St W (mine W []) F w' F' [row qB.k 216 (.slice RA0_0 r.length rc0_0) r]
theorem qQ.calls(k:Nat)(x0_:List qA)(x1c0_:Int)(x1c1_:Int)(A0_0:Option Addr)(c0_0:Nat)(p1c0_:Nat)(p1c1_:Nat)(r:List qB)(W F:World)(hown:Sub F W)(g0_0:Rd qA.k F A0_0 c0_0 x0_)(hp1c0_:F.heap[p1c0_]? = some (.cells #[iv x1c0_] 3 (0,0)))(hp1c1_:F.heap[p1c1_]? = some (.cells #[iv x1c1_] 3 (0,0)))(H:qQ.f k x0_ x1c0_ x1c1_=some r):
    Calls Tryz.prog 236 #[.slice A0_0 x0_.length c0_0,.func (.func 241) #[] #[.pointer (pb p1c0_),.pointer (pb p1c1_)],.func (.func 242) #[] #[]] W fun e w'=>∃ v,e = .returned v∧qQ.Post W F r v w':=by
 have hS:=St.start (Own.nil hown)
 unfold qQ.f at H
 refine enter (n:=60) rfl rfl rfl (Nat.le_of_ble_eq_true rfl) (fun a hE=>?_)
 refine rr hE fun a hE=>(rr hE fun a hE=>(sq fun K3 hK3=>sq fun K4 hK4=>pl0 (plc hE (.r 0 1 .nil) (fun a hE=>?_))))
 obtain ⟨t6,h7,H⟩:=bd H
 refine ple hE (.cl en80 (qAM.calls k x0_ _ _ _ _ _ hS.own.sub g0_0 h7)) ?_
 rintro _ u5 a ⟨_,rfl,hC⟩ hE
 replace hS:=hS.lent hC
 refine plc hE (.r 2 1 .nil) (fun a hE=>pld (hK4 _ _ ?_))
 refine hE.ikn 14 H (fun c8 hE H=>?_) fun c8 hE H=>?_
 ·
  refine wp_skip (hK3 _ _ (sq fun K11 hK11=>rr hE fun a hE=>(wp_block ?_)))
  replace hS:=hS.nilrow qB.k 216
  refine wp_loop_ghost (fun kq20 a w'=>∃(G:Nat→Value)(A14:Option Addr)(c15:Nat)(l16:List qB)(x17:Int)(F18:World),kq20≤k∧Env 60 G a∧At G [(1,.func (.func 241) #[] #[.pointer (pb p1c0_),.pointer (pb p1c1_)]),(2,.func (.func 242) #[] #[]),(7,.slice A14 l16.length c15),(15,.slice A0_0 x0_.length c0_0),(16,iv (x0_.length:Int)),(17,iv x17)]∧St W (mine W []) F w' F18 [row qB.k 216 (.slice A14 l16.length c15) l16]∧Rd qA.k F18 A0_0 c0_0 x0_∧F18.heap[p1c0_]? = some (.cells #[iv x1c0_] 3 (0,0))∧F18.heap[p1c1_]? = some (.cells #[iv x1c1_] 3 (0,0))∧qQ.l19 kq20 x0_ x1c0_ x1c1_ l16 x17=some r) k ⟨_,none,0,[],0,F,Nat.le_refl _,hE,.of,hS,g0_0,hp1c0_,hp1c1_,H⟩ ?_
  rintro kq20 a u22 ⟨G,A14,c15,l16,x17,F18,hkq,hE,hA,hS,g0_0,hp1c0_,hp1c1_,H⟩
  obtain _ | k21:=kq20
  ·
   exact zz H
  rw [qQ.l19_s]at H
  obtain ⟨J,hE⟩:=hE.at hA
  refine rr hE fun a hE=>(sq fun K24 hK24=>?_)
  refine hE.ik 18 H (fun c25 hE H=>?_) fun c25 hE H=>?_
  ·
   refine wp_skip (hK24 _ _ (sq fun K26 hK26=>wp_block (sq fun K27 hK27=>pl0 ?_)))
   obtain ⟨c28,H⟩:=gd H
   have hE_:=hE
   obtain ⟨ad29,rfl⟩:=g0_0.addr c28.1 c28.2
   replace hE:=hE_
   obtain ⟨cs31,rfl,hc32⟩:=g0_0.el qA.z x17 c28.1 c28.2
   refine plc hE (.x 0 c28<|.cs 1 (hS.fcs hc32)<|.nil) (fun a hE=>ple hE (.al (t:=104) hS [iv 0,iv 0,iv 0,iv 0,.bool false,.bool false]) ?_)
   rintro _ u34 a ⟨b33,rfl,hb33,hS,hg⟩ hE
   refine ple hE (.sto hS [iv ((nth qA.z x0_ x17).f0),iv ((nth qA.z x0_ x17).f1),iv ((nth qA.z x0_ x17).f2),iv ((nth qA.z x0_ x17).f3),.bool ((nth qA.z x0_ x17).f4),.bool ((nth qA.z x0_ x17).f5)]) ?_
   rintro _ u35 a ⟨rfl,hb33,hS,hz⟩ hE
   refine pld (hK27 _ _ (sq fun K36 hK36=>sq fun K37 hK37=>pl0 (plc hE (.r 0 1<|.bn 1 0 6 hb33<|.nil) (fun a hE=>?_))))
   obtain ⟨t39,h40,H⟩:=bd H
   refine ple hE (.cl en241 (qBO.calls (⟨(nth qA.z x0_ x17).f0,(nth qA.z x0_ x17).f1,(nth qA.z x0_ x17).f2,(nth qA.z x0_ x17).f3,(nth qA.z x0_ x17).f4,(nth qA.z x0_ x17).f5⟩:qA) x1c0_ x1c1_ _ _ _ _ _ hS.own.sub hp1c0_ hp1c1_ h40)) ?_
   rintro _ u38 a ⟨_,rfl,hC⟩ hE
   replace hS:=hS.lent hC
   refine plc hE (.r 3 1 .nil) (fun a hE=>pld (hK37 _ _ ?_))
   refine hE.ibn 24 H (fun c41 hE H=>?_) fun c41 hE H=>?_
   ·
    refine wp_skip (hK36 _ _ (sq fun K42 hK42=>pl0 ?_))
    have hb33:=hS.ba 0
    refine plc hE (.r 0 2<|.bn 2 0 6 hb33<|.nil) (fun a hE=>?_)
    obtain ⟨t44,h45,H⟩:=bd H
    refine ple hE (.cl en242 (qBP.calls (⟨(nth qA.z x0_ x17).f0,(nth qA.z x0_ x17).f1,(nth qA.z x0_ x17).f2,(nth qA.z x0_ x17).f3,(nth qA.z x0_ x17).f4,(nth qA.z x0_ x17).f5⟩:qA) _ _ _ hS.own.sub h45)) ?_
    rintro _ u43 a ⟨_,rfl,hC⟩ hE
    replace hS:=hS.lent hC
    obtain ⟨t47,h48,H⟩:=bd H
    refine ple hE (.cl en254 (qH.calls k21 l16 t44 _ _ _ _ _ (Sub.refl _) (hS.rd_at (i:=1) rfl) h48)) ?_
    rintro _ u46 a ⟨_,rfl,hC⟩ hE
    replace hS:=hS.lent hC
    refine plc hE (.r 5 5 .nil) (fun a hE=>pld (hK42 _ _ (sq fun K49 hK49=>?_)))
    have J75:∀ kq73,kq73≤k21→∀(G:Nat→Value)(A68:Option Addr)(c69:Nat)(l70:List qB)(F71:World)(a:Act)(w':World),Env 60 G a→At G [(1,.func (.func 241) #[] #[.pointer (pb p1c0_),.pointer (pb p1c1_)]),(2,.func (.func 242) #[] #[]),(7,.slice A68 l70.length c69),(9,.pointer (pb b33)),(10,iv t47.1),(15,.slice (some ad29) x0_.length c0_0),(16,iv (x0_.length:Int)),(17,iv x17)]→St W (mine W []) F w' F71 [box b33 #[iv ((nth qA.z x0_ x17).f0),iv ((nth qA.z x0_ x17).f1),iv ((nth qA.z x0_ x17).f2),iv ((nth qA.z x0_ x17).f3),.bool ((nth qA.z x0_ x17).f4),.bool ((nth qA.z x0_ x17).f5)] 104,row qB.k 216 (.slice A68 l70.length c69) l70]→Rd qA.k F71 (some ad29) c0_0 x0_→F71.heap[p1c0_]? = some (.cells #[iv x1c0_] 3 (0,0))→F71.heap[p1c1_]? = some (.cells #[iv x1c1_] 3 (0,0))→qQ.j72 kq73 x0_ x1c0_ x1c1_ x17 t47 l70=some r→K49 a w':=by
     intro kq73 hkq G A68 c69 l70 F71 a u76 hE hA hS g0_0 hp1c0_ hp1c1_ H
     obtain _ | k74:=kq73
     ·
      exact zz H
     rw [qQ.j72_s]at H
     obtain ⟨J,hE⟩:=hE.at hA
     refine hK49 _ _ (sq fun K77 hK77=>pl0 ?_)
     have hb33:=hS.ba 0
     refine plc hE (.r 0 1<|.b 1 5 hb33<|.nil) (fun a hE=>pld (hK77 _ _ ?_))
     refine hE.ib 44 H (fun c78 hE H=>?_) fun c78 hE H=>?_
     ·
      refine drawn 14 ⟨[13],[],fun q=>False⟩ mixed rfl (by kernel_rfl) (fun hst=>?_)
      replace hS:=hS.drew
      obtain ⟨c79,H⟩:=gd H
      have hr80:=hS.ra 1
      have hE_:=hE
      obtain ⟨b81,rfl⟩:=qCK hr80 c79.1 c79.2
      replace hE:=hE_
      have hr_:=hS.ra 1
      obtain ⟨cs83,rfl,hc84⟩:=qCI hr_ qB.z t47.1 c79.1 c79.2
      have hb33:=hS.ba 0
      have hr85:=hS.ra 1
      refine mny 1 hst hE (.r 0 4<|.x 4 c79<|.r 5 1<|.c 6 (hc84 1 _ rfl)<|.r 7 1<|.b 8 3 hb33<|.r 9 2<|.x 11 c79<|.r 12 1<|.nil) (fun a hE=>?_)
      replace hS:=hS.front 1 rfl
      obtain ⟨cs90,rfl,hc91⟩:=qCI (hS.row_at (i:=0) rfl) qB.z t47.1 c79.1 c79.2
      refine on1 13 hE (.set (d:=qB.k) (n:=l70.length) (i:=t47.1) (⟨(nth qB.z l70 t47.1).f0,(if (w64 ((nth qB.z l70 t47.1).f1+(nth qA.z x0_ x17).f3))<65536 then (w64 ((nth qB.z l70 t47.1).f1+(nth qA.z x0_ x17).f3)) else 65536)⟩:qB) 1 (ea1 _ _ _) hS c79 [iv ((nth qB.z l70 t47.1).f0),iv ((nth qB.z l70 t47.1).f1)] hc91 [iv ((nth qB.z l70 t47.1).f0),iv (if (w64 ((nth qB.z l70 t47.1).f1+(nth qA.z x0_ x17).f3))<65536 then (w64 ((nth qB.z l70 t47.1).f1+(nth qA.z x0_ x17).f3)) else 65536)] rfl) ?_
      rintro _ u89 a ⟨rfl,hS,hz⟩ hE
      refine ⟨.d,?_⟩
      refine dn ?_
      refine qCF ?_
      refine hK26 _ _ (pl0 (plc hE (.r 0 2 .nil) (fun a hE=>pld ?_)))
      have hn92:=(qCH (hS.row_at (i:=0) rfl)).1
      replace hE:=hE.set (d:=7) (v:=.slice (pb b81) ((l70.set (t47.1).toNat (⟨(nth qB.z l70 t47.1).f0,(if (w64 ((nth qB.z l70 t47.1).f1+(nth qA.z x0_ x17).f3))<65536 then (w64 ((nth qB.z l70 t47.1).f1+(nth qA.z x0_ x17).f3)) else 65536)⟩:qB)).length) c69) (Eq.trans (b:=.slice (pb b81) l70.length c69) (by kernel_rfl) (by rw [← hn92]))
      replace hS:St W (mine W []) F u89 F71 [row qB.k 216 (.slice (pb b81) ((l70.set (t47.1).toNat (⟨(nth qB.z l70 t47.1).f0,(if (w64 ((nth qB.z l70 t47.1).f1+(nth qA.z x0_ x17).f3))<65536 then (w64 ((nth qB.z l70 t47.1).f1+(nth qA.z x0_ x17).f3)) else 65536)⟩:qB)).length) c69) (l70.set (t47.1).toNat (⟨(nth qB.z l70 t47.1).f0,(if (w64 ((nth qB.z l70 t47.1).f1+(nth qA.z x0_ x17).f3))<65536 then (w64 ((nth qB.z l70 t47.1).f1+(nth qA.z x0_ x17).f3)) else 65536)⟩:qB)),box b33 #[iv ((nth qA.z x0_ x17).f0),iv ((nth qA.z x0_ x17).f1),iv ((nth qA.z x0_ x17).f2),iv ((nth qA.z x0_ x17).f3),.bool ((nth qA.z x0_ x17).f4),.bool ((nth qA.z x0_ x17).f5)] 104]:=by rw [← hn92]; exact hS
      replace hS:=hS.pm [0] 2
      exact qCG ⟨k74,by omega,_,(pb b81),c69,(l70.set (t47.1).toNat (⟨(nth qB.z l70 t47.1).f0,(if (w64 ((nth qB.z l70 t47.1).f1+(nth qA.z x0_ x17).f3))<65536 then (w64 ((nth qB.z l70 t47.1).f1+(nth qA.z x0_ x17).f3)) else 65536)⟩:qB)),(w64 (x17+1)),F71,by omega,hE,.of,hS,g0_0,hp1c0_,hp1c1_,H⟩
     refine wp_skip ?_
     refine qCF ?_
     refine hK26 _ _ (pl0 (plc hE (.r 0 2 .nil) (fun a hE=>pld ?_)))
     replace hS:=hS.tail
     exact qCG ⟨k74,by omega,_,A68,c69,l70,(w64 (x17+1)),F71,by omega,hE,.of,hS,g0_0,hp1c0_,hp1c1_,H⟩
    refine rr hE fun a hE=>?_
    refine hE.ibn 34 H (fun c51 hE H=>?_) fun c51 hE H=>?_
    ·
     refine wp_skip ?_
     exact J75 _ (by omega) _ A14 c15 l16 F18 _ _ hE .of hS g0_0 hp1c0_ hp1c1_ H
    refine pl0 ?_
    have hb33:=hS.ba 0
    refine plc hE (.r 0 3<|.bn 3 0 6 hb33<|.nil) (fun a hE=>?_)
    obtain ⟨t53,h54,H⟩:=bd H
    refine ple hE (.cl en242 (qBP.calls (⟨(nth qA.z x0_ x17).f0,(nth qA.z x0_ x17).f1,(nth qA.z x0_ x17).f2,(nth qA.z x0_ x17).f3,(nth qA.z x0_ x17).f4,(nth qA.z x0_ x17).f5⟩:qA) _ _ _ hS.own.sub h54)) ?_
    rintro _ u52 a ⟨_,rfl,hC⟩ hE
    replace hS:=hS.lent hC
    refine plc hE (.r 5 1 .nil) (fun a hE=>ple hE (.lit (d:=qB.k) (e:=216) hS [(⟨t53,0⟩:qB)] (.cons rfl .nil)) ?_)
    rintro _ u55 a ⟨A56,c57,rfl,hS,hg⟩ hE
    replace hS:=hS.front 2 rfl
    obtain ⟨t60,h61,H⟩:=bd H
    refine ple hE (.cl en256 (qt.calls l16 t47.1 [(⟨t53,0⟩:qB)] _ _ _ _ _ _ _ (Own.left (X:=[row qB.k 216 (.slice A14 l16.length c15) l16,row qB.k 216 (.slice A56 ([(⟨t53,0⟩:qB)].length) c57) [(⟨t53,0⟩:qB)]]) hS.own) h61)) ?_
    rintro _ u59 a ⟨F62,A63,c64,rfl,hC⟩ hE
    have hs:=hC.sub
    replace hS:=hS.called (X:=[row qB.k 216 (.slice A14 l16.length c15) l16,row qB.k 216 (.slice A56 ([(⟨t53,0⟩:qB)].length) c57) [(⟨t53,0⟩:qB)]]) hC
    replace g0_0:=g0_0.mono hs
    replace hp1c0_:=hs _ _ _ _ hp1c0_
    replace hp1c1_:=hs _ _ _ _ hp1c1_
    refine plc hE (.r 8 1 .nil) (fun a hE=>pld ?_)
    replace hS:=hS.front 1 rfl
    exact J75 _ (by omega) _ A63 c64 t60 F62 _ _ hE .of hS g0_0 hp1c0_ hp1c1_ H
   refine wp_exit ?_
   refine hK26 _ _ (pl0 (plc hE (.r 0 2 .nil) (fun a hE=>pld ?_)))
   replace hS:=hS.tail
   exact qCG ⟨k21,by omega,_,A14,c15,l16,(w64 (x17+1)),F18,by omega,hE,.of,hS,g0_0,hp1c0_,hp1c1_,H⟩
  refine wp_exit ?_
  refine hK11 _ _ (rr hE fun a hE=>(wp_ret ?_))
  obtain rfl:=si H
  exact rt1 hE ⟨_,rfl,_,_,_,rfl,hS⟩
 refine rr hE fun a hE=>(wp_ret (qCD ?_))
 replace hS:=hS.nilrow qB.k 216
 obtain rfl:=si H
 exact rt1 hE ⟨_,rfl,_,_,_,rfl,hS⟩
def qBi.f(k:Nat)(x0_:List qA)(x1_:Int)(x2_:Int):Option (List qB):=(qQ.f k x0_ x1_ x2_).bind fun t12=>(some t12)
def qBi.Post(W F:World)(r:List qB)(v:Value)(w':World):Prop:=∃(F':World)(RA0_0:Option Addr)(rc0_0:Nat),v = .slice RA0_0 r.length rc0_0∧St W (mine W []) F w' F' [row qB.k 216 (.slice RA0_0 r.length rc0_0) r]
theorem qBi.calls(k:Nat)(x0_:List qA)(x1_:Int)(x2_:Int)(A0_0:Option Addr)(c0_0:Nat)(r:List qB)(W F:World)(hown:Sub F W)(g0_0:Rd qA.k F A0_0 c0_0 x0_)(H:qBi.f k x0_ x1_ x2_=some r):
    Calls Tryz.prog 227 #[.slice A0_0 x0_.length c0_0,iv x1_,iv x2_] W fun e w'=>∃ v,e = .returned v∧qBi.Post W F r v w':=by
 have hS:=St.start (Own.nil hown)
 unfold qBi.f at H
 refine enter (n:=10) rfl rfl rfl (Nat.le_of_ble_eq_true rfl) (fun a hE=>?_)
 refine sq fun K1 hK1=>pl0 (ple hE (.bx (t:=3) hS [iv x1_]) ?_)
 rintro _ u3 a ⟨b2,rfl,hb2,hS,hg⟩ hE
 refine ple hE (.bx (t:=3) hS [iv x2_]) ?_
 rintro _ u5 a ⟨b4,rfl,hb4,hS,hg⟩ hE
 refine plc hE (.r 2 1 .nil) (fun a hE=>pld (hK1 _ _ (sq fun K6 hK6=>pl0 (plc hE (.r 0 2 .nil) (fun a hE=>?_)))))
 replace hS:=hS.front 1 rfl
 obtain ⟨F7,hs,g8,hS⟩:=hS.giveb
 replace g0_0:=g0_0.mono hs
 obtain ⟨F9,hs,g10,hS⟩:=hS.giveb
 replace g0_0:=g0_0.mono hs
 replace g8:=hs _ _ _ _ g8
 obtain ⟨t12,h13,H⟩:=bd H
 refine ple hE (.cl en236 (qQ.calls k x0_ x1_ x2_ _ _ _ _ _ _ _ hS.own.sub g0_0 g8 g10 h13)) ?_
 rintro _ u11 a ⟨F14,A15,c16,rfl,hC⟩ hE
 have hs:=hC.sub
 replace hS:=hS.called (X:=[]) hC
 replace g0_0:=g0_0.mono hs
 replace g8:=hs _ _ _ _ g8
 replace g10:=hs _ _ _ _ g10
 refine plc hE (.r 3 1 .nil) (fun a hE=>pld (hK6 _ _ (wp_ret ?_)))
 obtain rfl:=si H
 exact rt1 hE ⟨_,rfl,_,_,_,rfl,hS⟩
def qBZ.l6:Nat→Int→Int→Option Int
 | 0,_,_=>none
 | k+1,x4,x5=>if x5<2 then (qBZ.l6 k (IntKind.u64.wrap ((IntKind.u64.wrap (((BitVec.ofInt 64 x4 ^^^ BitVec.ofInt 64 (x4.fdiv 4294967296)).toNat:Int))) * 15485907386658061715)) (w64 (x5+1))) else (some (IntKind.u64.wrap (((BitVec.ofInt 64 x4 ^^^ BitVec.ofInt 64 (x4.fdiv 4294967296)).toNat:Int))))
theorem qBZ.l6_s k x4 x5:type_of% (qBZ.l6.eq_2 x4 x5 k):=qBZ.l6.eq_2 x4 x5 k
def qBZ.f(k:Nat)(x0_:Int):Option Int:=qBZ.l6 k x0_ 0
def qBZ.Post(W F:World)(r:Int)(v:Value)(w':World):Prop:=∃(F':World),v = .int .u64 r∧St W (mine W []) F w' F' []
theorem qBZ.calls(k:Nat)(x0_:Int)(r:Int)(W F:World)(hown:Sub F W)(H:qBZ.f k x0_=some r):
    Calls Tryz.prog 250 #[.int .u64 x0_] W fun e w'=>∃ v,e = .returned v∧qBZ.Post W F r v w':=by
 have hS:=St.start (Own.nil hown)
 unfold qBZ.f at H
 refine enter (n:=16) rfl rfl rfl (Nat.le_of_ble_eq_true rfl) (fun a hE=>?_)
 refine rr hE fun a hE=>(sq fun K2 hK2=>rr hE fun a hE=>(wp_block ?_))
 refine wp_loop_ghost (fun kq7 a w'=>∃(G:Nat→Value)(x4:Int)(x5:Int),kq7≤k∧Env 16 G a∧At G [(0,.int .u64 x4),(3,iv x5)]∧St W (mine W []) F w' F []∧qBZ.l6 kq7 x4 x5=some r) k ⟨_,x0_,0,Nat.le_refl _,hE,.of,hS,H⟩ ?_
 rintro kq7 a u9 ⟨G,x4,x5,hkq,hE,hA,hS,H⟩
 obtain _ | k8:=kq7
 ·
  exact zz H
 rw [qBZ.l6_s]at H
 obtain ⟨J,hE⟩:=hE.at hA
 refine rr hE fun a hE=>(sq fun K11 hK11=>?_)
 refine hE.ik 4 H (fun c12 hE H=>?_) fun c12 hE H=>?_
 ·
  refine wp_skip (hK11 _ _ (sq fun K13 hK13=>wp_block (rr hE fun a hE=>(pl0 (plc hE (.r 0 3 .nil) (fun a hE=>pld ?_))))))
  refine qCF ?_
  refine hK13 _ _ (pl0 (plc hE (.r 0 2 .nil) (fun a hE=>pld ?_)))
  exact qCG ⟨k8,by omega,_,(IntKind.u64.wrap ((IntKind.u64.wrap (((BitVec.ofInt 64 x4 ^^^ BitVec.ofInt 64 (x4.fdiv 4294967296)).toNat:Int))) * 15485907386658061715)),(w64 (x5+1)),by omega,hE,.of,hS,H⟩
 refine wp_exit ?_
 refine hK2 _ _ (rr hE fun a hE=>(wp_ret ?_))
 obtain rfl:=si H
 exact rt1 hE ⟨_,rfl,_,rfl,hS⟩
def qBK.l10:Nat→List Int→Int→Int→Option Int
 | 0,_,_,_=>none
 | k+1,x1_,x8,x9=>if x9<(x1_.length:Int) then (if 0≤x9∧x9<(x1_.length:Int) then ((qBZ.f k (IntKind.u64.wrap ((IntKind.u64.wrap (((BitVec.ofInt 64 x8 ^^^ BitVec.ofInt 64 (nth 0 x1_ x9)).toNat:Int)))+11400714819323198485))).bind fun t25=>(qBK.l10 k x1_ t25 (w64 (x9+1)))) else (none)) else (some x8)
theorem qBK.l10_s k x1_ x8 x9:type_of% (qBK.l10.eq_2 x1_ x8 x9 k):=qBK.l10.eq_2 x1_ x8 x9 k
def qBK.f(k:Nat)(x0_:Int)(x1_:List Int):Option Int:=(qBZ.f k x0_).bind fun t4=>(qBK.l10 k x1_ t4 0)
def qBK.Post(W F:World)(r:Int)(v:Value)(w':World):Prop:=∃(F':World),v = .int .u64 r∧St W (mine W []) F w' F' []
theorem qBK.calls(k:Nat)(x0_:Int)(x1_:List Int)(A1_0:Option Addr)(c1_0:Nat)(r:Int)(W F:World)(hown:Sub F W)(g1_0:Rd (Kn.int .u64) F A1_0 c1_0 x1_)(H:qBK.f k x0_ x1_=some r):
    Calls Tryz.prog 229 #[.int .u64 x0_,.slice A1_0 x1_.length c1_0] W fun e w'=>∃ v,e = .returned v∧qBK.Post W F r v w':=by
 have hS:=St.start (Own.nil hown)
 unfold qBK.f at H
 refine enter (n:=23) rfl rfl rfl (Nat.le_of_ble_eq_true rfl) (fun a hE=>?_)
 refine rr hE fun a hE=>(sq fun K2 hK2=>pl0 (plc hE (.r 0 1 .nil) (fun a hE=>?_)))
 obtain ⟨t4,h5,H⟩:=bd H
 refine ple hE (.cl en250 (qBZ.calls k x0_ _ _ _ hS.own.sub h5)) ?_
 rintro _ u3 a ⟨_,rfl,hC⟩ hE
 replace hS:=hS.lent hC
 refine plc hE (.r 2 1 .nil) (fun a hE=>pld (hK2 _ _ (sq fun K6 hK6=>rr hE fun a hE=>(wp_block ?_))))
 refine wp_loop_ghost (fun kq11 a w'=>∃(G:Nat→Value)(x8:Int)(x9:Int),kq11≤k∧Env 23 G a∧At G [(5,.int .u64 x8),(10,.slice A1_0 x1_.length c1_0),(11,iv (x1_.length:Int)),(12,iv x9)]∧St W (mine W []) F w' F []∧qBK.l10 kq11 x1_ x8 x9=some r) k ⟨_,t4,0,Nat.le_refl _,hE,.of,hS,H⟩ ?_
 rintro kq11 a u13 ⟨G,x8,x9,hkq,hE,hA,hS,H⟩
 obtain _ | k12:=kq11
 ·
  exact zz H
 rw [qBK.l10_s]at H
 obtain ⟨J,hE⟩:=hE.at hA
 refine rr hE fun a hE=>(sq fun K15 hK15=>?_)
 refine hE.ik 13 H (fun c16 hE H=>?_) fun c16 hE H=>?_
 ·
  refine wp_skip (hK15 _ _ (sq fun K17 hK17=>wp_block (sq fun K18 hK18=>pl0 ?_)))
  obtain ⟨c19,H⟩:=gd H
  have hE_:=hE
  obtain ⟨ad20,rfl⟩:=g1_0.addr c19.1 c19.2
  replace hE:=hE_
  obtain ⟨cs22,rfl,hc23⟩:=g1_0.el 0 x9 c19.1 c19.2
  refine plc hE (.x 0 c19<|.c 1 (hS.fc hc23 0)<|.r 2 1<|.nil) (fun a hE=>pld (hK18 _ _ (pl0 (plc hE (.r 0 4 .nil) (fun a hE=>?_)))))
  obtain ⟨t25,h26,H⟩:=bd H
  refine ple hE (.cl en250 (qBZ.calls k12 (IntKind.u64.wrap ((IntKind.u64.wrap (((BitVec.ofInt 64 x8 ^^^ BitVec.ofInt 64 (nth 0 x1_ x9)).toNat:Int)))+11400714819323198485)) _ _ _ hS.own.sub h26)) ?_
  rintro _ u24 a ⟨_,rfl,hC⟩ hE
  replace hS:=hS.lent hC
  refine plc hE (.r 5 1 .nil) (fun a hE=>pld ?_)
  refine qCF ?_
  refine hK17 _ _ (pl0 (plc hE (.r 0 2 .nil) (fun a hE=>pld ?_)))
  exact qCG ⟨k12,by omega,_,t25,(w64 (x9+1)),by omega,hE,.of,hS,H⟩
 refine wp_exit ?_
 refine hK6 _ _ (rr hE fun a hE=>(wp_ret ?_))
 obtain rfl:=si H
 exact rt1 hE ⟨_,rfl,_,rfl,hS⟩
mutual
def qAd.l9:Nat→List qB→Int→Option Int
 | 0,_,_=>none
 | k+1,x0_,x8=>if x8<(x0_.length:Int) then (if 0≤x8∧x8<(x0_.length:Int) then (if (nth qB.z x0_ x8).f0<0 then (qAd.j37 k x0_ x8 true) else (if (nth qB.z x0_ x8).f0>2147483647 then (qAd.j37 k x0_ x8 true) else (if (nth qB.z x0_ x8).f1<0 then (qAd.j37 k x0_ x8 true) else (if (nth qB.z x0_ x8).f1>65536 then (qAd.j37 k x0_ x8 true) else (if x8>0 then (if 0≤(w64 (x8 - 1))∧(w64 (x8 - 1))<(x0_.length:Int) then (qAd.j37 k x0_ x8 (decide ((nth qB.z x0_ x8).f0≤(nth qB.z x0_ (w64 (x8 - 1))).f0))) else (none)) else (qAd.j37 k x0_ x8 false)))))) else (none)) else (some 0)
def qAd.j37:Nat→List qB→Int→Bool→Option Int
 | 0,_,_,_=>none
 | k+1,x0_,x8,y36=>if y36=true then (some 1) else (qAd.l9 k x0_ (w64 (x8+1)))
end
theorem qAd.l9_s k x0_ x8:type_of% (qAd.l9.eq_2 x0_ x8 k):=qAd.l9.eq_2 x0_ x8 k
theorem qAd.j37_s k x0_ x8 y36:type_of% (qAd.j37.eq_2 x0_ x8 y36 k):=qAd.j37.eq_2 x0_ x8 y36 k
def qAd.f(k:Nat)(x0_:List qB):Option Int:=if (x0_.length:Int)>64 then (some 1) else (qAd.l9 k x0_ 0)
def qAd.Post(W F:World)(r:Int)(v:Value)(w':World):Prop:=∃(F':World),v=iv r∧St W (mine W []) F w' F' []
theorem qAd.calls(k:Nat)(x0_:List qB)(A0_0:Option Addr)(c0_0:Nat)(r:Int)(W F:World)(hown:Sub F W)(g0_0:Rd qB.k F A0_0 c0_0 x0_)(H:qAd.f k x0_=some r):
    Calls Tryz.prog 243 #[.slice A0_0 x0_.length c0_0] W fun e w'=>∃ v,e = .returned v∧qAd.Post W F r v w':=by
 have hS:=St.start (Own.nil hown)
 unfold qAd.f at H
 refine enter (n:=49) rfl rfl rfl (Nat.le_of_ble_eq_true rfl) (fun a hE=>?_)
 refine rr hE fun a hE=>(sq fun K2 hK2=>rr hE fun a hE=>?_)
 refine hE.ik 7 H (fun c4 hE H=>?_) fun c4 hE H=>?_
 ·
  refine rr hE fun a hE=>(wp_ret (qCD ?_))
  obtain rfl:=si H
  exact rt1 hE ⟨_,rfl,_,rfl,hS⟩
 refine wp_skip (hK2 _ _ (sq fun K6 hK6=>rr hE fun a hE=>(wp_block ?_)))
 refine wp_loop_ghost (fun kq10 a w'=>∃(G:Nat→Value)(x8:Int),kq10≤k∧Env 49 G a∧At G [(0,.slice A0_0 x0_.length c0_0),(8,.slice A0_0 x0_.length c0_0),(9,iv (x0_.length:Int)),(10,iv x8)]∧St W (mine W []) F w' F []∧qAd.l9 kq10 x0_ x8=some r) k ⟨_,0,Nat.le_refl _,hE,.of,hS,H⟩ ?_
 rintro kq10 a u12 ⟨G,x8,hkq,hE,hA,hS,H⟩
 obtain _ | k11:=kq10
 ·
  exact zz H
 rw [qAd.l9_s]at H
 obtain ⟨J,hE⟩:=hE.at hA
 refine rr hE fun a hE=>(sq fun K14 hK14=>?_)
 refine hE.ik 11 H (fun c15 hE H=>?_) fun c15 hE H=>?_
 ·
  refine wp_skip (hK14 _ _ (sq fun K16 hK16=>wp_block (sq fun K17 hK17=>pl0 ?_)))
  obtain ⟨c18,H⟩:=gd H
  have hE_:=hE
  obtain ⟨ad19,rfl⟩:=g0_0.addr c18.1 c18.2
  replace hE:=hE_
  obtain ⟨cs21,rfl,hc22⟩:=g0_0.el qB.z x8 c18.1 c18.2
  refine plc hE (.r 0 1<|.x 1 c18<|.cs 2 (hS.fcs hc22)<|.nil) (fun a hE=>ple hE (.al (t:=216) hS [iv 0,iv 0]) ?_)
  rintro _ u24 a ⟨b23,rfl,hb23,hS,hg⟩ hE
  refine plc hE (.r 4 1 .nil) (fun a hE=>ple hE (.sto hS [iv ((nth qB.z x0_ x8).f0),iv ((nth qB.z x0_ x8).f1)]) ?_)
  rintro _ u25 a ⟨rfl,hb23,hS,hz⟩ hE
  refine pld (hK17 _ _ (sq fun K26 hK26=>?_))
  have J40:∀ kq38,kq38≤k11→∀(G:Nat→Value)(y36:Bool)(a:Act)(w':World),Env 49 G a→At G [(0,.slice (some ad19) x0_.length c0_0),(8,.slice (some ad19) x0_.length c0_0),(9,iv (x0_.length:Int)),(10,iv x8),(47,.bool y36)]→St W (mine W []) F w' F [box b23 #[iv ((nth qB.z x0_ x8).f0),iv ((nth qB.z x0_ x8).f1)] 216]→qAd.j37 kq38 x0_ x8 y36=some r→K26 a w':=by
   intro kq38 hkq G y36 a u41 hE hA hS H
   obtain _ | k39:=kq38
   ·
    exact zz H
   rw [qAd.j37_s]at H
   obtain ⟨J,hE⟩:=hE.at hA
   refine hK26 _ _ ?_
   refine hE.ib 47 H (fun c42 hE H=>?_) fun c42 hE H=>?_
   ·
    refine rr hE fun a hE=>(wp_ret (qCE (qCD (qCD (qCE (qCD ?_))))))
    replace hS:=hS.tail
    obtain rfl:=si H
    exact rt1 hE ⟨_,rfl,_,rfl,hS⟩
   refine wp_skip ?_
   refine qCF ?_
   refine hK16 _ _ (pl0 (plc hE (.r 0 2 .nil) (fun a hE=>pld ?_)))
   replace hS:=hS.tail
   exact qCG ⟨k39,by omega,_,(w64 (x8+1)),by omega,hE,.of,hS,H⟩
  refine drawn 33 ⟨[],[],fun q=>False⟩ mixed rfl (by kernel_rfl) (fun hst=>?_)
  replace hS:=hS.drew
  have hb23:=hS.ba 0
  refine mny 29 hst hE (.r 0 1<|.b 1 0 hb23<|.r 2 2<|.nil) (fun a hE=>?_)
  rcases sp H with ⟨c27,H⟩ | ⟨c27,H⟩
  ·
   replace hE:=hE.kt 18 c27
   refine mny 0 hst hE (.r 4 29 .nil) (fun a hE=>?_)
   refine dn ?_
   exact J40 _ (by omega) _ true _ _ hE .of hS H
  replace hE:=hE.kf 18 c27
  refine mny 24 hst hE (.r 4 1<|.b 5 0 hb23<|.r 6 3<|.nil) (fun a hE=>?_)
  rcases sp H with ⟨c28,H⟩ | ⟨c28,H⟩
  ·
   replace hE:=hE.kt 23 c28
   refine mny 0 hst hE (.r 9 24 .nil) (fun a hE=>?_)
   refine dn ?_
   exact J40 _ (by omega) _ true _ _ hE .of hS H
  replace hE:=hE.kf 23 c28
  refine mny 19 hst hE (.r 9 1<|.b 10 1 hb23<|.r 11 3<|.nil) (fun a hE=>?_)
  rcases sp H with ⟨c29,H⟩ | ⟨c29,H⟩
  ·
   replace hE:=hE.kt 28 c29
   refine mny 0 hst hE (.r 14 19 .nil) (fun a hE=>?_)
   refine dn ?_
   exact J40 _ (by omega) _ true _ _ hE .of hS H
  replace hE:=hE.kf 28 c29
  refine mny 14 hst hE (.r 14 1<|.b 15 1 hb23<|.r 16 3<|.nil) (fun a hE=>?_)
  rcases sp H with ⟨c30,H⟩ | ⟨c30,H⟩
  ·
   replace hE:=hE.kt 33 c30
   refine mny 0 hst hE (.r 19 14 .nil) (fun a hE=>?_)
   refine dn ?_
   exact J40 _ (by omega) _ true _ _ hE .of hS H
  replace hE:=hE.kf 33 c30
  refine mny 11 hst hE (.r 19 3 .nil) (fun a hE=>?_)
  rcases sp H with ⟨c31,H⟩ | ⟨c31,H⟩
  ·
   replace hE:=hE.kt 36 c31
   obtain ⟨c32,H⟩:=gd H
   obtain ⟨cs34,rfl,hc35⟩:=g0_0.el qB.z (w64 (x8 - 1)) c32.1 c32.2
   refine mny 0 hst hE (.r 22 1<|.b 23 0 hb23<|.r 24 3<|.x 27 c32<|.r 28 1<|.c 29 (hS.fc hc35 0)<|.r 30 3<|.nil) (fun a hE=>?_)
   refine dn ?_
   exact J40 _ (by omega) _ (decide ((nth qB.z x0_ x8).f0≤(nth qB.z x0_ (w64 (x8 - 1))).f0)) _ _ hE .of hS H
  replace hE:=hE.kf 36 c31
  refine mny 0 hst hE (.r 22 11 .nil) (fun a hE=>?_)
  refine dn ?_
  exact J40 _ (by omega) _ false _ _ hE .of hS H
 refine wp_exit ?_
 refine hK6 _ _ (rr hE fun a hE=>(wp_ret ?_))
 obtain rfl:=si H
 exact rt1 hE ⟨_,rfl,_,rfl,hS⟩
def qAZ.f(x0_:List qB):Option (List qB):=if ((([]:List qB).length:Int)+(x0_.length:Int)) * 16≤140737488355328 then (some (([]:List qB)++x0_)) else (none)
def qAZ.Post(W F:World)(r:List qB)(v:Value)(w':World):Prop:=∃(F':World)(RA0_0:Option Addr)(rc0_0:Nat),v = .slice RA0_0 r.length rc0_0∧St W (mine W []) F w' F' [row qB.k 216 (.slice RA0_0 r.length rc0_0) r]
theorem qAZ.calls(x0_:List qB)(A0_0:Option Addr)(c0_0:Nat)(r:List qB)(W F:World)(hown:Sub F W)(g0_0:Rd qB.k F A0_0 c0_0 x0_)(H:qAZ.f x0_=some r):
    Calls Tryz.prog 245 #[.slice A0_0 x0_.length c0_0] W fun e w'=>∃ v,e = .returned v∧qAZ.Post W F r v w':=by
 have hS:=St.start (Own.nil hown)
 unfold qAZ.f at H
 refine enter (n:=8) rfl rfl rfl (Nat.le_of_ble_eq_true rfl) (fun a hE=>?_)
 rcases A0_0 with _ | ad1
 ·
  have hnil:=g0_0.none_nil
  replace H:(some [])=some r:=by simpa [hnil] using H
  refine rr hE fun a hE=>(sq fun K3 hK3=>rr hE fun a hE=>(ct hE (rr hE fun a hE=>(wp_ret (qCD ?_)))))
  replace hS:=hS.nilrow qB.k 216
  obtain rfl:=si H
  exact rt1 hE ⟨_,rfl,_,_,_,rfl,hS⟩
 refine rr hE fun a hE=>(sq fun K8 hK8=>rr hE fun a hE=>(cf hE (wp_skip (hK8 _ _ (sq fun K10 hK10=>pl0 (ple hE (.lit (d:=qB.k) (e:=216) hS ([]:List qB) (.nil)) ?_))))))
 rintro _ u11 a ⟨A12,c13,rfl,hS,hg⟩ hE
 refine plc hE (.r 1 1 .nil) (fun a hE=>?_)
 obtain ⟨c15,H⟩:=gd H
 refine ple hE (.ap (d:=qB.k) 16 hS (g0_0.src hS.own.sub) c15 c0_0) ?_
 rintro _ u18 a ⟨A16,c17,rfl,hS,hz⟩ hE
 refine plc hE (.r 3 1 .nil) (fun a hE=>pld (hK10 _ _ (wp_ret ?_)))
 obtain rfl:=si H
 exact rt1 hE ⟨_,rfl,_,_,_,rfl,hS⟩
def qBa.f(x0_:qB):Option Bool:=some (x0_.f1 == 0)
def qBa.Post(W F:World)(r:Bool)(v:Value)(w':World):Prop:=∃(F':World),v = .bool r∧St W (mine W []) F w' F' []
theorem qBa.calls(x0_:qB)(r:Bool)(W F:World)(hown:Sub F W)(H:qBa.f x0_=some r):
    Calls Tryz.prog 246 #[.agg #[iv x0_.f0,iv x0_.f1]] W fun e w'=>∃ v,e = .returned v∧qBa.Post W F r v w':=by
 have hS:=St.start (Own.nil hown)
 unfold qBa.f at H
 refine enter (n:=6) rfl rfl rfl (Nat.le_of_ble_eq_true rfl) (fun a hE=>?_)
 refine sq fun K1 hK1=>pl0 (ple hE (.bx (t:=216) hS [iv x0_.f0,iv x0_.f1]) ?_)
 rintro _ u3 a ⟨b2,rfl,hb2,hS,hg⟩ hE
 refine plc hE (.r 1 1 .nil) (fun a hE=>pld (hK1 _ _ (rg hE (.r 0 1<|.b 1 1 hb2<|.r 2 2<|.nil) fun a hE=>(wp_ret ?_))))
 replace hS:=hS.tail
 obtain rfl:=si H
 exact rt1 hE ⟨_,rfl,_,rfl,hS⟩
def qL.l5:Nat→List qB→Int→Option Int
 | 0,_,_=>none
 | k+1,x0_,x4=>if x4<(x0_.length:Int) then (if 0≤x4∧x4<(x0_.length:Int) then ((qBa.f (⟨(nth qB.z x0_ x4).f0,(nth qB.z x0_ x4).f1⟩:qB)).bind fun t21=>(if t21=true then (some x4) else (qL.l5 k x0_ (w64 (x4+1))))) else (none)) else (some (-1))
theorem qL.l5_s k x0_ x4:type_of% (qL.l5.eq_2 x0_ x4 k):=qL.l5.eq_2 x0_ x4 k
def qL.f(k:Nat)(x0_:List qB):Option Int:=qL.l5 k x0_ 0
def qL.Post(W F:World)(r:Int)(v:Value)(w':World):Prop:=∃(F':World),v=iv r∧St W (mine W []) F w' F' []
theorem qL.calls(k:Nat)(x0_:List qB)(A0_0:Option Addr)(c0_0:Nat)(r:Int)(W F:World)(hown:Sub F W)(g0_0:Rd qB.k F A0_0 c0_0 x0_)(H:qL.f k x0_=some r):
    Calls Tryz.prog 257 #[.slice A0_0 x0_.length c0_0,.func (.func 246) #[] #[]] W fun e w'=>∃ v,e = .returned v∧qL.Post W F r v w':=by
 have hS:=St.start (Own.nil hown)
 unfold qL.f at H
 refine enter (n:=19) rfl rfl rfl (Nat.le_of_ble_eq_true rfl) (fun a hE=>?_)
 refine rr hE fun a hE=>(sq fun K2 hK2=>rr hE fun a hE=>(wp_block ?_))
 refine wp_loop_ghost (fun kq6 a w'=>∃(G:Nat→Value)(x4:Int),kq6≤k∧Env 19 G a∧At G [(0,.slice A0_0 x0_.length c0_0),(1,.func (.func 246) #[] #[]),(7,iv (x0_.length:Int)),(8,iv x4)]∧St W (mine W []) F w' F []∧qL.l5 kq6 x0_ x4=some r) k ⟨_,0,Nat.le_refl _,hE,.of,hS,H⟩ ?_
 rintro kq6 a u8 ⟨G,x4,hkq,hE,hA,hS,H⟩
 obtain _ | k7:=kq6
 ·
  exact zz H
 rw [qL.l5_s]at H
 obtain ⟨J,hE⟩:=hE.at hA
 refine rr hE fun a hE=>(sq fun K10 hK10=>?_)
 refine hE.ik 9 H (fun c11 hE H=>?_) fun c11 hE H=>?_
 ·
  refine wp_skip (hK10 _ _ (sq fun K12 hK12=>wp_block (rr hE fun a hE=>(sq fun K14 hK14=>pl0 ?_))))
  obtain ⟨c15,H⟩:=gd H
  have hE_:=hE
  obtain ⟨ad16,rfl⟩:=g0_0.addr c15.1 c15.2
  replace hE:=hE_
  obtain ⟨cs18,rfl,hc19⟩:=g0_0.el qB.z x4 c15.1 c15.2
  refine plc hE (.r 0 3<|.x 3 c15<|.cs 4 (hS.fcs hc19)<|.nil) (fun a hE=>?_)
  obtain ⟨t21,h22,H⟩:=bd H
  refine ple hE (.cl en246 (qBa.calls (⟨(nth qB.z x0_ x4).f0,(nth qB.z x0_ x4).f1⟩:qB) _ _ _ hS.own.sub h22)) ?_
  rintro _ u20 a ⟨_,rfl,hC⟩ hE
  replace hS:=hS.lent hC
  refine pld (hK14 _ _ ?_)
  refine hE.ib 16 H (fun c23 hE H=>?_) fun c23 hE H=>?_
  ·
   refine rr hE fun a hE=>(wp_ret (qCE (qCD (qCD (qCE (qCD ?_))))))
   obtain rfl:=si H
   exact rt1 hE ⟨_,rfl,_,rfl,hS⟩
  refine wp_skip ?_
  refine qCF ?_
  refine hK12 _ _ (pl0 (plc hE (.r 0 2 .nil) (fun a hE=>pld ?_)))
  exact qCG ⟨k7,by omega,_,(w64 (x4+1)),by omega,hE,.of,hS,H⟩
 refine wp_exit ?_
 refine hK2 _ _ (rr hE fun a hE=>(wp_ret ?_))
 obtain rfl:=si H
 exact rt1 hE ⟨_,rfl,_,rfl,hS⟩
def qN.l15:Nat→List qB→List qB→Int→Int→Option (List qB)
 | 0,_,_,_,_=>none
 | k+1,x0_,l12,x13,x14=>if x14<(x0_.length:Int) then (if 0≤x14∧x14<(x0_.length:Int) then ((qBa.f (⟨(nth qB.z l12 x14).f0,(nth qB.z l12 x14).f1⟩:qB)).bind fun t36=>(if t36=true then (qN.l15 k x0_ l12 x13 (w64 (x14+1))) else (if 0≤x13∧x13<(x0_.length:Int) then (qN.l15 k x0_ (l12.set (x13).toNat (⟨(nth qB.z l12 x14).f0,(nth qB.z l12 x14).f1⟩:qB)) (w64 (x13+1)) (w64 (x14+1))) else (none)))) else (none)) else (if 0≤x13∧x13≤(x0_.length:Int) then (some (cutl (l12.take (x13).toNat++List.replicate (x0_.length - (x13).toNat) qB.z) 0 x13)) else (none))
theorem qN.l15_s k x0_ l12 x13 x14:type_of% (qN.l15.eq_2 x0_ l12 x13 x14 k):=qN.l15.eq_2 x0_ l12 x13 x14 k
def qN.f(k:Nat)(x0_:List qB):Option (List qB):=(qL.f k x0_).bind fun t4=>(if t4=(-1) then (some x0_) else (qN.l15 k x0_ x0_ t4 (w64 (t4+1))))
def qN.Post(x0_:List qB)(A0_0:Option Addr)(c0_0:Nat)(W F:World)(r:List qB)(v:Value)(w':World):Prop:=∃(F':World)(RA0_0:Option Addr)(rc0_0:Nat),v = .slice RA0_0 r.length rc0_0∧St W (mine W [row qB.k 216 (.slice A0_0 x0_.length c0_0) x0_]) F w' F' [row qB.k 216 (.slice RA0_0 r.length rc0_0) r]
theorem qN.calls(k:Nat)(x0_:List qB)(A0_0:Option Addr)(c0_0:Nat)(r:List qB)(W F:World)(hown:Own W F [row qB.k 216 (.slice A0_0 x0_.length c0_0) x0_])(H:qN.f k x0_=some r):
    Calls Tryz.prog 244 #[.slice A0_0 x0_.length c0_0,.func (.func 246) #[] #[]] W fun e w'=>∃ v,e = .returned v∧qN.Post x0_ A0_0 c0_0 W F r v w':=by
 have hS:=St.start hown
 obtain ⟨N,hN⟩:∃ N,N=mine W [row qB.k 216 (.slice A0_0 x0_.length c0_0) x0_]:=⟨_,rfl⟩
 rw [← hN]at hS
 unfold qN.f at H
 refine enter (n:=42) rfl rfl rfl (Nat.le_of_ble_eq_true rfl) (fun a hE=>?_)
 refine rr hE fun a hE=>(sq fun K2 hK2=>pl0 (plc hE (.r 0 2 .nil) (fun a hE=>?_)))
 obtain ⟨t4,h5,H⟩:=bd H
 refine ple hE (.cl en257 (qL.calls k x0_ _ _ _ _ _ (Sub.refl _) (hS.rd_at (i:=0) rfl) h5)) ?_
 rintro _ u3 a ⟨_,rfl,hC⟩ hE
 replace hS:=hS.lent hC
 refine plc hE (.r 3 1 .nil) (fun a hE=>pld (hK2 _ _ (sq fun K6 hK6=>rr hE fun a hE=>?_)))
 refine hE.ik 12 H (fun c8 hE H=>?_) fun c8 hE H=>?_
 ·
  refine rr hE fun a hE=>(wp_ret (qCD ?_))
  rw [hN]at hS
  obtain rfl:=si H
  exact rt1 hE ⟨_,rfl,_,_,_,rfl,hS⟩
 refine wp_skip (hK6 _ _ (sq fun K10 hK10=>rr hE fun a hE=>(wp_block ?_)))
 refine wp_loop_ghost (fun kq16 a w'=>∃(G:Nat→Value)(l12:List qB)(x13:Int)(x14:Int),kq16≤k∧Env 42 G a∧At G [(0,.slice A0_0 x0_.length c0_0),(1,.func (.func 246) #[] #[]),(5,iv x13),(6,iv x14)]∧St W N F w' F [row qB.k 216 (.slice A0_0 x0_.length c0_0) l12]∧qN.l15 kq16 x0_ l12 x13 x14=some r) k ⟨_,x0_,t4,(w64 (t4+1)),Nat.le_refl _,hE,.of,hS,H⟩ ?_
 rintro kq16 a u18 ⟨G,l12,x13,x14,hkq,hE,hA,hS,H⟩
 obtain _ | k17:=kq16
 ·
  exact zz H
 rw [qN.l15_s]at H
 obtain ⟨J,hE⟩:=hE.at hA
 refine sq fun K19 hK19=>rr hE fun a hE=>?_
 refine hE.ik 19 H (fun c21 hE H=>?_) fun c21 hE H=>?_
 ·
  refine wp_skip (hK19 _ _ (sq fun K22 hK22=>wp_block (sq fun K23 hK23=>pl0 ?_)))
  obtain ⟨c24,H⟩:=gd H
  have hr25:=hS.ra 0
  have c26:0≤x14∧x14<(l12.length:Int):=by rw [← (qCH hr25).1]; exact c24
  have hE_:=hE
  obtain ⟨b27,rfl⟩:=qCK hr25 c26.1 c26.2
  replace hE:=hE_
  have hr_:=hS.ra 0
  obtain ⟨cs29,rfl,hc30⟩:=qCI hr_ qB.z x14 c26.1 c26.2
  refine plc hE (.r 0 2<|.x 2 c24<|.cs 3 hc30<|.nil) (fun a hE=>ple hE (.al (t:=216) hS [iv 0,iv 0]) ?_)
  rintro _ u32 a ⟨b31,rfl,hb31,hS,hg⟩ hE
  refine ple hE (.sto hS [iv ((nth qB.z l12 x14).f0),iv ((nth qB.z l12 x14).f1)]) ?_
  rintro _ u33 a ⟨rfl,hb31,hS,hz⟩ hE
  refine pld (hK23 _ _ (sq fun K34 hK34=>pl0 (plc hE (.r 0 1<|.bn 1 0 2 hb31<|.nil) (fun a hE=>?_))))
  obtain ⟨t36,h37,H⟩:=bd H
  refine ple hE (.cl en246 (qBa.calls (⟨(nth qB.z l12 x14).f0,(nth qB.z l12 x14).f1⟩:qB) _ _ _ hS.own.sub h37)) ?_
  rintro _ u35 a ⟨_,rfl,hC⟩ hE
  replace hS:=hS.lent hC
  refine plc hE (.r 3 1 .nil) (fun a hE=>pld (hK34 _ _ ?_))
  refine hE.ibn 29 H (fun c38 hE H=>?_) fun c38 hE H=>?_
  ·
   refine wp_skip ?_
   refine qCF ?_
   refine hK22 _ _ (pl0 (plc hE (.r 0 3 .nil) (fun a hE=>pld ?_)))
   replace hS:=hS.tail
   exact qCG ⟨k17,by omega,_,l12,x13,(w64 (x14+1)),by omega,hE,.of,hS,H⟩
  refine sq fun K39 hK39=>pl0 ?_
  have hb31:=hS.ba 0
  obtain ⟨c40,H⟩:=gd H
  have hr41:=hS.ra 1
  have c42:0≤x13∧x13<(l12.length:Int):=by rw [← (qCH hr41).1]; exact c40
  have hr_:=hS.ra 1
  obtain ⟨cs44,rfl,hc45⟩:=qCI hr_ qB.z x13 c42.1 c42.2
  refine plc hE (.r 0 2<|.bn 2 0 2 hb31<|.x 3 c40<|.nil) (fun a hE=>?_)
  replace hS:=hS.front 1 rfl
  obtain ⟨cs47,rfl,hc48⟩:=qCI (hS.row_at (i:=0) rfl) qB.z x13 c42.1 c42.2
  refine ple hE (.set (d:=qB.k) (n:=x0_.length) (i:=x13) (⟨(nth qB.z l12 x14).f0,(nth qB.z l12 x14).f1⟩:qB) (0) (ea0 _ _) hS c42 [iv ((nth qB.z l12 x13).f0),iv ((nth qB.z l12 x13).f1)] hc48 [iv ((nth qB.z l12 x14).f0),iv ((nth qB.z l12 x14).f1)] rfl) ?_
  rintro _ u46 a ⟨rfl,hS,hz⟩ hE
  refine pld (hK39 _ _ (pl0 (plc hE (.r 0 3 .nil) (fun a hE=>pld ?_))))
  refine qCF ?_
  refine hK22 _ _ (pl0 (plc hE (.r 0 3 .nil) (fun a hE=>pld ?_)))
  replace hS:=hS.pm [0] 2
  exact qCG ⟨k17,by omega,_,(l12.set (x13).toNat (⟨(nth qB.z l12 x14).f0,(nth qB.z l12 x14).f1⟩:qB)),(w64 (x13+1)),(w64 (x14+1)),by omega,hE,.of,hS,H⟩
 refine wp_exit ?_
 refine hK10 _ _ (sq fun K49 hK49=>pl0 ?_)
 obtain ⟨c50,H⟩:=gd H
 obtain ⟨A51,c52,hA53,hv54⟩:=y_suf (P:=Tryz.prog) (k:=.i64) (hS.row_at (i:=0) rfl) c50
 refine plc hE (.r 0 2<|.y 2 (hv54 (by kernel_rfl))<|.nil) (fun a hE=>ple hE (.clr (d:=qB.k) (n:=x0_.length) (c':=c52) (lo:=x13) 16 qB.z hS c50 hA53 (by rw [zr216]; exact rfl)) ?_)
 rintro _ u55 a ⟨rfl,hS,hz⟩ hE
 refine pld (hK49 _ _ (sq fun K56 hK56=>pl0 ?_))
 have hv57:=hS.ra 0
 replace hS:=hS.shrink c50
 refine plc hE (.r 0 2<|.y 2 (y_pre (k:=.i64) hv57 c50)<|.r 3 1<|.nil) (fun a hE=>pld (hK56 _ _ (wp_ret ?_)))
 rw [hN]at hS
 obtain rfl:=si H
 exact rt1 hE ⟨_,rfl,_,_,_,rfl,hS⟩
end Go.Proofs.YtpohepinmjmbkaaGreat.QD
