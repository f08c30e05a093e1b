import Derived.Test.YtpohepinmjmbkaaGreatMM1
namespace Go.Proofs.YtpohepinmjmbkaaGreat.MM
open Go Go.RowKit Go.Proofs.YtpohepinmjmbkaaGreat.Sl
set_option linter.unusedVariables false
set_option linter.unusedSimpArgs false
set_option maxHeartbeats 4000000
set_option maxRecDepth 100000
def qAc.j23:Nat→Int→qb→Bool→Option (Int × Bool)
 | 0,_,_,_=>none
 | k+1,x,y,y22=>if x=(-1) then (some (y.f1,false)) else (if y22=true then (if y.f2≥1 then (some (y.f1,(decide (y.f2≤12)))) else (some (y.f1,false))) else (some (y.f1,false)))
theorem qAc.j23_s k x y y22:type_of% (qAc.j23.eq_2 x y y22 k):=qAc.j23.eq_2 x y y22 k
def qAc.f(k:Nat)(x:Int)(y:qb):Option (Int × Bool):=if y.f0=1 then (if x=(-1) then (if y.f1=0 then (some (0,(y.f2 == 0))) else (some (0,false))) else (some (0,false))) else (if y.f0=3 then (if x=3 then (if y.f1=0 then (some ((-1),(y.f2 == 0))) else (some ((-1),false))) else (some ((-1),false))) else (if y.f0=2 then (if y.f1>x then (if y.f1≤3 then (if y.f1=2 then (qAc.j23 k x y (x == 1)) else (qAc.j23 k x y true)) else (qAc.j23 k x y false)) else (qAc.j23 k x y false)) else (some ((-1),false))))
def qAc.Post(W F:World)(r:Int × Bool)(v:Value)(w':World):Prop:=∃(F':World),v = .tuple #[iv r.1,.bool r.2]∧Sm W F w' F' []
theorem qAc.calls(k:Nat)(x:Int)(y:qb)(r:Int × Bool)(W F:World)(hown:Sub F W)(H:qAc.f k x y=some r):
    Cr 224 #[iv x,.agg #[iv y.f0,iv y.f1,iv y.f2]] W (qAc.Post W F r):=by
 have S:=St.start (Own.nil hown)
 unfold qAc.f at H
 refine ent 74 rfl rfl rfl (fun a E=>?_)
 refine sq fun K1 hK1=>pl0 (ple E (.bx (t:=175) S [iv y.f0,iv y.f1,iv y.f2]) ?_)
 rintro _ u3 a ⟨b2,rfl,hb2,S,hg⟩ E
 refine plc E (.r 1 2 .nil) (fun a E=>pld (hK1 _ _ (sq fun K4 hK4=>rg E (.r 0 1<|.b 1 0 hb2<|.nil) fun a E=>(wp_block (rr E fun a E=>?_)))))
 refine E.ik 9 H (fun c7 E H=>?_) fun c7 E H=>?_
 ·
  refine sq fun K8 hK8=>?_
  refine drawn 14 ⟨[],[],fun q=>False⟩ mixed rfl (by kernel_rfl) (fun hst=>?_)
  replace S:=S.drew
  refine mny 11 hst E (.r 0 3 .nil) (fun a E=>?_)
  rcases sp H with ⟨c9,H⟩ | ⟨c9,H⟩
  ·
   replace E:=E.kt 13 c9
   have hb2:=S.ba 0
   refine mny 5 hst E (.r 3 1<|.b 4 1 hb2<|.r 5 3<|.r 12 1<|.nil) (fun a E=>?_)
   rcases sp H with ⟨c10,H⟩ | ⟨c10,H⟩
   ·
    replace E:=E.kt 18 c10
    refine mny 0 hst E (.r 8 1<|.b 9 2 hb2<|.r 10 2<|.r 13 1<|.nil) (fun a E=>?_)
    refine dn ?_
    refine hK8 _ _ (wp_ret (qBc (qBb ?_)))
    replace S:=S.tail
    obtain rfl:=si H
    exact rtN E ⟨_,rfl,_,rfl,S⟩
   replace E:=E.kf 18 c10
   refine mny 0 hst E (.r 8 4<|.r 13 1<|.nil) (fun a E=>?_)
   refine dn ?_
   refine hK8 _ _ (wp_ret (qBc (qBb ?_)))
   replace S:=S.tail
   obtain rfl:=si H
   exact rtN E ⟨_,rfl,_,rfl,S⟩
  replace E:=E.kf 13 c9
  refine mny 0 hst E (.r 3 11 .nil) (fun a E=>?_)
  refine dn ?_
  refine hK8 _ _ (wp_ret (qBc (qBb ?_)))
  replace S:=S.tail
  obtain rfl:=si H
  exact rtN E ⟨_,rfl,_,rfl,S⟩
 refine rr E fun a E=>?_
 refine E.ik 23 H (fun c12 E H=>?_) fun c12 E H=>?_
 ·
  refine sq fun K13 hK13=>?_
  refine drawn 14 ⟨[],[],fun q=>False⟩ mixed rfl (by kernel_rfl) (fun hst=>?_)
  replace S:=S.drew
  refine mny 11 hst E (.r 0 3 .nil) (fun a E=>?_)
  rcases sp H with ⟨c14,H⟩ | ⟨c14,H⟩
  ·
   replace E:=E.kt 27 c14
   have hb2:=S.ba 0
   refine mny 5 hst E (.r 3 1<|.b 4 1 hb2<|.r 5 3<|.r 12 1<|.nil) (fun a E=>?_)
   rcases sp H with ⟨c15,H⟩ | ⟨c15,H⟩
   ·
    replace E:=E.kt 32 c15
    refine mny 0 hst E (.r 8 1<|.b 9 2 hb2<|.r 10 2<|.r 13 1<|.nil) (fun a E=>?_)
    refine dn ?_
    refine hK13 _ _ (wp_ret (qBc (qBb ?_)))
    replace S:=S.tail
    obtain rfl:=si H
    exact rtN E ⟨_,rfl,_,rfl,S⟩
   replace E:=E.kf 32 c15
   refine mny 0 hst E (.r 8 4<|.r 13 1<|.nil) (fun a E=>?_)
   refine dn ?_
   refine hK13 _ _ (wp_ret (qBc (qBb ?_)))
   replace S:=S.tail
   obtain rfl:=si H
   exact rtN E ⟨_,rfl,_,rfl,S⟩
  replace E:=E.kf 27 c14
  refine mny 0 hst E (.r 3 11 .nil) (fun a E=>?_)
  refine dn ?_
  refine hK13 _ _ (wp_ret (qBc (qBb ?_)))
  replace S:=S.tail
  obtain rfl:=si H
  exact rtN E ⟨_,rfl,_,rfl,S⟩
 refine rr E fun a E=>?_
 refine E.ik 37 H (fun c17 E H=>?_) fun c17 E H=>?_
 ·
  refine sq fun K18 hK18=>?_
  have J26:∀ kq24,kq24≤k→∀(G:NV)(y22:Bool)(a:Act)(w':World),Env 74 G a→At G [(0,iv x),(3,.pointer (pb b2)),(6,.bool y22)]→Sm W F w' F [box b2 #[iv y.f0,iv y.f1,iv y.f2] 175]→qAc.j23 kq24 x y y22=some r→K18 a w':=by
   intro kq24 hkq G y22 a u27 E A S H
   obtain _ | k25:=kq24
   ·
    exact zz H
   rw [qAc.j23_s]at H
   obtain ⟨J,E⟩:=E.at A
   refine hK18 _ _ (sq fun K28 hK28=>?_)
   refine drawn 19 ⟨[],[],fun q=>False⟩ mixed rfl (by kernel_rfl) (fun hst=>?_)
   replace S:=S.drew
   have hb2:=S.ba 0
   refine mny 14 hst E (.r 0 1<|.b 1 1 hb2<|.r 2 3<|.nil) (fun a E=>?_)
   rcases sp H with ⟨c29,H⟩ | ⟨c29,H⟩
   ·
    replace E:=E.ktn 61 c29
    refine mny 0 hst E (.r 5 14 .nil) (fun a E=>?_)
    refine dn ?_
    refine hK28 _ _ (wp_ret (qBc (qBb ?_)))
    replace S:=S.tail
    obtain rfl:=si H
    exact rtN E ⟨_,rfl,_,rfl,S⟩
   replace E:=E.kfn 61 c29
   refine mny 11 hst E (.r 5 3 .nil) (fun a E=>?_)
   rcases sp H with ⟨c30,H⟩ | ⟨c30,H⟩
   ·
    replace E:=E.bt 64 c30
    refine mny 5 hst E (.r 8 1<|.b 9 2 hb2<|.r 10 3<|.r 17 1<|.nil) (fun a E=>?_)
    rcases sp H with ⟨c31,H⟩ | ⟨c31,H⟩
    ·
     replace E:=E.kt 69 c31
     refine mny 0 hst E (.r 13 1<|.b 14 2 hb2<|.r 15 2<|.r 18 1<|.nil) (fun a E=>?_)
     refine dn ?_
     refine hK28 _ _ (wp_ret (qBc (qBb ?_)))
     replace S:=S.tail
     obtain rfl:=si H
     exact rtN E ⟨_,rfl,_,rfl,S⟩
    replace E:=E.kf 69 c31
    refine mny 0 hst E (.r 13 4<|.r 18 1<|.nil) (fun a E=>?_)
    refine dn ?_
    refine hK28 _ _ (wp_ret (qBc (qBb ?_)))
    replace S:=S.tail
    obtain rfl:=si H
    exact rtN E ⟨_,rfl,_,rfl,S⟩
   replace E:=E.bf 64 c30
   refine mny 0 hst E (.r 8 11 .nil) (fun a E=>?_)
   refine dn ?_
   refine hK28 _ _ (wp_ret (qBc (qBb ?_)))
   replace S:=S.tail
   obtain rfl:=si H
   exact rtN E ⟨_,rfl,_,rfl,S⟩
  refine pl0 (plc E (.r 0 1<|.b 1 1 hb2<|.r 2 3<|.nil) (fun a E=>?_))
  rcases sp H with ⟨c19,H⟩ | ⟨c19,H⟩
  ·
   replace E:=E.kt 43 c19
   refine plc E (.r 5 1<|.b 6 1 hb2<|.r 7 3<|.nil) (fun a E=>?_)
   rcases sp H with ⟨c20,H⟩ | ⟨c20,H⟩
   ·
    replace E:=E.kt 48 c20
    refine plc E (.r 10 1<|.b 11 1 hb2<|.r 12 2<|.nil) (fun a E=>?_)
    rcases sp H with ⟨c21,H⟩ | ⟨c21,H⟩
    ·
     replace E:=E.ktn 52 c21
     refine plc E (.r 14 5 .nil) (fun a E=>pld ?_)
     exact J26 _ (by omega) _ (x == 1) _ _ E .of S H
    replace E:=E.kfn 52 c21
    refine plc E (.r 14 5 .nil) (fun a E=>pld ?_)
    exact J26 _ (by omega) _ true _ _ E .of S H
   replace E:=E.kf 48 c20
   refine plc E (.r 10 9 .nil) (fun a E=>pld ?_)
   exact J26 _ (by omega) _ false _ _ E .of S H
  replace E:=E.kf 43 c19
  refine plc E (.r 5 14 .nil) (fun a E=>pld ?_)
  exact J26 _ (by omega) _ false _ _ E .of S H
 refine wp_skip ?_
 refine qBd ?_
 refine hK4 _ _ (rr E fun a E=>(wp_ret ?_))
 replace S:=S.tail
 obtain rfl:=si H
 exact rtN E ⟨_,rfl,_,rfl,S⟩
mutual
def qAR.j6:Nat→List qb→Bool→Option Int
 | 0,_,_=>none
 | k+1,x,y5=>if y5=true then (some 1) else (qAR.l18 k x (-1) 0)
def qAR.l18:Nat→List qb→Int→Int→Option Int
 | 0,_,_,_=>none
 | k+1,x,x16,x17=>if x17<(x.length:Int) then (if 0≤x17∧x17<(x.length:Int) then ((qAc.f k x16 (nth qb.z x x17)).bind fun t37=>(if t37.2=true then (qAR.l18 k x t37.1 (w64 (x17+1))) else (some 1))) else (none)) else (some 0)
end
theorem qAR.j6_s k x y5:type_of% (qAR.j6.eq_2 x y5 k):=qAR.j6.eq_2 x y5 k
theorem qAR.l18_s k x x16 x17:type_of% (qAR.l18.eq_2 x x16 x17 k):=qAR.l18.eq_2 x x16 x17 k
def qAR.f(k:Nat)(x:List qb):Option Int:=if (x.length:Int)=0 then (qAR.j6 k x true) else (qAR.j6 k x (decide ((x.length:Int)>8)))
def qAR.Post(W F:World)(r:Int)(v:Value)(w':World):Prop:=∃(F':World),v=iv r∧Sm W F w' F' []
theorem qAR.calls(k:Nat)(x:List qb)(A0_0:OA)(c0_0:Nat)(r:Int)(W F:World)(hown:Sub F W)(g0_0:Rd qb.k F A0_0 c0_0 x)(H:qAR.f k x=some r):
    Cr 203 #[.slice A0_0 x.length c0_0] W (qAR.Post W F r):=by
 have S:=St.start (Own.nil hown)
 unfold qAR.f at H
 refine ent 32 rfl rfl rfl (fun a E=>?_)
 refine rr E fun a E=>(sq fun K2 hK2=>sq fun K3 hK3=>?_)
 have J9:∀ kq7,kq7≤k→∀(G:NV)(y5:Bool)(a:Act)(w':World),Env 32 G a→At G [(0,.slice A0_0 x.length c0_0),(15,.bool y5)]→Sm W F w' F []→qAR.j6 kq7 x y5=some r→K3 a w':=by
  intro kq7 hkq G y5 a u10 E A S H
  obtain _ | k8:=kq7
  ·
   exact zz H
  rw [qAR.j6_s]at H
  obtain ⟨J,E⟩:=E.at A
  refine hK3 _ _ ?_
  refine E.ib 15 H (fun c11 E H=>?_) fun c11 E H=>?_
  ·
   refine rr E fun a E=>(wp_ret (qBb ?_))
   obtain rfl:=si H
   exact rt1 E ⟨_,rfl,_,rfl,S⟩
  refine wp_skip (hK2 _ _ (rr E fun a E=>(sq fun K14 hK14=>rr E fun a E=>(wp_block ?_))))
  refine wp_loop_ghost (fun kq19 a w'=>∃(G:NV)(x16:Int)(x17:Int),kq19≤k8∧Env 32 G a∧At G [(3,iv x16),(16,.slice A0_0 x.length c0_0),(17,iv (x.length:Int)),(18,iv x17)]∧Sm W F w' F []∧qAR.l18 kq19 x x16 x17=some r) k8 ⟨_,(-1),0,Nat.le_refl _,E,.of,S,H⟩ ?_
  rintro kq19 a u21 ⟨G,x16,x17,hkq,E,A,S,H⟩
  obtain _ | k20:=kq19
  ·
   exact zz H
  rw [qAR.l18_s]at H
  obtain ⟨J,E⟩:=E.at A
  refine rr E fun a E=>(sq fun K23 hK23=>?_)
  refine E.ik 19 H (fun c24 E H=>?_) fun c24 E H=>?_
  ·
   refine wp_skip (hK23 _ _ (sq fun K25 hK25=>wp_block (sq fun K26 hK26=>pl0 ?_)))
   obtain ⟨c27,H⟩:=gd H
   have hE_:=E
   obtain ⟨ad28,rfl⟩:=g0_0.addr c27.1 c27.2
   replace E:=hE_
   obtain ⟨cs30,rfl,hc31⟩:=g0_0.el qb.z x17 c27.1 c27.2
   refine plc E (.x 0 c27<|.cs 1 (S.fcs hc31)<|.nil) (fun a E=>ple E (.al (t:=175) S [iv 0,iv 0,iv 0]) ?_)
   rintro _ u33 a ⟨b32,rfl,hb32,S,hg⟩ E
   refine ple E (.sto S [iv ((nth qb.z x x17).f0),iv ((nth qb.z x x17).f1),iv ((nth qb.z x x17).f2)]) ?_
   rintro _ u34 a ⟨rfl,hb32,S,hz⟩ E
   refine pld (hK26 _ _ (sq fun K35 hK35=>pl0 (plc E (.r 0 1<|.bn 1 0 3 hb32<|.nil) (fun a E=>?_))))
   obtain ⟨t37,h38,H⟩:=bd H
   refine ple E (.cl en224 (qAc.calls k20 x16 (nth qb.z x x17) _ _ _ S.own.sub h38)) ?_
   rintro _ u36 a ⟨_,rfl,hC⟩ E
   replace S:=S.lent hC
   refine plc E (.r 3 5 .nil) (fun a E=>pld (hK35 _ _ (sq fun K39 hK39=>rr E fun a E=>?_)))
   refine E.ibn 29 H (fun c41 E H=>?_) fun c41 E H=>?_
   ·
    refine wp_skip (hK39 _ _ (pl0 (plc E (.r 0 2 .nil) (fun a E=>pld ?_))))
    refine qBd ?_
    refine hK25 _ _ (pl0 (plc E (.r 0 2 .nil) (fun a E=>pld ?_)))
    replace S:=S.tail
    exact qBf ⟨k20,by omega,_,t37.1,(w64 (x17+1)),by omega,E,.of,S,H⟩
   refine rr E fun a E=>(wp_ret (qBb (qBc (qBb (qBb (qBc (qBb ?_)))))))
   replace S:=S.tail
   obtain rfl:=si H
   exact rt1 E ⟨_,rfl,_,rfl,S⟩
  refine wp_exit ?_
  refine hK14 _ _ (rr E fun a E=>(wp_ret ?_))
  obtain rfl:=si H
  exact rt1 E ⟨_,rfl,_,rfl,S⟩
 refine pl0 (plc E (.r 0 4 .nil) (fun a E=>?_))
 rcases sp H with ⟨c4,H⟩ | ⟨c4,H⟩
 ·
  replace E:=E.kt 11 c4
  refine plc E (.r 4 4 .nil) (fun a E=>pld ?_)
  exact J9 _ (by omega) _ true _ _ E .of S H
 replace E:=E.kf 11 c4
 refine plc E (.r 4 4 .nil) (fun a E=>pld ?_)
 exact J9 _ (by omega) _ (decide ((x.length:Int)>8)) _ _ E .of S H
def qAo.f(x:qB)(y:Int):Option Int:=(qAW.f x.f0 y).bind fun t6=>(some t6)
def qAo.Post(W F:World)(r:Int)(v:Value)(w':World):Prop:=∃(F':World),v=iv r∧Sm W F w' F' []
theorem qAo.calls(x:qB)(y:Int)(r:Int)(W F:World)(hown:Sub F W)(H:qAo.f x y=some r):
    Cr 255 #[.agg #[iv x.f0,iv x.f1],iv y] W (qAo.Post W F r):=by
 have S:=St.start (Own.nil hown)
 unfold qAo.f at H
 refine ent 9 rfl rfl rfl (fun a E=>?_)
 refine sq fun K1 hK1=>pl0 (ple E (.bx (t:=216) S [iv x.f0,iv x.f1]) ?_)
 rintro _ u3 a ⟨b2,rfl,hb2,S,hg⟩ E
 refine plc E (.r 1 1 .nil) (fun a E=>pld (hK1 _ _ (sq fun K4 hK4=>pl0 (plc E (.r 0 1<|.b 1 0 hb2<|.r 2 1<|.nil) (fun a E=>?_)))))
 obtain ⟨t6,h7,H⟩:=bd H
 refine ple E (.cl en161 (qAW.calls x.f0 y _ _ _ S.own.sub h7)) ?_
 rintro _ u5 a ⟨_,rfl,hC⟩ E
 replace S:=S.lent hC
 refine plc E (.r 4 1 .nil) (fun a E=>pld (hK4 _ _ (wp_ret ?_)))
 replace S:=S.tail
 obtain rfl:=si H
 exact rt1 E ⟨_,rfl,_,rfl,S⟩
def qBB.f(x:qA):Option Bool:=some true
def qBB.Post(W F:World)(r:Bool)(v:Value)(w':World):Prop:=∃(F':World),v = .bool r∧Sm W F w' F' []
theorem qBB.calls(x:qA)(r:Bool)(W F:World)(hown:Sub F W)(H:qBB.f x=some r):
    Cr 237 #[.agg #[iv x.f0,iv x.f1,iv x.f2,iv x.f3,.bool x.f4,.bool x.f5]] W (qBB.Post W F r):=by
 have S:=St.start (Own.nil hown)
 unfold qBB.f at H
 refine ent 3 rfl rfl rfl (fun a E=>?_)
 refine sq fun K1 hK1=>pl0 (ple E (.bx (t:=104) S [iv x.f0,iv x.f1,iv x.f2,iv x.f3,.bool x.f4,.bool x.f5]) ?_)
 rintro _ u3 a ⟨b2,rfl,hb2,S,hg⟩ E
 refine plc E (.r 1 1 .nil) (fun a E=>pld (hK1 _ _ (rr E fun a E=>(wp_ret ?_))))
 replace S:=S.tail
 obtain rfl:=si H
 exact rt1 E ⟨_,rfl,_,rfl,S⟩
def qAp.f(x:qA):Option Int:=some x.f1
def qAp.Post(W F:World)(r:Int)(v:Value)(w':World):Prop:=∃(F':World),v=iv r∧Sm W F w' F' []
theorem qAp.calls(x:qA)(r:Int)(W F:World)(hown:Sub F W)(H:qAp.f x=some r):
    Cr 238 #[.agg #[iv x.f0,iv x.f1,iv x.f2,iv x.f3,.bool x.f4,.bool x.f5]] W (qAp.Post W F r):=by
 have S:=St.start (Own.nil hown)
 unfold qAp.f at H
 refine ent 5 rfl rfl rfl (fun a E=>?_)
 refine sq fun K1 hK1=>pl0 (ple E (.bx (t:=104) S [iv x.f0,iv x.f1,iv x.f2,iv x.f3,.bool x.f4,.bool x.f5]) ?_)
 rintro _ u3 a ⟨b2,rfl,hb2,S,hg⟩ E
 refine plc E (.r 1 1 .nil) (fun a E=>pld (hK1 _ _ (rg E (.r 0 1<|.b 1 1 hb2<|.r 2 1<|.nil) fun a E=>(wp_ret ?_))))
 replace S:=S.tail
 obtain rfl:=si H
 exact rt1 E ⟨_,rfl,_,rfl,S⟩
def qG.l7:Nat→List qB→Int→Int→Int→Option (Int × Bool)
 | 0,_,_,_,_=>none
 | k+1,x,y,x5,x6=>if x5<x6 then (if 0≤(w64 ((IntKind.u64.wrap (w64 (x5+x6))).fdiv 2))∧(w64 ((IntKind.u64.wrap (w64 (x5+x6))).fdiv 2))<(x.length:Int) then ((qAo.f (nth qB.z x (w64 ((IntKind.u64.wrap (w64 (x5+x6))).fdiv 2))) y).bind fun t22=>(if t22<0 then (qG.l7 k x y (w64 ((w64 ((IntKind.u64.wrap (w64 (x5+x6))).fdiv 2))+1)) x6) else (qG.l7 k x y x5 (w64 ((IntKind.u64.wrap (w64 (x5+x6))).fdiv 2))))) else (none)) else (if x5<(x.length:Int) then (if 0≤x5∧x5<(x.length:Int) then ((qAo.f (nth qB.z x x5) y).bind fun t33=>(some (x5,(t33 == 0)))) else (none)) else (some (x5,false)))
theorem qG.l7_s k x y x5 x6:type_of% (qG.l7.eq_2 x y x5 x6 k):=qG.l7.eq_2 x y x5 x6 k
def qG.f(k:Nat)(x:List qB)(y:Int):Option (Int × Bool):=qG.l7 k x y 0 (x.length:Int)
def qG.Post(W F:World)(r:Int × Bool)(v:Value)(w':World):Prop:=∃(F':World),v = .tuple #[iv r.1,.bool r.2]∧Sm W F w' F' []
theorem qG.calls(k:Nat)(x:List qB)(y:Int)(A0_0:OA)(c0_0:Nat)(r:Int × Bool)(W F:World)(hown:Sub F W)(g0_0:Rd qB.k F A0_0 c0_0 x)(H:qG.f k x y=some r):
    Cr 254 #[.slice A0_0 x.length c0_0,iv y,.func (.func 255) #[] #[]] W (qG.Post W F r):=by
 have S:=St.start (Own.nil hown)
 unfold qG.f at H
 refine ent 49 rfl rfl rfl (fun a E=>?_)
 refine rr E fun a E=>(rr E fun a E=>(rr E fun a E=>(sq fun K4 hK4=>wp_block ?_)))
 refine wp_loop_ghost (fun kq8 a w'=>∃(G:NV)(x5:Int)(x6:Int),kq8≤k∧Env 49 G a∧At G [(0,.slice A0_0 x.length c0_0),(1,iv y),(2,.func (.func 255) #[] #[]),(8,iv (x.length:Int)),(9,iv x5),(10,iv x6)]∧Sm W F w' F []∧qG.l7 kq8 x y x5 x6=some r) k ⟨_,0,(x.length:Int),Nat.le_refl _,E,.of,S,H⟩ ?_
 rintro kq8 a u10 ⟨G,x5,x6,hkq,E,A,S,H⟩
 obtain _ | k9:=kq8
 ·
  exact zz H
 rw [qG.l7_s]at H
 obtain ⟨J,E⟩:=E.at A
 refine sq fun K11 hK11=>rr E fun a E=>?_
 refine E.ik 17 H (fun c13 E H=>?_) fun c13 E H=>?_
 ·
  refine wp_skip (hK11 _ _ (wp_block (rr E fun a E=>(sq fun K15 hK15=>pl0 ?_))))
  obtain ⟨c16,H⟩:=gd H
  have hE_:=E
  obtain ⟨ad17,rfl⟩:=g0_0.addr c16.1 c16.2
  replace E:=hE_
  obtain ⟨cs19,rfl,hc20⟩:=g0_0.el qB.z (w64 ((IntKind.u64.wrap (w64 (x5+x6))).fdiv 2)) c16.1 c16.2
  refine plc E (.r 0 3<|.x 3 c16<|.cs 4 (S.fcs hc20)<|.r 5 1<|.nil) (fun a E=>?_)
  obtain ⟨t22,h23,H⟩:=bd H
  refine ple E (.cl en255 (qAo.calls (nth qB.z x (w64 ((IntKind.u64.wrap (w64 (x5+x6))).fdiv 2))) y _ _ _ S.own.sub h23)) ?_
  rintro _ u21 a ⟨_,rfl,hC⟩ E
  replace S:=S.lent hC
  refine plc E (.r 7 1 .nil) (fun a E=>pld (hK15 _ _ ?_))
  refine E.ik 31 H (fun c24 E H=>?_) fun c24 E H=>?_
  ·
   refine pl0 (plc E (.r 0 3 .nil) (fun a E=>pld ?_))
   refine qBd ?_
   exact qBf ⟨k9,by omega,_,(w64 ((w64 ((IntKind.u64.wrap (w64 (x5+x6))).fdiv 2))+1)),x6,by omega,E,.of,S,H⟩
  refine pl0 (plc E (.r 0 2 .nil) (fun a E=>pld ?_))
  refine qBd ?_
  exact qBf ⟨k9,by omega,_,x5,(w64 ((IntKind.u64.wrap (w64 (x5+x6))).fdiv 2)),by omega,E,.of,S,H⟩
 refine wp_exit ?_
 refine hK4 _ _ (sq fun K25 hK25=>pl0 (plc E (.r 0 5 .nil) (fun a E=>?_)))
 rcases sp H with ⟨c26,H⟩ | ⟨c26,H⟩
 ·
  replace E:=E.kt 39 c26
  obtain ⟨c27,H⟩:=gd H
  have hE_:=E
  obtain ⟨ad28,rfl⟩:=g0_0.addr c27.1 c27.2
  replace E:=hE_
  obtain ⟨cs30,rfl,hc31⟩:=g0_0.el qB.z x5 c27.1 c27.2
  refine plc E (.r 5 3<|.x 8 c27<|.cs 9 (S.fcs hc31)<|.r 10 1<|.nil) (fun a E=>?_)
  obtain ⟨t33,h34,H⟩:=bd H
  refine ple E (.cl en255 (qAo.calls (nth qB.z x x5) y _ _ _ S.own.sub h34)) ?_
  rintro _ u32 a ⟨_,rfl,hC⟩ E
  replace S:=S.lent hC
  refine plc E (.r 12 4 .nil) (fun a E=>pld (hK25 _ _ (wp_ret ?_)))
  obtain rfl:=si H
  exact rtN E ⟨_,rfl,_,rfl,S⟩
 replace E:=E.kf 39 c26
 refine plc E (.r 5 11 .nil) (fun a E=>pld (hK25 _ _ (wp_ret ?_)))
 obtain rfl:=si H
 exact rtN E ⟨_,rfl,_,rfl,S⟩
def qq.f(x0_:List qB)(x1_:Int)(x2_:List qB):Option (List qB):=match x2_ with
 | [x]=>if 0≤x1_∧x1_≤(x0_.length:Int)∧x0_.length≤1000000 then some (x0_.take x1_.toNat++x :: x0_.drop x1_.toNat) else none
 | _=>none
def qq.Post(x0_:List qB)(x1_:Int)(x2_:List qB)(A0_0:Option Addr)(c0_0:Nat)(A2_0:Option Addr)(c2_0:Nat)(W F:World)(r:List qB)(v:Value)(w':World):Prop:=∃(F':World)(RA0_0:Option Addr)(rc0_0:Nat),v = .slice RA0_0 r.length rc0_0∧St W (mine W [row qB.k 216 (.slice A0_0 x0_.length c0_0) x0_,row qB.k 216 (.slice A2_0 x2_.length c2_0) x2_]) F w' F' [row qB.k 216 (.slice RA0_0 r.length rc0_0) r]
set_option maxHeartbeats 4000000 in
set_option maxRecDepth 100000 in
theorem qq.calls(x0_:List qB)(x1_:Int)(x2_:List qB)(A0_0:Option Addr)(c0_0:Nat)(A2_0:Option Addr)(c2_0:Nat)(r:List qB)(W F:World)(hown:Own W F [row qB.k 216 (.slice A0_0 x0_.length c0_0) x0_,row qB.k 216 (.slice A2_0 x2_.length c2_0) x2_])(H:qq.f x0_ x1_ x2_=some r):
  Calls Tryz.prog 256 #[.slice A0_0 x0_.length c0_0,iv x1_,.slice A2_0 x2_.length c2_0] W fun e w'=>∃ v,e = .returned v∧qq.Post x0_ x1_ x2_ A0_0 c0_0 A2_0 c2_0 W F r v w':=by
 have hS:=St.start hown
 unfold qq.f at H
 rcases x2_ with _ | ⟨x,_ | ⟨y,l⟩⟩
 ·cases H
 rotate_left
 ·cases H
 replace H:(if 0≤x1_∧x1_≤(x0_.length:Int)∧x0_.length≤1000000 then some (x0_.take x1_.toNat++x :: x0_.drop x1_.toNat) else none)=some r:=H
 by_cases hc:0≤x1_∧x1_≤(x0_.length:Int)∧x0_.length≤1000000
 rotate_left
 ·rw [if_neg hc]at H; cases H
 rw [if_pos hc]at H
 have hr:=Option.some.inj H
 clear H
 obtain ⟨h0,h1,hm⟩:=hc
 obtain ⟨j,rfl⟩:∃ j:Nat,x1_=j:=⟨x1_.toNat,by omega⟩
 simp only [Int.toNat_natCast]at hr
 refine enter (n:=95) rfl rfl rfl (Nat.le_of_ble_eq_true rfl) (fun a hE=>?_)
 obtain ⟨A12,c12,hA12,hv12⟩:=y_suf (P:=Tryz.prog) (k:=.i64) (hS.row_at (i:=0) rfl) ⟨h0,h1⟩
 refine sq fun K0 hK0=>?_
 refine pl0 ?_
 refine plc hE (.r 0 1 .nil) (fun a hE=>?_)
 refine pld ?_
 refine hK0 _ _ ?_
 refine sq fun K1 hK1=>?_
 refine pl0 ?_
 refine plc hE (.r 0 2<|.y 2 (hv12 (by kernel_rfl)) .nil) (fun a hE=>?_)
 refine pld ?_
 refine hK1 _ _ ?_
 refine sq fun K2 hK2=>?_
 refine pl0 ?_
 refine plc hE (.r 0 3 .nil) (fun a hE=>?_)
 refine pld ?_
 refine hK2 _ _ ?_
 refine sq fun K3 hK3=>?_
 refine sq fun K4 hK4=>?_
 refine pl0 ?_
 refine plc hE (.r 0 2 .nil) (fun a hE=>?_)
 refine pld ?_
 refine hK4 _ _ ?_
 refine cf hE ?_
 refine wp_skip ?_
 refine hK3 _ _ ?_
 refine sq fun K5 hK5=>?_
 refine pl0 ?_
 refine plc hE (.r 0 3 .nil) (fun a hE=>?_)
 refine pld ?_
 refine hK5 _ _ ?_
 refine sq fun K6 hK6=>?_
 refine sq fun K7 hK7=>?_
 refine pl0 ?_
 refine plc hE (.r 0 3 .nil) (fun a hE=>?_)
 refine pld ?_
 refine hK7 _ _ ?_
 by_cases hi:(j:Int)=(x0_.length:Int)
 ·replace hE:=hE.kt 22 hi
  refine ct hE ?_
  obtain rfl:j=x0_.length:=by omega
  obtain rfl:x0_++[x]=r:=by rw [← hr]; simp
  refine sq fun K8 hK8=>?_
  refine pl0 ?_
  refine plc hE (.r 0 2 .nil) (fun a hE=>?_)
  refine ple hE (.ap (d:=qB.k) 16 hS (qCG (hS.row_at (i:=1) rfl)) (by simp only [List.length_cons,List.length_nil]; omega) c2_0) ?_
  rintro _ w1 a ⟨A1,c1,rfl,hS,hz⟩ hE
  refine plc hE (.r 3 1 .nil) (fun a hE=>?_)
  refine pld ?_
  refine hK8 _ _ ?_
  refine wp_ret (qBb ?_)
  replace hS:=hS.front 1 rfl
  replace hS:=hS.tail
  exact rt1 hE ⟨_,rfl,F,_,_,rfl,hS⟩
 replace hE:=hE.kf 22 hi
 refine cf hE ?_
 refine wp_skip ?_
 refine hK6 _ _ ?_
 have hlt:j<x0_.length:=by omega
 have hxc:x0_.length≤c0_0∧c0_0≤maxLen:=by
  obtain ⟨_,q1,q2,_⟩:=qBe (hS.row_at (i:=0) rfl)
  exact ⟨q1,q2⟩
 have hxc2:[x].length≤c2_0:=(qBe (hS.row_at (i:=1) rfl)).2.1
 have hE_:=hE
 obtain ⟨g,cur,rfl,hsz,hrep,hS⟩:=hS.unrow (by omega)
 replace hS:=hS.front 1 rfl
 obtain ⟨g2,cur2,rfl,hsz2,hrep2,hS⟩:=hS.unrow (by simp)
 replace hE:=hE_
 have hne:g2≠g:=hS.ne (i:=0) (j:=1) rfl rfl (by decide)
 obtain ⟨cs,hcs⟩:∃ cs,cs=cur2.toList.take 2:=⟨_,rfl⟩
 have hx:(qB.k).K F x cs:=by
  have h5:=hrep2.2 0 x rfl
  rw [Nat.zero_mul,List.drop_zero,List.take_take]at h5
  rw [hcs]
  exact h5
 have hcl:cs.length=2:=(qB.k).len hx
 have hcget:∀ q u,cs[q]? = some u→cur2[q]? = some u:=fun q u hq=>by
  rw [hcs,List.getElem?_take]at hq
  split at hq
  ·rwa [Array.getElem?_toList]at hq
  ·cases hq
 have hcone:∀ u ∈ cs,u.oneCell'=true:=(qB.k).one hx
 obtain ⟨inner,hin⟩:∃ inner,inner=cur.toList.take (x0_.length * 2):=⟨_,rfl⟩
 replace hrep:RepsK qB.k F x0_ inner:=by rw [hin]; exact hrep
 have hil:inner.length=x0_.length * 2:=hrep.1
 have hione:∀ u ∈ inner.drop (j * 2),u.oneCell'=true:=fun u hu=>hrep.one u (List.mem_of_mem_drop hu)
 have hidl:(inner.drop (j * 2)).length=(x0_.length - j) * 2:=by rw [List.length_drop,hil,Nat.sub_mul]
 have higet:∀ q u,(inner.drop (j * 2))[q]? = some u→cur[j * 2+q]? = some u:=fun q u hq=>by
  rw [List.getElem?_drop,hin,List.getElem?_take]at hq
  split at hq
  ·rwa [Array.getElem?_toList]at hq
  ·cases hq
 replace hsz:cur.size=c0_0 * 2:=hsz
 have hw1:w64 ((x0_.length:Int)+(([x].length:Nat):Int))=((x0_.length+1:Nat):Int):=by
  simp only [List.length_cons,List.length_nil]
  rw [qBl (by omega) (by omega)]
  omega
 have hw2:w64 ((j:Int)+(([x].length:Nat):Int))=((j+1:Nat):Int):=by
  simp only [List.length_cons,List.length_nil]
  rw [qBl (by omega) (by omega)]
  omega
 refine sq fun K9 hK9=>?_
 refine sq fun K10 hK10=>?_
 refine pl0 ?_
 refine plc hE (.r 0 4<|.y 4 (y_cap (A:=some ⟨g,0,none⟩) (n:=x0_.length) (c:=c0_0))<|.r 5 1 .nil) (fun a hE=>?_)
 refine pld ?_
 refine hK10 _ _ ?_
 by_cases hroom:w64 ((x0_.length:Int)+(([x].length:Nat):Int))>(c0_0:Int)
 ·replace hE:=hE.kt 31 hroom
  rw [hw1]at hroom
  refine ct hE ?_
  have hw3:w64 (w64 ((x0_.length:Int)+(([x].length:Nat):Int)) - (j:Int))=((x0_.length+1 - j:Nat):Int):=by
   rw [hw1,qBl (by omega) (by omega)]
   omega
  refine sq fun K11 hK11=>?_
  refine pl0 ?_
  refine plc hE (.r 0 2<|.y 2 (y_hi (e:=216) (z:=2) (g:=g) (n:=x0_.length) (c:=c0_0) (k:=.i64) (hi:=(j:Int)) ⟨by omega,by omega⟩)<|.r 3 5 .nil) (fun a hE=>?_)
  refine ple hE (.gro (e:=216) (g:=g) (c:=c0_0) (j:=j) (z:=2) (bytes:=16) (k:=w64 (w64 ((x0_.length:Int)+(([x].length:Nat):Int)) - (j:Int))) hS (hS.ba 1) (by omega) (by omega) (by rw [hsz]; exact Nat.mul_le_mul_right _ (by omega)) (by rw [hw3]; omega) (by kernel_rfl)) ?_
  rintro _ w1 a ⟨b,arr,cc,rfl,has,hc1,hc2,hpre,hS,hag⟩ hE
  rw [hw3]at hc1 hE
  have hnb:g2≠b:=hS.ne (i:=1) (j:=0) rfl rfl (by decide)
  have hgb:g≠b:=hS.ne (i:=2) (j:=0) rfl rfl (by decide)
  have hk3:j+((x0_.length+1 - j:Nat):Int).toNat=x0_.length+1:=by rw [Int.toNat_natCast]; omega
  rw [hk3]at hc1 hE
  have hpi:arr.toList.take (j * 2)=inner.take (j * 2):=by
   rw [hpre,hin,List.take_take,Nat.min_eq_left (Nat.mul_le_mul_right _ (by omega))]
  obtain ⟨s1,s2,s3⟩:=qCc (sz:=2) (n:=x0_.length) (i:=j) (cap:=cc) (c0:=arr.toList) (inner:=inner) (cs:=cs) hpi hil hcl (by omega) hc1 (by rw [Array.length_toList]; exact has)
  obtain ⟨C1,hC1⟩:∃ C1,C1=arr.toList.take (j * 2)++cs++arr.toList.drop (j * 2+cs.length):=⟨_,rfl⟩
  rw [← hC1]at s1 s2 s3
  obtain ⟨C2,hC2⟩:∃ C2,C2=C1.take ((j+1) * 2)++inner.drop (j * 2)++C1.drop ((j+1) * 2+(inner.drop (j * 2)).length):=⟨_,rfl⟩
  rw [← hC2]at s1 s2
  refine plc hE (.r 9 1 .nil) (fun a hE=>?_)
  refine pld ?_
  refine hK11 _ _ ?_
  refine sq fun K12 hK12=>?_
  refine pl0 ?_
  refine plc hE (.r 0 2<|.y 2 (y_lo (e:=216) (z:=2) (g:=b) (n:=x0_.length+1) (c:=cc) (k:=.i64) (lo:=(j:Int)) ⟨by omega,by omega⟩ (by omega))<|.r 3 1 .nil) (fun a hE=>?_)
  have hb2:=hS.ba 1
  have hbg:=hS.ba 2
  have hmin1:Nat.min [x].length (x0_.length+1 - (j:Int).toNat)=1:=by
   rw [Int.toNat_natCast]
   simp only [List.length_cons,List.length_nil]
   exact Nat.min_eq_left (by omega)
  refine ple hE (.cpy (e:=216) (z:=2) (off:=(j:Int).toNat * 2) (dn:=x0_.length+1 - (j:Int).toNat) (dc:=cc - (j:Int).toNat) (sn:=[x].length) (sc:=c2_0) (sa:=⟨g2,0,none⟩) hS cs (by rw [hmin1,hcl]) (fun q u hq=>by rw [qBm,Nat.zero_add]; exact qBk hb2 (hcget q u hq)) hcone (by
   rw [Int.toNat_natCast,has,hcl]
   have:=Nat.mul_le_mul_right 2 (show j+1≤cc by omega)
   omega) (by kernel_rfl)) ?_
  rintro _ w2 a ⟨rfl,hS,hz,hnew,hoth⟩ hE
  simp only [Int.toNat_natCast]at hS hnew
  rw [← hC1]at hS hnew
  refine pld ?_
  refine hK12 _ _ ?_
  refine sq fun K13 hK13=>?_
  refine drawn 9 ⟨[8],[],fun q=>False⟩ mixed rfl (by kernel_rfl) (fun hst=>?_)
  replace hS:=hS.drew
  have hbg2:=hS.ba 2
  refine mny 1 hst hE (.r 0 4<|.y 4 (y_lo (e:=216) (z:=2) (g:=b) (n:=x0_.length+1) (c:=cc) (k:=.i64) (lo:=w64 ((j:Int)+(([x].length:Nat):Int))) ⟨by omega,by omega⟩ (by omega))<|.r 5 2<|.y 7 (y_lo (e:=216) (z:=2) (g:=g) (n:=x0_.length) (c:=c0_0) (k:=.i64) (lo:=(j:Int)) ⟨by omega,by omega⟩ (by omega)) .nil) (fun a hE=>?_)
  refine on1 8 hE (.cpy (e:=216) (z:=2) (off:=(w64 ((j:Int)+(([x].length:Nat):Int))).toNat * 2) (dn:=x0_.length+1 - (w64 ((j:Int)+(([x].length:Nat):Int))).toNat) (dc:=cc - (w64 ((j:Int)+(([x].length:Nat):Int))).toNat) (sn:=x0_.length - (j:Int).toNat) (sc:=c0_0 - (j:Int).toNat) (sa:=⟨g,(j:Int).toNat * 2,none⟩) hS (inner.drop (j * 2)) (by
   rw [hw2,Int.toNat_natCast,Int.toNat_natCast,hidl,show x0_.length+1 - (j+1)=x0_.length - j by omega]
   congr 1
   exact (Nat.min_self _).symm) (fun q u hq=>by rw [qBm,Int.toNat_natCast]; exact qBk hbg2 (higet q u hq)) hione (by
   rw [hw2,Int.toNat_natCast,hidl,List.size_toArray,s3,← Nat.add_mul]
   exact Nat.mul_le_mul_right _ (by omega)) (by kernel_rfl)) ?_
  rintro _ w3 a ⟨rfl,hS,hz,hnew,hoth⟩ hE
  refine ⟨.d,?_⟩
  refine dn ?_
  rw [hw2,Int.toNat_natCast]at hS
  simp only [List.toList_toArray]at hS
  rw [← hC2]at hS
  refine hK13 _ _ ?_
  refine sq fun K14 hK14=>?_
  refine pl0 ?_
  refine plc hE (.r 0 2 .nil) (fun a hE=>?_)
  refine pld ?_
  refine hK14 _ _ ?_
  refine wp_ret (qBb ?_)
  have hrl:r.length=x0_.length+1:=by rw [← hr]; simp; omega
  have hrr:RepsK qB.k F r (C2.toArray.toList.take (r.length * (qB.k).sz)):=by
   rw [hrl]
   show RepsK qB.k F r (C2.take ((x0_.length+1) * 2))
   rw [s1,← hr]
   exact qBw hrep hx (by omega) rfl
  have hS2:=hS.rerow (c:=cc) r (show C2.toArray.size=cc * 2 by simpa using s2) (by omega) hc2 hrr
  replace hS2:=hS2.front 1 rfl
  replace hS2:=hS2.tail
  replace hS2:=hS2.front 1 rfl
  replace hS2:=hS2.tail
  rw [← hrl]at hE
  exact rt1 hE ⟨_,rfl,F,_,_,rfl,hS2⟩
 replace hE:=hE.kf 31 hroom
 rw [hw1]at hroom
 have hrm:x0_.length+1≤c0_0:=by omega
 refine cf hE ?_
 refine wp_skip ?_
 refine hK9 _ _ ?_
 obtain ⟨s1,s2,s3⟩:=qCu (sz:=2) (n:=x0_.length) (i:=j) (cap:=c0_0) (cur:=cur.toList) (inner:=inner) (cs:=cs) hin.symm hcl (by omega) hrm (by rw [Array.length_toList]; exact hsz)
 obtain ⟨C1,hC1⟩:∃ C1,C1=cur.toList.take ((j+1) * 2)++inner.drop (j * 2)++cur.toList.drop ((j+1) * 2+(inner.drop (j * 2)).length):=⟨_,rfl⟩
 rw [← hC1]at s1 s2 s3
 obtain ⟨C2,hC2⟩:∃ C2,C2=C1.take (j * 2)++cs++C1.drop (j * 2+cs.length):=⟨_,rfl⟩
 rw [← hC2]at s1 s2
 refine sq fun K15 hK15=>?_
 refine pl0 ?_
 refine plc hE (.r 0 4<|.y 4 (y_hi (e:=216) (z:=2) (g:=g) (n:=x0_.length) (c:=c0_0) (k:=.i64) (hi:=w64 ((x0_.length:Int)+(([x].length:Nat):Int))) ⟨by omega,by omega⟩)<|.r 5 1 .nil) (fun a hE=>?_)
 refine pld ?_
 refine hK15 _ _ ?_
 have hn1:(w64 ((x0_.length:Int)+(([x].length:Nat):Int))).toNat=x0_.length+1:=by rw [hw1,Int.toNat_natCast]
 rw [hn1]at hE
 refine sq fun K16 hK16=>?_
 refine sq fun K17 hK17=>?_
 refine pl0 ?_
 refine plc hE (.r 0 5<|.y 5 (y_lo (e:=216) (z:=2) (g:=g) (n:=x0_.length+1) (c:=c0_0) (k:=.i64) (lo:=w64 ((j:Int)+(([x].length:Nat):Int))) ⟨by omega,by omega⟩ (by omega)) .nil) (fun a hE=>?_)
 have hb2:=hS.ba 0
 have hbg:=hS.ba 1
 have hcz:cur.size≠0:=by rw [hsz]; exact Nat.mul_ne_zero (by omega) (by decide)
 refine ple hE (.ext (f:=261) (args:=[.slice (pb g2) [x].length c2_0,.slice (some ⟨g,(w64 ((j:Int)+(([x].length:Nat):Int))).toNat * 2,none⟩) (x0_.length+1 - (w64 ((j:Int)+(([x].length:Nat):Int))).toNat) (c0_0 - (w64 ((j:Int)+(([x].length:Nat):Int))).toNat)]) (v:=.bool false) (R:=fun v w'=>v = .bool false∧w'=_) (by
  rw [run_callFunc_extern Tryz.func261 (by kernel_rfl) (by kernel_rfl) (by kernel_rfl) (e:=Extern.SlicesOverlaps.overlaps #[177,177] #[4]) (by kernel_rfl)]
  refine (congrArg (fun r:Result Value=>r.andThen fun v w'=>Result.ok (Next.value v) w') (Lib.run_overlaps_apart _ 177 4 216 Tryz.underlying177 2 (fun _=>by kernel_rfl) ⟨g2,0,none⟩ ⟨g,(w64 ((j:Int)+(([x].length:Nat):Int))).toNat * 2,none⟩ [x].length c2_0 _ _ hne 216 216 cur2.size cur.size (by simp [World.shape?,hb2]) (by simp [World.shape?,hbg]) hcz (by simp [World.frozen?,hb2]) (by simp [World.frozen?,hb2]))).trans rfl) ⟨rfl,rfl⟩) ?_
 rintro _ _ a ⟨rfl,rfl⟩ hE
 refine plc hE (.r 7 1 .nil) (fun a hE=>?_)
 refine pld ?_
 refine hK17 _ _ ?_
 refine ct hE ?_
 refine sq fun K18 hK18=>?_
 refine drawn 9 ⟨[8],[],fun q=>False⟩ mixed rfl (by kernel_rfl) (fun hst=>?_)
 replace hS:=hS.drew
 replace hS:=hS.front 1 rfl
 have hbg2:=hS.ba 0
 refine mny 1 hst hE (.r 0 4<|.y 4 (y_lo (e:=216) (z:=2) (g:=g) (n:=x0_.length+1) (c:=c0_0) (k:=.i64) (lo:=w64 ((j:Int)+(([x].length:Nat):Int))) ⟨by omega,by omega⟩ (by omega))<|.r 5 2<|.y 7 (y_lo (e:=216) (z:=2) (g:=g) (n:=x0_.length+1) (c:=c0_0) (k:=.i64) (lo:=(j:Int)) ⟨by omega,by omega⟩ (by omega)) .nil) (fun a hE=>?_)
 refine on1 8 hE (.cpy (e:=216) (z:=2) (off:=(w64 ((j:Int)+(([x].length:Nat):Int))).toNat * 2) (dn:=x0_.length+1 - (w64 ((j:Int)+(([x].length:Nat):Int))).toNat) (dc:=c0_0 - (w64 ((j:Int)+(([x].length:Nat):Int))).toNat) (sn:=x0_.length+1 - (j:Int).toNat) (sc:=c0_0 - (j:Int).toNat) (sa:=⟨g,(j:Int).toNat * 2,none⟩) hS (inner.drop (j * 2)) (by
  rw [hw2,Int.toNat_natCast,Int.toNat_natCast,hidl,show x0_.length+1 - (j+1)=x0_.length - j by omega]
  congr 1
  exact (Nat.min_eq_right (by omega)).symm) (fun q u hq=>by rw [qBm,Int.toNat_natCast]; exact qBk hbg2 (higet q u hq)) hione (by
  rw [hw2,Int.toNat_natCast,hidl,hsz,← Nat.add_mul]
  exact Nat.mul_le_mul_right _ (by omega)) (by kernel_rfl)) ?_
 rintro _ w2 a ⟨rfl,hS,hz,hnew,hoth⟩ hE
 refine ⟨.d,?_⟩
 refine dn ?_
 rw [hw2,Int.toNat_natCast,← hC1]at hS
 refine hK18 _ _ ?_
 refine sq fun K19 hK19=>?_
 refine pl0 ?_
 have hb3:=hS.ba 1
 refine plc hE (.r 0 2<|.y 2 (y_lo (e:=216) (z:=2) (g:=g) (n:=x0_.length+1) (c:=c0_0) (k:=.i64) (lo:=(j:Int)) ⟨by omega,by omega⟩ (by omega))<|.r 3 1 .nil) (fun a hE=>?_)
 have hmin1:Nat.min [x].length (x0_.length+1 - (j:Int).toNat)=1:=by
  rw [Int.toNat_natCast]
  simp only [List.length_cons,List.length_nil]
  exact Nat.min_eq_left (by omega)
 refine ple hE (.cpy (e:=216) (z:=2) (off:=(j:Int).toNat * 2) (dn:=x0_.length+1 - (j:Int).toNat) (dc:=c0_0 - (j:Int).toNat) (sn:=[x].length) (sc:=c2_0) (sa:=⟨g2,0,none⟩) hS cs (by rw [hmin1,hcl]) (fun q u hq=>by rw [qBm,Nat.zero_add]; exact qBk hb3 (hcget q u hq)) hcone (by
  rw [Int.toNat_natCast,List.size_toArray,s3,hcl]
  have:=Nat.mul_le_mul_right 2 (show j+1≤c0_0 by omega)
  omega) (by kernel_rfl)) ?_
 rintro _ w3 a ⟨rfl,hS,hz,hnew,hoth⟩ hE
 simp only [Int.toNat_natCast,List.toList_toArray]at hS
 rw [← hC2]at hS
 refine pld ?_
 refine hK19 _ _ ?_
 refine sq fun K20 hK20=>?_
 refine pl0 ?_
 refine plc hE (.r 0 2 .nil) (fun a hE=>?_)
 refine pld ?_
 refine hK20 _ _ ?_
 refine wp_ret (qBb ?_)
 have hrl:r.length=x0_.length+1:=by rw [← hr]; simp; omega
 have hrr:RepsK qB.k F r (C2.toArray.toList.take (r.length * (qB.k).sz)):=by
  rw [hrl]
  show RepsK qB.k F r (C2.take ((x0_.length+1) * 2))
  rw [s1,← hr]
  exact qBw hrep hx (by omega) rfl
 have hS2:=hS.rerow (c:=c0_0) r (show C2.toArray.size=c0_0 * 2 by simpa using s2) (by omega) hxc.2 hrr
 replace hS2:=hS2.front 1 rfl
 replace hS2:=hS2.tail
 rw [← hrl]at hE
 exact rt1 hE ⟨_,rfl,F,_,_,rfl,hS2⟩
mutual
def qQ.l19:Nat→List qA→List qB→Int→Option (List qB)
 | 0,_,_,_=>none
 | k+1,x,l16,x17=>if x17<(x.length:Int) then (if 0≤x17∧x17<(x.length:Int) then ((qBB.f (nth qA.z x x17)).bind fun t39=>(if t39=true then ((qAp.f (nth qA.z x x17)).bind fun t44=>((qG.f k l16 t44).bind fun t47=>(if t47.2=true then (qQ.j72 k x x17 t47 l16) else ((qAp.f (nth qA.z x x17)).bind fun t53=>((qq.f l16 t47.1 [(⟨t53,0⟩:qB)]).bind fun t60=>(qQ.j72 k x x17 t47 t60)))))) else (qQ.l19 k x l16 (w64 (x17+1))))) else (none)) else (some l16)
def qQ.j72:Nat→List qA→Int→Int × Bool→List qB→Option (List qB)
 | 0,_,_,_,_=>none
 | k+1,x,x17,t47,l70=>if ((nth qA.z x x17).f5)=true then (if 0≤t47.1∧t47.1<(l70.length:Int) then (qQ.l19 k x (l70.set (t47.1).toNat (⟨(nth qB.z l70 t47.1).f0,(if (w64 ((nth qB.z l70 t47.1).f1+(nth qA.z x x17).f3))<65536 then (w64 ((nth qB.z l70 t47.1).f1+(nth qA.z x x17).f3)) else 65536)⟩:qB)) (w64 (x17+1))) else (none)) else (qQ.l19 k x l70 (w64 (x17+1)))
end
theorem qQ.l19_s k x l16 x17:type_of% (qQ.l19.eq_2 x l16 x17 k):=qQ.l19.eq_2 x l16 x17 k
theorem qQ.j72_s k x x17 t47 l70:type_of% (qQ.j72.eq_2 x x17 t47 l70 k):=qQ.j72.eq_2 x x17 t47 l70 k
def qQ.f(k:Nat)(x:List qA):Option (List qB):=(qAA.f k x).bind fun t6=>(if t6=0 then (qQ.l19 k x [] 0) else (some []))
def qQ.Post(W F:World)(r:List qB)(v:Value)(w':World):Prop:=∃(F':World)(RA0_0:OA)(rc0_0:Nat),v = .slice RA0_0 r.length rc0_0∧Sm W F w' F' [row qB.k 216 (.slice RA0_0 r.length rc0_0) r]
theorem qQ.calls(k:Nat)(x:List qA)(A0_0:OA)(c0_0:Nat)(r:List qB)(W F:World)(hown:Sub F W)(g0_0:Rd qA.k F A0_0 c0_0 x)(H:qQ.f k x=some r):
    Cr 236 #[.slice A0_0 x.length c0_0,.func (.func 237) #[] #[],.func (.func 238) #[] #[]] W (qQ.Post W F r):=by
 have S:=St.start (Own.nil hown)
 unfold qQ.f at H
 refine ent 60 rfl rfl rfl (fun a E=>?_)
 refine rr E fun a E=>(rr E fun a E=>(sq fun K3 hK3=>sq fun K4 hK4=>pl0 (plc E (.r 0 1 .nil) (fun a E=>?_))))
 obtain ⟨t6,h7,H⟩:=bd H
 refine ple E (.cl en80 (qAA.calls k x _ _ _ _ _ S.own.sub g0_0 h7)) ?_
 rintro _ u5 a ⟨_,rfl,hC⟩ E
 replace S:=S.lent hC
 refine plc E (.r 2 1 .nil) (fun a E=>pld (hK4 _ _ ?_))
 refine E.ikn 14 H (fun c8 E H=>?_) fun c8 E H=>?_
 ·
  refine wp_skip (hK3 _ _ (sq fun K11 hK11=>rr E fun a E=>(wp_block ?_)))
  replace S:=S.nilrow qB.k 216
  refine wp_loop_ghost (fun kq20 a w'=>∃(G:NV)(A14:OA)(c15:Nat)(l16:List qB)(x17:Int)(F18:World),kq20≤k∧Env 60 G a∧At G [(1,.func (.func 237) #[] #[]),(2,.func (.func 238) #[] #[]),(7,.slice A14 l16.length c15),(15,.slice A0_0 x.length c0_0),(16,iv (x.length:Int)),(17,iv x17)]∧Sm W F w' F18 [row qB.k 216 (.slice A14 l16.length c15) l16]∧Rd qA.k F18 A0_0 c0_0 x∧qQ.l19 kq20 x l16 x17=some r) k ⟨_,none,0,[],0,F,Nat.le_refl _,E,.of,S,g0_0,H⟩ ?_
  rintro kq20 a u22 ⟨G,A14,c15,l16,x17,F18,hkq,E,A,S,g0_0,H⟩
  obtain _ | k21:=kq20
  ·
   exact zz H
  rw [qQ.l19_s]at H
  obtain ⟨J,E⟩:=E.at A
  refine rr E fun a E=>(sq fun K24 hK24=>?_)
  refine E.ik 18 H (fun c25 E H=>?_) fun c25 E H=>?_
  ·
   refine wp_skip (hK24 _ _ (sq fun K26 hK26=>wp_block (sq fun K27 hK27=>pl0 ?_)))
   obtain ⟨c28,H⟩:=gd H
   have hE_:=E
   obtain ⟨ad29,rfl⟩:=g0_0.addr c28.1 c28.2
   replace E:=hE_
   obtain ⟨cs31,rfl,hc32⟩:=g0_0.el qA.z x17 c28.1 c28.2
   refine plc E (.x 0 c28<|.cs 1 (S.fcs hc32)<|.nil) (fun a E=>ple E (.al (t:=104) S [iv 0,iv 0,iv 0,iv 0,.bool false,.bool false]) ?_)
   rintro _ u34 a ⟨b33,rfl,hb33,S,hg⟩ E
   refine ple E (.sto S [iv ((nth qA.z x x17).f0),iv ((nth qA.z x x17).f1),iv ((nth qA.z x x17).f2),iv ((nth qA.z x x17).f3),.bool ((nth qA.z x x17).f4),.bool ((nth qA.z x x17).f5)]) ?_
   rintro _ u35 a ⟨rfl,hb33,S,hz⟩ E
   refine pld (hK27 _ _ (sq fun K36 hK36=>sq fun K37 hK37=>pl0 (plc E (.r 0 1<|.bn 1 0 6 hb33<|.nil) (fun a E=>?_))))
   obtain ⟨t39,h40,H⟩:=bd H
   refine ple E (.cl en237 (qBB.calls (nth qA.z x x17) _ _ _ S.own.sub h40)) ?_
   rintro _ u38 a ⟨_,rfl,hC⟩ E
   replace S:=S.lent hC
   refine plc E (.r 3 1 .nil) (fun a E=>pld (hK37 _ _ ?_))
   refine E.ibn 24 H (fun c41 E H=>?_) fun c41 E H=>?_
   ·
    refine wp_skip (hK36 _ _ (sq fun K42 hK42=>pl0 ?_))
    have hb33:=S.ba 0
    refine plc E (.r 0 2<|.bn 2 0 6 hb33<|.nil) (fun a E=>?_)
    obtain ⟨t44,h45,H⟩:=bd H
    refine ple E (.cl en238 (qAp.calls (nth qA.z x x17) _ _ _ S.own.sub h45)) ?_
    rintro _ u43 a ⟨_,rfl,hC⟩ E
    replace S:=S.lent hC
    obtain ⟨t47,h48,H⟩:=bd H
    refine ple E (.cl en254 (qG.calls k21 l16 t44 _ _ _ _ _ (Sub.refl _) (S.rd_at (i:=1) rfl) h48)) ?_
    rintro _ u46 a ⟨_,rfl,hC⟩ E
    replace S:=S.lent hC
    refine plc E (.r 5 5 .nil) (fun a E=>pld (hK42 _ _ (sq fun K49 hK49=>?_)))
    have J75:∀ kq73,kq73≤k21→∀(G:NV)(A68:OA)(c69:Nat)(l70:List qB)(F71:World)(a:Act)(w':World),Env 60 G a→At G [(1,.func (.func 237) #[] #[]),(2,.func (.func 238) #[] #[]),(7,.slice A68 l70.length c69),(9,.pointer (pb b33)),(10,iv t47.1),(15,.slice (some ad29) x.length c0_0),(16,iv (x.length:Int)),(17,iv x17)]→Sm W F w' F71 [box b33 #[iv ((nth qA.z x x17).f0),iv ((nth qA.z x x17).f1),iv ((nth qA.z x x17).f2),iv ((nth qA.z x x17).f3),.bool ((nth qA.z x x17).f4),.bool ((nth qA.z x x17).f5)] 104,row qB.k 216 (.slice A68 l70.length c69) l70]→Rd qA.k F71 (some ad29) c0_0 x→qQ.j72 kq73 x x17 t47 l70=some r→K49 a w':=by
     intro kq73 hkq G A68 c69 l70 F71 a u76 E A S g0_0 H
     obtain _ | k74:=kq73
     ·
      exact zz H
     rw [qQ.j72_s]at H
     obtain ⟨J,E⟩:=E.at A
     refine hK49 _ _ (sq fun K77 hK77=>pl0 ?_)
     have hb33:=S.ba 0
     refine plc E (.r 0 1<|.b 1 5 hb33<|.nil) (fun a E=>pld (hK77 _ _ ?_))
     refine E.ib 44 H (fun c78 E H=>?_) fun c78 E H=>?_
     ·
      refine drawn 14 ⟨[13],[],fun q=>False⟩ mixed rfl (by kernel_rfl) (fun hst=>?_)
      replace S:=S.drew
      obtain ⟨c79,H⟩:=gd H
      have hr80:=S.ra 1
      have hE_:=E
      obtain ⟨b81,rfl⟩:=qBo hr80 c79.1 c79.2
      replace E:=hE_
      have hr_:=S.ra 1
      obtain ⟨cs83,rfl,hc84⟩:=qBh hr_ qB.z t47.1 c79.1 c79.2
      have hb33:=S.ba 0
      have hr85:=S.ra 1
      refine mny 1 hst E (.r 0 4<|.x 4 c79<|.r 5 1<|.c 6 (hc84 1 _ rfl)<|.r 7 1<|.b 8 3 hb33<|.r 9 2<|.x 11 c79<|.r 12 1<|.nil) (fun a E=>?_)
      replace S:=S.front 1 rfl
      obtain ⟨cs90,rfl,hc91⟩:=qBh (S.row_at (i:=0) rfl) qB.z t47.1 c79.1 c79.2
      refine on1 13 E (.set (d:=qB.k) (n:=l70.length) (i:=t47.1) (⟨(nth qB.z l70 t47.1).f0,(if (w64 ((nth qB.z l70 t47.1).f1+(nth qA.z x x17).f3))<65536 then (w64 ((nth qB.z l70 t47.1).f1+(nth qA.z x x17).f3)) else 65536)⟩:qB) 1 (ea1 _ _ _) S c79 [iv ((nth qB.z l70 t47.1).f0),iv ((nth qB.z l70 t47.1).f1)] hc91 [iv ((nth qB.z l70 t47.1).f0),iv (if (w64 ((nth qB.z l70 t47.1).f1+(nth qA.z x x17).f3))<65536 then (w64 ((nth qB.z l70 t47.1).f1+(nth qA.z x x17).f3)) else 65536)] rfl) ?_
      rintro _ u89 a ⟨rfl,S,hz⟩ E
      refine ⟨.d,?_⟩
      refine dn ?_
      refine qBd ?_
      refine hK26 _ _ (pl0 (plc E (.r 0 2 .nil) (fun a E=>pld ?_)))
      have hn92:=(qBe (S.row_at (i:=0) rfl)).1
      replace E:=E.set (d:=7) (v:=.slice (pb b81) ((l70.set (t47.1).toNat (⟨(nth qB.z l70 t47.1).f0,(if (w64 ((nth qB.z l70 t47.1).f1+(nth qA.z x x17).f3))<65536 then (w64 ((nth qB.z l70 t47.1).f1+(nth qA.z x x17).f3)) else 65536)⟩:qB)).length) c69) (Eq.trans (b:=.slice (pb b81) l70.length c69) (by kernel_rfl) (by rw [← hn92]))
      replace S:Sm W F u89 F71 [row qB.k 216 (.slice (pb b81) ((l70.set (t47.1).toNat (⟨(nth qB.z l70 t47.1).f0,(if (w64 ((nth qB.z l70 t47.1).f1+(nth qA.z x x17).f3))<65536 then (w64 ((nth qB.z l70 t47.1).f1+(nth qA.z x x17).f3)) else 65536)⟩:qB)).length) c69) (l70.set (t47.1).toNat (⟨(nth qB.z l70 t47.1).f0,(if (w64 ((nth qB.z l70 t47.1).f1+(nth qA.z x x17).f3))<65536 then (w64 ((nth qB.z l70 t47.1).f1+(nth qA.z x x17).f3)) else 65536)⟩:qB)),box b33 #[iv ((nth qA.z x x17).f0),iv ((nth qA.z x x17).f1),iv ((nth qA.z x x17).f2),iv ((nth qA.z x x17).f3),.bool ((nth qA.z x x17).f4),.bool ((nth qA.z x x17).f5)] 104]:=by rw [← hn92]; exact S
      replace S:=S.pm [0] 2
      exact qBf ⟨k74,by omega,_,(pb b81),c69,(l70.set (t47.1).toNat (⟨(nth qB.z l70 t47.1).f0,(if (w64 ((nth qB.z l70 t47.1).f1+(nth qA.z x x17).f3))<65536 then (w64 ((nth qB.z l70 t47.1).f1+(nth qA.z x x17).f3)) else 65536)⟩:qB)),(w64 (x17+1)),F71,by omega,E,.of,S,g0_0,H⟩
     refine wp_skip ?_
     refine qBd ?_
     refine hK26 _ _ (pl0 (plc E (.r 0 2 .nil) (fun a E=>pld ?_)))
     replace S:=S.tail
     exact qBf ⟨k74,by omega,_,A68,c69,l70,(w64 (x17+1)),F71,by omega,E,.of,S,g0_0,H⟩
    refine rr E fun a E=>?_
    refine E.ibn 34 H (fun c51 E H=>?_) fun c51 E H=>?_
    ·
     refine wp_skip ?_
     exact J75 _ (by omega) _ A14 c15 l16 F18 _ _ E .of S g0_0 H
    refine pl0 ?_
    have hb33:=S.ba 0
    refine plc E (.r 0 3<|.bn 3 0 6 hb33<|.nil) (fun a E=>?_)
    obtain ⟨t53,h54,H⟩:=bd H
    refine ple E (.cl en238 (qAp.calls (nth qA.z x x17) _ _ _ S.own.sub h54)) ?_
    rintro _ u52 a ⟨_,rfl,hC⟩ E
    replace S:=S.lent hC
    refine plc E (.r 5 1 .nil) (fun a E=>ple E (.lit (d:=qB.k) (e:=216) S [(⟨t53,0⟩:qB)] (.cons rfl .nil)) ?_)
    rintro _ u55 a ⟨A56,c57,rfl,S,hg⟩ E
    replace S:=S.front 2 rfl
    obtain ⟨t60,h61,H⟩:=bd H
    refine ple E (.cl en256 (qq.calls l16 t47.1 [(⟨t53,0⟩:qB)] _ _ _ _ _ _ _ (Own.left (X:=[row qB.k 216 (.slice A14 l16.length c15) l16,row qB.k 216 (.slice A56 ([(⟨t53,0⟩:qB)].length) c57) [(⟨t53,0⟩:qB)]]) S.own) h61)) ?_
    rintro _ u59 a ⟨F62,A63,c64,rfl,hC⟩ E
    have hs:=hC.sub
    replace S:=S.called (X:=[row qB.k 216 (.slice A14 l16.length c15) l16,row qB.k 216 (.slice A56 ([(⟨t53,0⟩:qB)].length) c57) [(⟨t53,0⟩:qB)]]) hC
    replace g0_0:=g0_0.mono hs
    refine plc E (.r 8 1 .nil) (fun a E=>pld ?_)
    replace S:=S.front 1 rfl
    exact J75 _ (by omega) _ A63 c64 t60 F62 _ _ E .of S g0_0 H
   refine wp_exit ?_
   refine hK26 _ _ (pl0 (plc E (.r 0 2 .nil) (fun a E=>pld ?_)))
   replace S:=S.tail
   exact qBf ⟨k21,by omega,_,A14,c15,l16,(w64 (x17+1)),F18,by omega,E,.of,S,g0_0,H⟩
  refine wp_exit ?_
  refine hK11 _ _ (rr E fun a E=>(wp_ret ?_))
  obtain rfl:=si H
  exact rt1 E ⟨_,rfl,_,_,_,rfl,S⟩
 refine rr E fun a E=>(wp_ret (qBb ?_))
 replace S:=S.nilrow qB.k 216
 obtain rfl:=si H
 exact rt1 E ⟨_,rfl,_,_,_,rfl,S⟩
def qBL.f(k:Nat)(x:List qA):Option (List qB):=(qQ.f k x).bind fun t4=>(some t4)
def qBL.Post(W F:World)(r:List qB)(v:Value)(w':World):Prop:=∃(F':World)(RA0_0:OA)(rc0_0:Nat),v = .slice RA0_0 r.length rc0_0∧Sm W F w' F' [row qB.k 216 (.slice RA0_0 r.length rc0_0) r]
theorem qBL.calls(k:Nat)(x:List qA)(A0_0:OA)(c0_0:Nat)(r:List qB)(W F:World)(hown:Sub F W)(g0_0:Rd qA.k F A0_0 c0_0 x)(H:qBL.f k x=some r):
    Cr 225 #[.slice A0_0 x.length c0_0] W (qBL.Post W F r):=by
 have S:=St.start (Own.nil hown)
 unfold qBL.f at H
 refine ent 5 rfl rfl rfl (fun a E=>?_)
 refine rr E fun a E=>(sq fun K2 hK2=>pl0 (plc E (.r 0 1 .nil) (fun a E=>?_)))
 obtain ⟨t4,h5,H⟩:=bd H
 refine ple E (.cl en236 (qQ.calls k x _ _ _ _ _ S.own.sub g0_0 h5)) ?_
 rintro _ u3 a ⟨F6,A7,c8,rfl,hC⟩ E
 have hs:=hC.sub
 replace S:=S.called (X:=[]) hC
 replace g0_0:=g0_0.mono hs
 refine plc E (.r 2 1 .nil) (fun a E=>pld (hK2 _ _ (wp_ret ?_)))
 obtain rfl:=si H
 exact rt1 E ⟨_,rfl,_,_,_,rfl,S⟩
def qAq.f(x:qA):Option Int:=some x.f2
def qAq.Post(W F:World)(r:Int)(v:Value)(w':World):Prop:=∃(F':World),v=iv r∧Sm W F w' F' []
theorem qAq.calls(x:qA)(r:Int)(W F:World)(hown:Sub F W)(H:qAq.f x=some r):
    Cr 240 #[.agg #[iv x.f0,iv x.f1,iv x.f2,iv x.f3,.bool x.f4,.bool x.f5]] W (qAq.Post W F r):=by
 have S:=St.start (Own.nil hown)
 unfold qAq.f at H
 refine ent 5 rfl rfl rfl (fun a E=>?_)
 refine sq fun K1 hK1=>pl0 (ple E (.bx (t:=104) S [iv x.f0,iv x.f1,iv x.f2,iv x.f3,.bool x.f4,.bool x.f5]) ?_)
 rintro _ u3 a ⟨b2,rfl,hb2,S,hg⟩ E
 refine plc E (.r 1 1 .nil) (fun a E=>pld (hK1 _ _ (rg E (.r 0 1<|.b 1 2 hb2<|.r 2 1<|.nil) fun a E=>(wp_ret ?_))))
 replace S:=S.tail
 obtain rfl:=si H
 exact rt1 E ⟨_,rfl,_,rfl,S⟩
def qBC.f(x:qA)(xf0_:Int):Option Bool:=some (x.f1 == xf0_)
def qBC.Post(W F:World)(r:Bool)(v:Value)(w':World):Prop:=∃(F':World),v = .bool r∧Sm W F w' F' []
theorem qBC.calls(x:qA)(xf0_:Int)(pf0_:Nat)(r:Bool)(W F:World)(hown:Sub F W)(hpf0_:F.heap[pf0_]? = some (.cells #[iv xf0_] 3 (0,0)))(H:qBC.f x xf0_=some r):
    Cr 239 #[.agg #[iv x.f0,iv x.f1,iv x.f2,iv x.f3,.bool x.f4,.bool x.f5],.pointer (pb pf0_)] W (qBC.Post W F r):=by
 have S:=St.start (Own.nil hown)
 unfold qBC.f at H
 refine ent 8 rfl rfl rfl (fun a E=>?_)
 refine sq fun K1 hK1=>pl0 (ple E (.bx (t:=104) S [iv x.f0,iv x.f1,iv x.f2,iv x.f3,.bool x.f4,.bool x.f5]) ?_)
 rintro _ u3 a ⟨b2,rfl,hb2,S,hg⟩ E
 refine plc E (.r 1 1 .nil) (fun a E=>pld (hK1 _ _ (rg E (.r 0 1<|.b 1 1 hb2<|.b 2 0 (S.own.sub _ _ _ _ hpf0_)<|.r 3 2<|.nil) fun a E=>(wp_ret ?_))))
 replace S:=S.tail
 obtain rfl:=si H
 exact rt1 E ⟨_,rfl,_,rfl,S⟩
mutual
def qR.l19:Nat→List qA→Int→List qB→Int→Option (List qB)
 | 0,_,_,_,_=>none
 | k+1,x,x1c0_,l16,x17=>if x17<(x.length:Int) then (if 0≤x17∧x17<(x.length:Int) then ((qBC.f (nth qA.z x x17) x1c0_).bind fun t39=>(if t39=true then ((qAq.f (nth qA.z x x17)).bind fun t44=>((qG.f k l16 t44).bind fun t47=>(if t47.2=true then (qR.j72 k x x1c0_ x17 t47 l16) else ((qAq.f (nth qA.z x x17)).bind fun t53=>((qq.f l16 t47.1 [(⟨t53,0⟩:qB)]).bind fun t60=>(qR.j72 k x x1c0_ x17 t47 t60)))))) else (qR.l19 k x x1c0_ l16 (w64 (x17+1))))) else (none)) else (some l16)
def qR.j72:Nat→List qA→Int→Int→Int × Bool→List qB→Option (List qB)
 | 0,_,_,_,_,_=>none
 | k+1,x,x1c0_,x17,t47,l70=>if ((nth qA.z x x17).f5)=true then (if 0≤t47.1∧t47.1<(l70.length:Int) then (qR.l19 k x x1c0_ (l70.set (t47.1).toNat (⟨(nth qB.z l70 t47.1).f0,(if (w64 ((nth qB.z l70 t47.1).f1+(nth qA.z x x17).f3))<65536 then (w64 ((nth qB.z l70 t47.1).f1+(nth qA.z x x17).f3)) else 65536)⟩:qB)) (w64 (x17+1))) else (none)) else (qR.l19 k x x1c0_ l70 (w64 (x17+1)))
end
theorem qR.l19_s k x x1c0_ l16 x17:type_of% (qR.l19.eq_2 x x1c0_ l16 x17 k):=qR.l19.eq_2 x x1c0_ l16 x17 k
theorem qR.j72_s k x x1c0_ x17 t47 l70:type_of% (qR.j72.eq_2 x x1c0_ x17 t47 l70 k):=qR.j72.eq_2 x x1c0_ x17 t47 l70 k
def qR.f(k:Nat)(x:List qA)(x1c0_:Int):Option (List qB):=(qAA.f k x).bind fun t6=>(if t6=0 then (qR.l19 k x x1c0_ [] 0) else (some []))
def qR.Post(W F:World)(r:List qB)(v:Value)(w':World):Prop:=∃(F':World)(RA0_0:OA)(rc0_0:Nat),v = .slice RA0_0 r.length rc0_0∧Sm W F w' F' [row qB.k 216 (.slice RA0_0 r.length rc0_0) r]
theorem qR.calls(k:Nat)(x:List qA)(x1c0_:Int)(A0_0:OA)(c0_0:Nat)(p1c0_:Nat)(r:List qB)(W F:World)(hown:Sub F W)(g0_0:Rd qA.k F A0_0 c0_0 x)(hp1c0_:F.heap[p1c0_]? = some (.cells #[iv x1c0_] 3 (0,0)))(H:qR.f k x x1c0_=some r):
    Cr 236 #[.slice A0_0 x.length c0_0,.func (.func 239) #[] #[.pointer (pb p1c0_)],.func (.func 240) #[] #[]] W (qR.Post W F r):=by
 have S:=St.start (Own.nil hown)
 unfold qR.f at H
 refine ent 60 rfl rfl rfl (fun a E=>?_)
 refine rr E fun a E=>(rr E fun a E=>(sq fun K3 hK3=>sq fun K4 hK4=>pl0 (plc E (.r 0 1 .nil) (fun a E=>?_))))
 obtain ⟨t6,h7,H⟩:=bd H
 refine ple E (.cl en80 (qAA.calls k x _ _ _ _ _ S.own.sub g0_0 h7)) ?_
 rintro _ u5 a ⟨_,rfl,hC⟩ E
 replace S:=S.lent hC
 refine plc E (.r 2 1 .nil) (fun a E=>pld (hK4 _ _ ?_))
 refine E.ikn 14 H (fun c8 E H=>?_) fun c8 E H=>?_
 ·
  refine wp_skip (hK3 _ _ (sq fun K11 hK11=>rr E fun a E=>(wp_block ?_)))
  replace S:=S.nilrow qB.k 216
  refine wp_loop_ghost (fun kq20 a w'=>∃(G:NV)(A14:OA)(c15:Nat)(l16:List qB)(x17:Int)(F18:World),kq20≤k∧Env 60 G a∧At G [(1,.func (.func 239) #[] #[.pointer (pb p1c0_)]),(2,.func (.func 240) #[] #[]),(7,.slice A14 l16.length c15),(15,.slice A0_0 x.length c0_0),(16,iv (x.length:Int)),(17,iv x17)]∧Sm W F w' F18 [row qB.k 216 (.slice A14 l16.length c15) l16]∧Rd qA.k F18 A0_0 c0_0 x∧F18.heap[p1c0_]? = some (.cells #[iv x1c0_] 3 (0,0))∧qR.l19 kq20 x x1c0_ l16 x17=some r) k ⟨_,none,0,[],0,F,Nat.le_refl _,E,.of,S,g0_0,hp1c0_,H⟩ ?_
  rintro kq20 a u22 ⟨G,A14,c15,l16,x17,F18,hkq,E,A,S,g0_0,hp1c0_,H⟩
  obtain _ | k21:=kq20
  ·
   exact zz H
  rw [qR.l19_s]at H
  obtain ⟨J,E⟩:=E.at A
  refine rr E fun a E=>(sq fun K24 hK24=>?_)
  refine E.ik 18 H (fun c25 E H=>?_) fun c25 E H=>?_
  ·
   refine wp_skip (hK24 _ _ (sq fun K26 hK26=>wp_block (sq fun K27 hK27=>pl0 ?_)))
   obtain ⟨c28,H⟩:=gd H
   have hE_:=E
   obtain ⟨ad29,rfl⟩:=g0_0.addr c28.1 c28.2
   replace E:=hE_
   obtain ⟨cs31,rfl,hc32⟩:=g0_0.el qA.z x17 c28.1 c28.2
   refine plc E (.x 0 c28<|.cs 1 (S.fcs hc32)<|.nil) (fun a E=>ple E (.al (t:=104) S [iv 0,iv 0,iv 0,iv 0,.bool false,.bool false]) ?_)
   rintro _ u34 a ⟨b33,rfl,hb33,S,hg⟩ E
   refine ple E (.sto S [iv ((nth qA.z x x17).f0),iv ((nth qA.z x x17).f1),iv ((nth qA.z x x17).f2),iv ((nth qA.z x x17).f3),.bool ((nth qA.z x x17).f4),.bool ((nth qA.z x x17).f5)]) ?_
   rintro _ u35 a ⟨rfl,hb33,S,hz⟩ E
   refine pld (hK27 _ _ (sq fun K36 hK36=>sq fun K37 hK37=>pl0 (plc E (.r 0 1<|.bn 1 0 6 hb33<|.nil) (fun a E=>?_))))
   obtain ⟨t39,h40,H⟩:=bd H
   refine ple E (.cl en239 (qBC.calls (nth qA.z x x17) x1c0_ _ _ _ _ S.own.sub hp1c0_ h40)) ?_
   rintro _ u38 a ⟨_,rfl,hC⟩ E
   replace S:=S.lent hC
   refine plc E (.r 3 1 .nil) (fun a E=>pld (hK37 _ _ ?_))
   refine E.ibn 24 H (fun c41 E H=>?_) fun c41 E H=>?_
   ·
    refine wp_skip (hK36 _ _ (sq fun K42 hK42=>pl0 ?_))
    have hb33:=S.ba 0
    refine plc E (.r 0 2<|.bn 2 0 6 hb33<|.nil) (fun a E=>?_)
    obtain ⟨t44,h45,H⟩:=bd H
    refine ple E (.cl en240 (qAq.calls (nth qA.z x x17) _ _ _ S.own.sub h45)) ?_
    rintro _ u43 a ⟨_,rfl,hC⟩ E
    replace S:=S.lent hC
    obtain ⟨t47,h48,H⟩:=bd H
    refine ple E (.cl en254 (qG.calls k21 l16 t44 _ _ _ _ _ (Sub.refl _) (S.rd_at (i:=1) rfl) h48)) ?_
    rintro _ u46 a ⟨_,rfl,hC⟩ E
    replace S:=S.lent hC
    refine plc E (.r 5 5 .nil) (fun a E=>pld (hK42 _ _ (sq fun K49 hK49=>?_)))
    have J75:∀ kq73,kq73≤k21→∀(G:NV)(A68:OA)(c69:Nat)(l70:List qB)(F71:World)(a:Act)(w':World),Env 60 G a→At G [(1,.func (.func 239) #[] #[.pointer (pb p1c0_)]),(2,.func (.func 240) #[] #[]),(7,.slice A68 l70.length c69),(9,.pointer (pb b33)),(10,iv t47.1),(15,.slice (some ad29) x.length c0_0),(16,iv (x.length:Int)),(17,iv x17)]→Sm W F w' F71 [box b33 #[iv ((nth qA.z x x17).f0),iv ((nth qA.z x x17).f1),iv ((nth qA.z x x17).f2),iv ((nth qA.z x x17).f3),.bool ((nth qA.z x x17).f4),.bool ((nth qA.z x x17).f5)] 104,row qB.k 216 (.slice A68 l70.length c69) l70]→Rd qA.k F71 (some ad29) c0_0 x→F71.heap[p1c0_]? = some (.cells #[iv x1c0_] 3 (0,0))→qR.j72 kq73 x x1c0_ x17 t47 l70=some r→K49 a w':=by
     intro kq73 hkq G A68 c69 l70 F71 a u76 E A S g0_0 hp1c0_ H
     obtain _ | k74:=kq73
     ·
      exact zz H
     rw [qR.j72_s]at H
     obtain ⟨J,E⟩:=E.at A
     refine hK49 _ _ (sq fun K77 hK77=>pl0 ?_)
     have hb33:=S.ba 0
     refine plc E (.r 0 1<|.b 1 5 hb33<|.nil) (fun a E=>pld (hK77 _ _ ?_))
     refine E.ib 44 H (fun c78 E H=>?_) fun c78 E H=>?_
     ·
      refine drawn 14 ⟨[13],[],fun q=>False⟩ mixed rfl (by kernel_rfl) (fun hst=>?_)
      replace S:=S.drew
      obtain ⟨c79,H⟩:=gd H
      have hr80:=S.ra 1
      have hE_:=E
      obtain ⟨b81,rfl⟩:=qBo hr80 c79.1 c79.2
      replace E:=hE_
      have hr_:=S.ra 1
      obtain ⟨cs83,rfl,hc84⟩:=qBh hr_ qB.z t47.1 c79.1 c79.2
      have hb33:=S.ba 0
      have hr85:=S.ra 1
      refine mny 1 hst E (.r 0 4<|.x 4 c79<|.r 5 1<|.c 6 (hc84 1 _ rfl)<|.r 7 1<|.b 8 3 hb33<|.r 9 2<|.x 11 c79<|.r 12 1<|.nil) (fun a E=>?_)
      replace S:=S.front 1 rfl
      obtain ⟨cs90,rfl,hc91⟩:=qBh (S.row_at (i:=0) rfl) qB.z t47.1 c79.1 c79.2
      refine on1 13 E (.set (d:=qB.k) (n:=l70.length) (i:=t47.1) (⟨(nth qB.z l70 t47.1).f0,(if (w64 ((nth qB.z l70 t47.1).f1+(nth qA.z x x17).f3))<65536 then (w64 ((nth qB.z l70 t47.1).f1+(nth qA.z x x17).f3)) else 65536)⟩:qB) 1 (ea1 _ _ _) S c79 [iv ((nth qB.z l70 t47.1).f0),iv ((nth qB.z l70 t47.1).f1)] hc91 [iv ((nth qB.z l70 t47.1).f0),iv (if (w64 ((nth qB.z l70 t47.1).f1+(nth qA.z x x17).f3))<65536 then (w64 ((nth qB.z l70 t47.1).f1+(nth qA.z x x17).f3)) else 65536)] rfl) ?_
      rintro _ u89 a ⟨rfl,S,hz⟩ E
      refine ⟨.d,?_⟩
      refine dn ?_
      refine qBd ?_
      refine hK26 _ _ (pl0 (plc E (.r 0 2 .nil) (fun a E=>pld ?_)))
      have hn92:=(qBe (S.row_at (i:=0) rfl)).1
      replace E:=E.set (d:=7) (v:=.slice (pb b81) ((l70.set (t47.1).toNat (⟨(nth qB.z l70 t47.1).f0,(if (w64 ((nth qB.z l70 t47.1).f1+(nth qA.z x x17).f3))<65536 then (w64 ((nth qB.z l70 t47.1).f1+(nth qA.z x x17).f3)) else 65536)⟩:qB)).length) c69) (Eq.trans (b:=.slice (pb b81) l70.length c69) (by kernel_rfl) (by rw [← hn92]))
      replace S:Sm W F u89 F71 [row qB.k 216 (.slice (pb b81) ((l70.set (t47.1).toNat (⟨(nth qB.z l70 t47.1).f0,(if (w64 ((nth qB.z l70 t47.1).f1+(nth qA.z x x17).f3))<65536 then (w64 ((nth qB.z l70 t47.1).f1+(nth qA.z x x17).f3)) else 65536)⟩:qB)).length) c69) (l70.set (t47.1).toNat (⟨(nth qB.z l70 t47.1).f0,(if (w64 ((nth qB.z l70 t47.1).f1+(nth qA.z x x17).f3))<65536 then (w64 ((nth qB.z l70 t47.1).f1+(nth qA.z x x17).f3)) else 65536)⟩:qB)),box b33 #[iv ((nth qA.z x x17).f0),iv ((nth qA.z x x17).f1),iv ((nth qA.z x x17).f2),iv ((nth qA.z x x17).f3),.bool ((nth qA.z x x17).f4),.bool ((nth qA.z x x17).f5)] 104]:=by rw [← hn92]; exact S
      replace S:=S.pm [0] 2
      exact qBf ⟨k74,by omega,_,(pb b81),c69,(l70.set (t47.1).toNat (⟨(nth qB.z l70 t47.1).f0,(if (w64 ((nth qB.z l70 t47.1).f1+(nth qA.z x x17).f3))<65536 then (w64 ((nth qB.z l70 t47.1).f1+(nth qA.z x x17).f3)) else 65536)⟩:qB)),(w64 (x17+1)),F71,by omega,E,.of,S,g0_0,hp1c0_,H⟩
     refine wp_skip ?_
     refine qBd ?_
     refine hK26 _ _ (pl0 (plc E (.r 0 2 .nil) (fun a E=>pld ?_)))
     replace S:=S.tail
     exact qBf ⟨k74,by omega,_,A68,c69,l70,(w64 (x17+1)),F71,by omega,E,.of,S,g0_0,hp1c0_,H⟩
    refine rr E fun a E=>?_
    refine E.ibn 34 H (fun c51 E H=>?_) fun c51 E H=>?_
    ·
     refine wp_skip ?_
     exact J75 _ (by omega) _ A14 c15 l16 F18 _ _ E .of S g0_0 hp1c0_ H
    refine pl0 ?_
    have hb33:=S.ba 0
    refine plc E (.r 0 3<|.bn 3 0 6 hb33<|.nil) (fun a E=>?_)
    obtain ⟨t53,h54,H⟩:=bd H
    refine ple E (.cl en240 (qAq.calls (nth qA.z x x17) _ _ _ S.own.sub h54)) ?_
    rintro _ u52 a ⟨_,rfl,hC⟩ E
    replace S:=S.lent hC
    refine plc E (.r 5 1 .nil) (fun a E=>ple E (.lit (d:=qB.k) (e:=216) S [(⟨t53,0⟩:qB)] (.cons rfl .nil)) ?_)
    rintro _ u55 a ⟨A56,c57,rfl,S,hg⟩ E
    replace S:=S.front 2 rfl
    obtain ⟨t60,h61,H⟩:=bd H
    refine ple E (.cl en256 (qq.calls l16 t47.1 [(⟨t53,0⟩:qB)] _ _ _ _ _ _ _ (Own.left (X:=[row qB.k 216 (.slice A14 l16.length c15) l16,row qB.k 216 (.slice A56 ([(⟨t53,0⟩:qB)].length) c57) [(⟨t53,0⟩:qB)]]) S.own) h61)) ?_
    rintro _ u59 a ⟨F62,A63,c64,rfl,hC⟩ E
    have hs:=hC.sub
    replace S:=S.called (X:=[row qB.k 216 (.slice A14 l16.length c15) l16,row qB.k 216 (.slice A56 ([(⟨t53,0⟩:qB)].length) c57) [(⟨t53,0⟩:qB)]]) hC
    replace g0_0:=g0_0.mono hs
    replace hp1c0_:=hs _ _ _ _ hp1c0_
    refine plc E (.r 8 1 .nil) (fun a E=>pld ?_)
    replace S:=S.front 1 rfl
    exact J75 _ (by omega) _ A63 c64 t60 F62 _ _ E .of S g0_0 hp1c0_ H
   refine wp_exit ?_
   refine hK26 _ _ (pl0 (plc E (.r 0 2 .nil) (fun a E=>pld ?_)))
   replace S:=S.tail
   exact qBf ⟨k21,by omega,_,A14,c15,l16,(w64 (x17+1)),F18,by omega,E,.of,S,g0_0,hp1c0_,H⟩
  refine wp_exit ?_
  refine hK11 _ _ (rr E fun a E=>(wp_ret ?_))
  obtain rfl:=si H
  exact rt1 E ⟨_,rfl,_,_,_,rfl,S⟩
 refine rr E fun a E=>(wp_ret (qBb ?_))
 replace S:=S.nilrow qB.k 216
 obtain rfl:=si H
 exact rt1 E ⟨_,rfl,_,_,_,rfl,S⟩
def qBM.f(k:Nat)(x:List qA)(y:Int):Option (List qB):=(qR.f k x y).bind fun t8=>(some t8)
def qBM.Post(W F:World)(r:List qB)(v:Value)(w':World):Prop:=∃(F':World)(RA0_0:OA)(rc0_0:Nat),v = .slice RA0_0 r.length rc0_0∧Sm W F w' F' [row qB.k 216 (.slice RA0_0 r.length rc0_0) r]
theorem qBM.calls(k:Nat)(x:List qA)(y:Int)(A0_0:OA)(c0_0:Nat)(r:List qB)(W F:World)(hown:Sub F W)(g0_0:Rd qA.k F A0_0 c0_0 x)(H:qBM.f k x y=some r):
    Cr 226 #[.slice A0_0 x.length c0_0,iv y] W (qBM.Post W F r):=by
 have S:=St.start (Own.nil hown)
 unfold qBM.f at H
 refine ent 8 rfl rfl rfl (fun a E=>?_)
 refine sq fun K1 hK1=>pl0 (ple E (.bx (t:=3) S [iv y]) ?_)
 rintro _ u3 a ⟨b2,rfl,hb2,S,hg⟩ E
 refine plc E (.r 1 1 .nil) (fun a E=>pld (hK1 _ _ (sq fun K4 hK4=>pl0 (plc E (.r 0 2 .nil) (fun a E=>?_)))))
 obtain ⟨F5,hs,g6,S⟩:=S.giveb
 replace g0_0:=g0_0.mono hs
 obtain ⟨t8,h9,H⟩:=bd H
 refine ple E (.cl en236 (qR.calls k x y _ _ _ _ _ _ S.own.sub g0_0 g6 h9)) ?_
 rintro _ u7 a ⟨F10,A11,c12,rfl,hC⟩ E
 have hs:=hC.sub
 replace S:=S.called (X:=[]) hC
 replace g0_0:=g0_0.mono hs
 replace g6:=hs _ _ _ _ g6
 refine plc E (.r 3 1 .nil) (fun a E=>pld (hK4 _ _ (wp_ret ?_)))
 obtain rfl:=si H
 exact rt1 E ⟨_,rfl,_,_,_,rfl,S⟩
def qAl.f(x:qA):Option Int:=some x.f0
def qAl.Post(W F:World)(r:Int)(v:Value)(w':World):Prop:=∃(F':World),v=iv r∧Sm W F w' F' []
theorem qAl.calls(x:qA)(r:Int)(W F:World)(hown:Sub F W)(H:qAl.f x=some r):
    Cr 242 #[.agg #[iv x.f0,iv x.f1,iv x.f2,iv x.f3,.bool x.f4,.bool x.f5]] W (qAl.Post W F r):=by
 have S:=St.start (Own.nil hown)
 unfold qAl.f at H
 refine ent 5 rfl rfl rfl (fun a E=>?_)
 refine sq fun K1 hK1=>pl0 (ple E (.bx (t:=104) S [iv x.f0,iv x.f1,iv x.f2,iv x.f3,.bool x.f4,.bool x.f5]) ?_)
 rintro _ u3 a ⟨b2,rfl,hb2,S,hg⟩ E
 refine plc E (.r 1 1 .nil) (fun a E=>pld (hK1 _ _ (rg E (.r 0 1<|.b 1 0 hb2<|.r 2 1<|.nil) fun a E=>(wp_ret ?_))))
 replace S:=S.tail
 obtain rfl:=si H
 exact rt1 E ⟨_,rfl,_,rfl,S⟩
def qAm.f(x:qA)(xf0_:Int)(xf1_:Int):Option Bool:=if xf0_=0 then (if xf1_=0 then (some true) else (some (x.f2 == xf1_))) else (if x.f1=xf0_ then (if xf1_=0 then (some true) else (some (x.f2 == xf1_))) else (some false))
def qAm.Post(W F:World)(r:Bool)(v:Value)(w':World):Prop:=∃(F':World),v = .bool r∧Sm W F w' F' []
theorem qAm.calls(x:qA)(xf0_:Int)(xf1_:Int)(pf0_:Nat)(pf1_:Nat)(r:Bool)(W F:World)(hown:Sub F W)(hpf0_:F.heap[pf0_]? = some (.cells #[iv xf0_] 3 (0,0)))(hpf1_:F.heap[pf1_]? = some (.cells #[iv xf1_] 3 (0,0)))(H:qAm.f x xf0_ xf1_=some r):
    Cr 241 #[.agg #[iv x.f0,iv x.f1,iv x.f2,iv x.f3,.bool x.f4,.bool x.f5],.pointer (pb pf0_),.pointer (pb pf1_)] W (qAm.Post W F r):=by
 have S:=St.start (Own.nil hown)
 unfold qAm.f at H
 refine ent 23 rfl rfl rfl (fun a E=>?_)
 refine sq fun K1 hK1=>pl0 (ple E (.bx (t:=104) S [iv x.f0,iv x.f1,iv x.f2,iv x.f3,.bool x.f4,.bool x.f5]) ?_)
 rintro _ u3 a ⟨b2,rfl,hb2,S,hg⟩ E
 refine plc E (.r 1 1 .nil) (fun a E=>pld (hK1 _ _ (sq fun K4 hK4=>pl0 (plc E (.b 0 0 (S.own.sub _ _ _ _ hpf0_)<|.r 1 2<|.nil) (fun a E=>?_)))))
 rcases sp H with ⟨c5,H⟩ | ⟨c5,H⟩
 ·
  replace E:=E.kt 7 c5
  refine plc E (.r 3 6<|.b 9 0 (S.own.sub _ _ _ _ hpf1_)<|.r 10 2<|.nil) (fun a E=>?_)
  rcases sp H with ⟨c6,H⟩ | ⟨c6,H⟩
  ·
   replace E:=E.kt 16 c6
   refine plc E (.r 12 7 .nil) (fun a E=>pld (hK4 _ _ (wp_ret ?_)))
   replace S:=S.tail
   obtain rfl:=si H
   exact rt1 E ⟨_,rfl,_,rfl,S⟩
  replace E:=E.kf 16 c6
  refine plc E (.r 12 1<|.b 13 2 hb2<|.b 14 0 (S.own.sub _ _ _ _ hpf1_)<|.r 15 4<|.nil) (fun a E=>pld (hK4 _ _ (wp_ret ?_)))
  replace S:=S.tail
  obtain rfl:=si H
  exact rt1 E ⟨_,rfl,_,rfl,S⟩
 replace E:=E.kf 7 c5
 refine plc E (.r 3 1<|.b 4 1 hb2<|.b 5 0 (S.own.sub _ _ _ _ hpf0_)<|.r 6 3<|.nil) (fun a E=>?_)
 rcases sp H with ⟨c7,H⟩ | ⟨c7,H⟩
 ·
  replace E:=E.kt 13 c7
  refine plc E (.b 9 0 (S.own.sub _ _ _ _ hpf1_)<|.r 10 2<|.nil) (fun a E=>?_)
  rcases sp H with ⟨c8,H⟩ | ⟨c8,H⟩
  ·
   replace E:=E.kt 16 c8
   refine plc E (.r 12 7 .nil) (fun a E=>pld (hK4 _ _ (wp_ret ?_)))
   replace S:=S.tail
   obtain rfl:=si H
   exact rt1 E ⟨_,rfl,_,rfl,S⟩
  replace E:=E.kf 16 c8
  refine plc E (.r 12 1<|.b 13 2 hb2<|.b 14 0 (S.own.sub _ _ _ _ hpf1_)<|.r 15 4<|.nil) (fun a E=>pld (hK4 _ _ (wp_ret ?_)))
  replace S:=S.tail
  obtain rfl:=si H
  exact rt1 E ⟨_,rfl,_,rfl,S⟩
 replace E:=E.kf 13 c7
 refine plc E (.r 9 10 .nil) (fun a E=>pld (hK4 _ _ (wp_ret ?_)))
 replace S:=S.tail
 obtain rfl:=si H
 exact rt1 E ⟨_,rfl,_,rfl,S⟩
mutual
def qN.l19:Nat→List qA→Int→Int→List qB→Int→Option (List qB)
 | 0,_,_,_,_,_=>none
 | k+1,x,x1c0_,x1c1_,l16,x17=>if x17<(x.length:Int) then (if 0≤x17∧x17<(x.length:Int) then ((qAm.f (nth qA.z x x17) x1c0_ x1c1_).bind fun t39=>(if t39=true then ((qAl.f (nth qA.z x x17)).bind fun t44=>((qG.f k l16 t44).bind fun t47=>(if t47.2=true then (qN.j72 k x x1c0_ x1c1_ x17 t47 l16) else ((qAl.f (nth qA.z x x17)).bind fun t53=>((qq.f l16 t47.1 [(⟨t53,0⟩:qB)]).bind fun t60=>(qN.j72 k x x1c0_ x1c1_ x17 t47 t60)))))) else (qN.l19 k x x1c0_ x1c1_ l16 (w64 (x17+1))))) else (none)) else (some l16)
def qN.j72:Nat→List qA→Int→Int→Int→Int × Bool→List qB→Option (List qB)
 | 0,_,_,_,_,_,_=>none
 | k+1,x,x1c0_,x1c1_,x17,t47,l70=>if ((nth qA.z x x17).f5)=true then (if 0≤t47.1∧t47.1<(l70.length:Int) then (qN.l19 k x x1c0_ x1c1_ (l70.set (t47.1).toNat (⟨(nth qB.z l70 t47.1).f0,(if (w64 ((nth qB.z l70 t47.1).f1+(nth qA.z x x17).f3))<65536 then (w64 ((nth qB.z l70 t47.1).f1+(nth qA.z x x17).f3)) else 65536)⟩:qB)) (w64 (x17+1))) else (none)) else (qN.l19 k x x1c0_ x1c1_ l70 (w64 (x17+1)))
end
theorem qN.l19_s k x x1c0_ x1c1_ l16 x17:type_of% (qN.l19.eq_2 x x1c0_ x1c1_ l16 x17 k):=qN.l19.eq_2 x x1c0_ x1c1_ l16 x17 k
theorem qN.j72_s k x x1c0_ x1c1_ x17 t47 l70:type_of% (qN.j72.eq_2 x x1c0_ x1c1_ x17 t47 l70 k):=qN.j72.eq_2 x x1c0_ x1c1_ x17 t47 l70 k
def qN.f(k:Nat)(x:List qA)(x1c0_:Int)(x1c1_:Int):Option (List qB):=(qAA.f k x).bind fun t6=>(if t6=0 then (qN.l19 k x x1c0_ x1c1_ [] 0) else (some []))
def qN.Post(W F:World)(r:List qB)(v:Value)(w':World):Prop:=∃(F':World)(RA0_0:OA)(rc0_0:Nat),v = .slice RA0_0 r.length rc0_0∧Sm W F w' F' [row qB.k 216 (.slice RA0_0 r.length rc0_0) r]
theorem qN.calls(k:Nat)(x:List qA)(x1c0_:Int)(x1c1_:Int)(A0_0:OA)(c0_0:Nat)(p1c0_:Nat)(p1c1_:Nat)(r:List qB)(W F:World)(hown:Sub F W)(g0_0:Rd qA.k F A0_0 c0_0 x)(hp1c0_:F.heap[p1c0_]? = some (.cells #[iv x1c0_] 3 (0,0)))(hp1c1_:F.heap[p1c1_]? = some (.cells #[iv x1c1_] 3 (0,0)))(H:qN.f k x x1c0_ x1c1_=some r):
    Cr 236 #[.slice A0_0 x.length c0_0,.func (.func 241) #[] #[.pointer (pb p1c0_),.pointer (pb p1c1_)],.func (.func 242) #[] #[]] W (qN.Post W F r):=by
 have S:=St.start (Own.nil hown)
 unfold qN.f at H
 refine ent 60 rfl rfl rfl (fun a E=>?_)
 refine rr E fun a E=>(rr E fun a E=>(sq fun K3 hK3=>sq fun K4 hK4=>pl0 (plc E (.r 0 1 .nil) (fun a E=>?_))))
 obtain ⟨t6,h7,H⟩:=bd H
 refine ple E (.cl en80 (qAA.calls k x _ _ _ _ _ S.own.sub g0_0 h7)) ?_
 rintro _ u5 a ⟨_,rfl,hC⟩ E
 replace S:=S.lent hC
 refine plc E (.r 2 1 .nil) (fun a E=>pld (hK4 _ _ ?_))
 refine E.ikn 14 H (fun c8 E H=>?_) fun c8 E H=>?_
 ·
  refine wp_skip (hK3 _ _ (sq fun K11 hK11=>rr E fun a E=>(wp_block ?_)))
  replace S:=S.nilrow qB.k 216
  refine wp_loop_ghost (fun kq20 a w'=>∃(G:NV)(A14:OA)(c15:Nat)(l16:List qB)(x17:Int)(F18:World),kq20≤k∧Env 60 G a∧At G [(1,.func (.func 241) #[] #[.pointer (pb p1c0_),.pointer (pb p1c1_)]),(2,.func (.func 242) #[] #[]),(7,.slice A14 l16.length c15),(15,.slice A0_0 x.length c0_0),(16,iv (x.length:Int)),(17,iv x17)]∧Sm W F w' F18 [row qB.k 216 (.slice A14 l16.length c15) l16]∧Rd qA.k F18 A0_0 c0_0 x∧F18.heap[p1c0_]? = some (.cells #[iv x1c0_] 3 (0,0))∧F18.heap[p1c1_]? = some (.cells #[iv x1c1_] 3 (0,0))∧qN.l19 kq20 x x1c0_ x1c1_ l16 x17=some r) k ⟨_,none,0,[],0,F,Nat.le_refl _,E,.of,S,g0_0,hp1c0_,hp1c1_,H⟩ ?_
  rintro kq20 a u22 ⟨G,A14,c15,l16,x17,F18,hkq,E,A,S,g0_0,hp1c0_,hp1c1_,H⟩
  obtain _ | k21:=kq20
  ·
   exact zz H
  rw [qN.l19_s]at H
  obtain ⟨J,E⟩:=E.at A
  refine rr E fun a E=>(sq fun K24 hK24=>?_)
  refine E.ik 18 H (fun c25 E H=>?_) fun c25 E H=>?_
  ·
   refine wp_skip (hK24 _ _ (sq fun K26 hK26=>wp_block (sq fun K27 hK27=>pl0 ?_)))
   obtain ⟨c28,H⟩:=gd H
   have hE_:=E
   obtain ⟨ad29,rfl⟩:=g0_0.addr c28.1 c28.2
   replace E:=hE_
   obtain ⟨cs31,rfl,hc32⟩:=g0_0.el qA.z x17 c28.1 c28.2
   refine plc E (.x 0 c28<|.cs 1 (S.fcs hc32)<|.nil) (fun a E=>ple E (.al (t:=104) S [iv 0,iv 0,iv 0,iv 0,.bool false,.bool false]) ?_)
   rintro _ u34 a ⟨b33,rfl,hb33,S,hg⟩ E
   refine ple E (.sto S [iv ((nth qA.z x x17).f0),iv ((nth qA.z x x17).f1),iv ((nth qA.z x x17).f2),iv ((nth qA.z x x17).f3),.bool ((nth qA.z x x17).f4),.bool ((nth qA.z x x17).f5)]) ?_
   rintro _ u35 a ⟨rfl,hb33,S,hz⟩ E
   refine pld (hK27 _ _ (sq fun K36 hK36=>sq fun K37 hK37=>pl0 (plc E (.r 0 1<|.bn 1 0 6 hb33<|.nil) (fun a E=>?_))))
   obtain ⟨t39,h40,H⟩:=bd H
   refine ple E (.cl en241 (qAm.calls (nth qA.z x x17) x1c0_ x1c1_ _ _ _ _ _ S.own.sub hp1c0_ hp1c1_ h40)) ?_
   rintro _ u38 a ⟨_,rfl,hC⟩ E
   replace S:=S.lent hC
   refine plc E (.r 3 1 .nil) (fun a E=>pld (hK37 _ _ ?_))
   refine E.ibn 24 H (fun c41 E H=>?_) fun c41 E H=>?_
   ·
    refine wp_skip (hK36 _ _ (sq fun K42 hK42=>pl0 ?_))
    have hb33:=S.ba 0
    refine plc E (.r 0 2<|.bn 2 0 6 hb33<|.nil) (fun a E=>?_)
    obtain ⟨t44,h45,H⟩:=bd H
    refine ple E (.cl en242 (qAl.calls (nth qA.z x x17) _ _ _ S.own.sub h45)) ?_
    rintro _ u43 a ⟨_,rfl,hC⟩ E
    replace S:=S.lent hC
    obtain ⟨t47,h48,H⟩:=bd H
    refine ple E (.cl en254 (qG.calls k21 l16 t44 _ _ _ _ _ (Sub.refl _) (S.rd_at (i:=1) rfl) h48)) ?_
    rintro _ u46 a ⟨_,rfl,hC⟩ E
    replace S:=S.lent hC
    refine plc E (.r 5 5 .nil) (fun a E=>pld (hK42 _ _ (sq fun K49 hK49=>?_)))
    have J75:∀ kq73,kq73≤k21→∀(G:NV)(A68:OA)(c69:Nat)(l70:List qB)(F71:World)(a:Act)(w':World),Env 60 G a→At G [(1,.func (.func 241) #[] #[.pointer (pb p1c0_),.pointer (pb p1c1_)]),(2,.func (.func 242) #[] #[]),(7,.slice A68 l70.length c69),(9,.pointer (pb b33)),(10,iv t47.1),(15,.slice (some ad29) x.length c0_0),(16,iv (x.length:Int)),(17,iv x17)]→Sm W F w' F71 [box b33 #[iv ((nth qA.z x x17).f0),iv ((nth qA.z x x17).f1),iv ((nth qA.z x x17).f2),iv ((nth qA.z x x17).f3),.bool ((nth qA.z x x17).f4),.bool ((nth qA.z x x17).f5)] 104,row qB.k 216 (.slice A68 l70.length c69) l70]→Rd qA.k F71 (some ad29) c0_0 x→F71.heap[p1c0_]? = some (.cells #[iv x1c0_] 3 (0,0))→F71.heap[p1c1_]? = some (.cells #[iv x1c1_] 3 (0,0))→qN.j72 kq73 x x1c0_ x1c1_ x17 t47 l70=some r→K49 a w':=by
     intro kq73 hkq G A68 c69 l70 F71 a u76 E A S g0_0 hp1c0_ hp1c1_ H
     obtain _ | k74:=kq73
     ·
      exact zz H
     rw [qN.j72_s]at H
     obtain ⟨J,E⟩:=E.at A
     refine hK49 _ _ (sq fun K77 hK77=>pl0 ?_)
     have hb33:=S.ba 0
     refine plc E (.r 0 1<|.b 1 5 hb33<|.nil) (fun a E=>pld (hK77 _ _ ?_))
     refine E.ib 44 H (fun c78 E H=>?_) fun c78 E H=>?_
     ·
      refine drawn 14 ⟨[13],[],fun q=>False⟩ mixed rfl (by kernel_rfl) (fun hst=>?_)
      replace S:=S.drew
      obtain ⟨c79,H⟩:=gd H
      have hr80:=S.ra 1
      have hE_:=E
      obtain ⟨b81,rfl⟩:=qBo hr80 c79.1 c79.2
      replace E:=hE_
      have hr_:=S.ra 1
      obtain ⟨cs83,rfl,hc84⟩:=qBh hr_ qB.z t47.1 c79.1 c79.2
      have hb33:=S.ba 0
      have hr85:=S.ra 1
      refine mny 1 hst E (.r 0 4<|.x 4 c79<|.r 5 1<|.c 6 (hc84 1 _ rfl)<|.r 7 1<|.b 8 3 hb33<|.r 9 2<|.x 11 c79<|.r 12 1<|.nil) (fun a E=>?_)
      replace S:=S.front 1 rfl
      obtain ⟨cs90,rfl,hc91⟩:=qBh (S.row_at (i:=0) rfl) qB.z t47.1 c79.1 c79.2
      refine on1 13 E (.set (d:=qB.k) (n:=l70.length) (i:=t47.1) (⟨(nth qB.z l70 t47.1).f0,(if (w64 ((nth qB.z l70 t47.1).f1+(nth qA.z x x17).f3))<65536 then (w64 ((nth qB.z l70 t47.1).f1+(nth qA.z x x17).f3)) else 65536)⟩:qB) 1 (ea1 _ _ _) S c79 [iv ((nth qB.z l70 t47.1).f0),iv ((nth qB.z l70 t47.1).f1)] hc91 [iv ((nth qB.z l70 t47.1).f0),iv (if (w64 ((nth qB.z l70 t47.1).f1+(nth qA.z x x17).f3))<65536 then (w64 ((nth qB.z l70 t47.1).f1+(nth qA.z x x17).f3)) else 65536)] rfl) ?_
      rintro _ u89 a ⟨rfl,S,hz⟩ E
      refine ⟨.d,?_⟩
      refine dn ?_
      refine qBd ?_
      refine hK26 _ _ (pl0 (plc E (.r 0 2 .nil) (fun a E=>pld ?_)))
      have hn92:=(qBe (S.row_at (i:=0) rfl)).1
      replace E:=E.set (d:=7) (v:=.slice (pb b81) ((l70.set (t47.1).toNat (⟨(nth qB.z l70 t47.1).f0,(if (w64 ((nth qB.z l70 t47.1).f1+(nth qA.z x x17).f3))<65536 then (w64 ((nth qB.z l70 t47.1).f1+(nth qA.z x x17).f3)) else 65536)⟩:qB)).length) c69) (Eq.trans (b:=.slice (pb b81) l70.length c69) (by kernel_rfl) (by rw [← hn92]))
      replace S:Sm W F u89 F71 [row qB.k 216 (.slice (pb b81) ((l70.set (t47.1).toNat (⟨(nth qB.z l70 t47.1).f0,(if (w64 ((nth qB.z l70 t47.1).f1+(nth qA.z x x17).f3))<65536 then (w64 ((nth qB.z l70 t47.1).f1+(nth qA.z x x17).f3)) else 65536)⟩:qB)).length) c69) (l70.set (t47.1).toNat (⟨(nth qB.z l70 t47.1).f0,(if (w64 ((nth qB.z l70 t47.1).f1+(nth qA.z x x17).f3))<65536 then (w64 ((nth qB.z l70 t47.1).f1+(nth qA.z x x17).f3)) else 65536)⟩:qB)),box b33 #[iv ((nth qA.z x x17).f0),iv ((nth qA.z x x17).f1),iv ((nth qA.z x x17).f2),iv ((nth qA.z x x17).f3),.bool ((nth qA.z x x17).f4),.bool ((nth qA.z x x17).f5)] 104]:=by rw [← hn92]; exact S
      replace S:=S.pm [0] 2
      exact qBf ⟨k74,by omega,_,(pb b81),c69,(l70.set (t47.1).toNat (⟨(nth qB.z l70 t47.1).f0,(if (w64 ((nth qB.z l70 t47.1).f1+(nth qA.z x x17).f3))<65536 then (w64 ((nth qB.z l70 t47.1).f1+(nth qA.z x x17).f3)) else 65536)⟩:qB)),(w64 (x17+1)),F71,by omega,E,.of,S,g0_0,hp1c0_,hp1c1_,H⟩
     refine wp_skip ?_
     refine qBd ?_
     refine hK26 _ _ (pl0 (plc E (.r 0 2 .nil) (fun a E=>pld ?_)))
     replace S:=S.tail
     exact qBf ⟨k74,by omega,_,A68,c69,l70,(w64 (x17+1)),F71,by omega,E,.of,S,g0_0,hp1c0_,hp1c1_,H⟩
    refine rr E fun a E=>?_
    refine E.ibn 34 H (fun c51 E H=>?_) fun c51 E H=>?_
    ·
     refine wp_skip ?_
     exact J75 _ (by omega) _ A14 c15 l16 F18 _ _ E .of S g0_0 hp1c0_ hp1c1_ H
    refine pl0 ?_
    have hb33:=S.ba 0
    refine plc E (.r 0 3<|.bn 3 0 6 hb33<|.nil) (fun a E=>?_)
    obtain ⟨t53,h54,H⟩:=bd H
    refine ple E (.cl en242 (qAl.calls (nth qA.z x x17) _ _ _ S.own.sub h54)) ?_
    rintro _ u52 a ⟨_,rfl,hC⟩ E
    replace S:=S.lent hC
    refine plc E (.r 5 1 .nil) (fun a E=>ple E (.lit (d:=qB.k) (e:=216) S [(⟨t53,0⟩:qB)] (.cons rfl .nil)) ?_)
    rintro _ u55 a ⟨A56,c57,rfl,S,hg⟩ E
    replace S:=S.front 2 rfl
    obtain ⟨t60,h61,H⟩:=bd H
    refine ple E (.cl en256 (qq.calls l16 t47.1 [(⟨t53,0⟩:qB)] _ _ _ _ _ _ _ (Own.left (X:=[row qB.k 216 (.slice A14 l16.length c15) l16,row qB.k 216 (.slice A56 ([(⟨t53,0⟩:qB)].length) c57) [(⟨t53,0⟩:qB)]]) S.own) h61)) ?_
    rintro _ u59 a ⟨F62,A63,c64,rfl,hC⟩ E
    have hs:=hC.sub
    replace S:=S.called (X:=[row qB.k 216 (.slice A14 l16.length c15) l16,row qB.k 216 (.slice A56 ([(⟨t53,0⟩:qB)].length) c57) [(⟨t53,0⟩:qB)]]) hC
    replace g0_0:=g0_0.mono hs
    replace hp1c0_:=hs _ _ _ _ hp1c0_
    replace hp1c1_:=hs _ _ _ _ hp1c1_
    refine plc E (.r 8 1 .nil) (fun a E=>pld ?_)
    replace S:=S.front 1 rfl
    exact J75 _ (by omega) _ A63 c64 t60 F62 _ _ E .of S g0_0 hp1c0_ hp1c1_ H
   refine wp_exit ?_
   refine hK26 _ _ (pl0 (plc E (.r 0 2 .nil) (fun a E=>pld ?_)))
   replace S:=S.tail
   exact qBf ⟨k21,by omega,_,A14,c15,l16,(w64 (x17+1)),F18,by omega,E,.of,S,g0_0,hp1c0_,hp1c1_,H⟩
  refine wp_exit ?_
  refine hK11 _ _ (rr E fun a E=>(wp_ret ?_))
  obtain rfl:=si H
  exact rt1 E ⟨_,rfl,_,_,_,rfl,S⟩
 refine rr E fun a E=>(wp_ret (qBb ?_))
 replace S:=S.nilrow qB.k 216
 obtain rfl:=si H
 exact rt1 E ⟨_,rfl,_,_,_,rfl,S⟩
def qBF.f(k:Nat)(x:List qA)(y:Int)(z:Int):Option (List qB):=(qN.f k x y z).bind fun t12=>(some t12)
def qBF.Post(W F:World)(r:List qB)(v:Value)(w':World):Prop:=∃(F':World)(RA0_0:OA)(rc0_0:Nat),v = .slice RA0_0 r.length rc0_0∧Sm W F w' F' [row qB.k 216 (.slice RA0_0 r.length rc0_0) r]
theorem qBF.calls(k:Nat)(x:List qA)(y:Int)(z:Int)(A0_0:OA)(c0_0:Nat)(r:List qB)(W F:World)(hown:Sub F W)(g0_0:Rd qA.k F A0_0 c0_0 x)(H:qBF.f k x y z=some r):
    Cr 227 #[.slice A0_0 x.length c0_0,iv y,iv z] W (qBF.Post W F r):=by
 have S:=St.start (Own.nil hown)
 unfold qBF.f at H
 refine ent 10 rfl rfl rfl (fun a E=>?_)
 refine sq fun K1 hK1=>pl0 (ple E (.bx (t:=3) S [iv y]) ?_)
 rintro _ u3 a ⟨b2,rfl,hb2,S,hg⟩ E
 refine ple E (.bx (t:=3) S [iv z]) ?_
 rintro _ u5 a ⟨b4,rfl,hb4,S,hg⟩ E
 refine plc E (.r 2 1 .nil) (fun a E=>pld (hK1 _ _ (sq fun K6 hK6=>pl0 (plc E (.r 0 2 .nil) (fun a E=>?_)))))
 replace S:=S.front 1 rfl
 obtain ⟨F7,hs,g8,S⟩:=S.giveb
 replace g0_0:=g0_0.mono hs
 obtain ⟨F9,hs,g10,S⟩:=S.giveb
 replace g0_0:=g0_0.mono hs
 replace g8:=hs _ _ _ _ g8
 obtain ⟨t12,h13,H⟩:=bd H
 refine ple E (.cl en236 (qN.calls k x y z _ _ _ _ _ _ _ S.own.sub g0_0 g8 g10 h13)) ?_
 rintro _ u11 a ⟨F14,A15,c16,rfl,hC⟩ E
 have hs:=hC.sub
 replace S:=S.called (X:=[]) hC
 replace g0_0:=g0_0.mono hs
 replace g8:=hs _ _ _ _ g8
 replace g10:=hs _ _ _ _ g10
 refine plc E (.r 3 1 .nil) (fun a E=>pld (hK6 _ _ (wp_ret ?_)))
 obtain rfl:=si H
 exact rt1 E ⟨_,rfl,_,_,_,rfl,S⟩
mutual
def qAU.l9:Nat→List qB→Int→Option Int
 | 0,_,_=>none
 | k+1,x,x8=>if x8<(x.length:Int) then (if 0≤x8∧x8<(x.length:Int) then (if (nth qB.z x x8).f0<0 then (qAU.j37 k x x8 true) else (if (nth qB.z x x8).f0>2147483647 then (qAU.j37 k x x8 true) else (if (nth qB.z x x8).f1<0 then (qAU.j37 k x x8 true) else (if (nth qB.z x x8).f1>65536 then (qAU.j37 k x x8 true) else (if x8>0 then (if 0≤(w64 (x8 - 1))∧(w64 (x8 - 1))<(x.length:Int) then (qAU.j37 k x x8 (decide ((nth qB.z x x8).f0≤(nth qB.z x (w64 (x8 - 1))).f0))) else (none)) else (qAU.j37 k x x8 false)))))) else (none)) else (some 0)
def qAU.j37:Nat→List qB→Int→Bool→Option Int
 | 0,_,_,_=>none
 | k+1,x,x8,y36=>if y36=true then (some 1) else (qAU.l9 k x (w64 (x8+1)))
end
theorem qAU.l9_s k x x8:type_of% (qAU.l9.eq_2 x x8 k):=qAU.l9.eq_2 x x8 k
theorem qAU.j37_s k x x8 y36:type_of% (qAU.j37.eq_2 x x8 y36 k):=qAU.j37.eq_2 x x8 y36 k
def qAU.f(k:Nat)(x:List qB):Option Int:=if (x.length:Int)>64 then (some 1) else (qAU.l9 k x 0)
def qAU.Post(W F:World)(r:Int)(v:Value)(w':World):Prop:=∃(F':World),v=iv r∧Sm W F w' F' []
theorem qAU.calls(k:Nat)(x:List qB)(A0_0:OA)(c0_0:Nat)(r:Int)(W F:World)(hown:Sub F W)(g0_0:Rd qB.k F A0_0 c0_0 x)(H:qAU.f k x=some r):
    Cr 243 #[.slice A0_0 x.length c0_0] W (qAU.Post W F r):=by
 have S:=St.start (Own.nil hown)
 unfold qAU.f at H
 refine ent 49 rfl rfl rfl (fun a E=>?_)
 refine rr E fun a E=>(sq fun K2 hK2=>rr E fun a E=>?_)
 refine E.ik 7 H (fun c4 E H=>?_) fun c4 E H=>?_
 ·
  refine rr E fun a E=>(wp_ret (qBb ?_))
  obtain rfl:=si H
  exact rt1 E ⟨_,rfl,_,rfl,S⟩
 refine wp_skip (hK2 _ _ (sq fun K6 hK6=>rr E fun a E=>(wp_block ?_)))
 refine wp_loop_ghost (fun kq10 a w'=>∃(G:NV)(x8:Int),kq10≤k∧Env 49 G a∧At G [(0,.slice A0_0 x.length c0_0),(8,.slice A0_0 x.length c0_0),(9,iv (x.length:Int)),(10,iv x8)]∧Sm W F w' F []∧qAU.l9 kq10 x x8=some r) k ⟨_,0,Nat.le_refl _,E,.of,S,H⟩ ?_
 rintro kq10 a u12 ⟨G,x8,hkq,E,A,S,H⟩
 obtain _ | k11:=kq10
 ·
  exact zz H
 rw [qAU.l9_s]at H
 obtain ⟨J,E⟩:=E.at A
 refine rr E fun a E=>(sq fun K14 hK14=>?_)
 refine E.ik 11 H (fun c15 E H=>?_) fun c15 E H=>?_
 ·
  refine wp_skip (hK14 _ _ (sq fun K16 hK16=>wp_block (sq fun K17 hK17=>pl0 ?_)))
  obtain ⟨c18,H⟩:=gd H
  have hE_:=E
  obtain ⟨ad19,rfl⟩:=g0_0.addr c18.1 c18.2
  replace E:=hE_
  obtain ⟨cs21,rfl,hc22⟩:=g0_0.el qB.z x8 c18.1 c18.2
  refine plc E (.r 0 1<|.x 1 c18<|.cs 2 (S.fcs hc22)<|.nil) (fun a E=>ple E (.al (t:=216) S [iv 0,iv 0]) ?_)
  rintro _ u24 a ⟨b23,rfl,hb23,S,hg⟩ E
  refine plc E (.r 4 1 .nil) (fun a E=>ple E (.sto S [iv ((nth qB.z x x8).f0),iv ((nth qB.z x x8).f1)]) ?_)
  rintro _ u25 a ⟨rfl,hb23,S,hz⟩ E
  refine pld (hK17 _ _ (sq fun K26 hK26=>?_))
  have J40:∀ kq38,kq38≤k11→∀(G:NV)(y36:Bool)(a:Act)(w':World),Env 49 G a→At G [(0,.slice (some ad19) x.length c0_0),(8,.slice (some ad19) x.length c0_0),(9,iv (x.length:Int)),(10,iv x8),(47,.bool y36)]→Sm W F w' F [box b23 #[iv ((nth qB.z x x8).f0),iv ((nth qB.z x x8).f1)] 216]→qAU.j37 kq38 x x8 y36=some r→K26 a w':=by
   intro kq38 hkq G y36 a u41 E A S H
   obtain _ | k39:=kq38
   ·
    exact zz H
   rw [qAU.j37_s]at H
   obtain ⟨J,E⟩:=E.at A
   refine hK26 _ _ ?_
   refine E.ib 47 H (fun c42 E H=>?_) fun c42 E H=>?_
   ·
    refine rr E fun a E=>(wp_ret (qBc (qBb (qBb (qBc (qBb ?_))))))
    replace S:=S.tail
    obtain rfl:=si H
    exact rt1 E ⟨_,rfl,_,rfl,S⟩
   refine wp_skip ?_
   refine qBd ?_
   refine hK16 _ _ (pl0 (plc E (.r 0 2 .nil) (fun a E=>pld ?_)))
   replace S:=S.tail
   exact qBf ⟨k39,by omega,_,(w64 (x8+1)),by omega,E,.of,S,H⟩
  refine drawn 33 ⟨[],[],fun q=>False⟩ mixed rfl (by kernel_rfl) (fun hst=>?_)
  replace S:=S.drew
  have hb23:=S.ba 0
  refine mny 29 hst E (.r 0 1<|.b 1 0 hb23<|.r 2 2<|.nil) (fun a E=>?_)
  rcases sp H with ⟨c27,H⟩ | ⟨c27,H⟩
  ·
   replace E:=E.kt 18 c27
   refine mny 0 hst E (.r 4 29 .nil) (fun a E=>?_)
   refine dn ?_
   exact J40 _ (by omega) _ true _ _ E .of S H
  replace E:=E.kf 18 c27
  refine mny 24 hst E (.r 4 1<|.b 5 0 hb23<|.r 6 3<|.nil) (fun a E=>?_)
  rcases sp H with ⟨c28,H⟩ | ⟨c28,H⟩
  ·
   replace E:=E.kt 23 c28
   refine mny 0 hst E (.r 9 24 .nil) (fun a E=>?_)
   refine dn ?_
   exact J40 _ (by omega) _ true _ _ E .of S H
  replace E:=E.kf 23 c28
  refine mny 19 hst E (.r 9 1<|.b 10 1 hb23<|.r 11 3<|.nil) (fun a E=>?_)
  rcases sp H with ⟨c29,H⟩ | ⟨c29,H⟩
  ·
   replace E:=E.kt 28 c29
   refine mny 0 hst E (.r 14 19 .nil) (fun a E=>?_)
   refine dn ?_
   exact J40 _ (by omega) _ true _ _ E .of S H
  replace E:=E.kf 28 c29
  refine mny 14 hst E (.r 14 1<|.b 15 1 hb23<|.r 16 3<|.nil) (fun a E=>?_)
  rcases sp H with ⟨c30,H⟩ | ⟨c30,H⟩
  ·
   replace E:=E.kt 33 c30
   refine mny 0 hst E (.r 19 14 .nil) (fun a E=>?_)
   refine dn ?_
   exact J40 _ (by omega) _ true _ _ E .of S H
  replace E:=E.kf 33 c30
  refine mny 11 hst E (.r 19 3 .nil) (fun a E=>?_)
  rcases sp H with ⟨c31,H⟩ | ⟨c31,H⟩
  ·
   replace E:=E.kt 36 c31
   obtain ⟨c32,H⟩:=gd H
   obtain ⟨cs34,rfl,hc35⟩:=g0_0.el qB.z (w64 (x8 - 1)) c32.1 c32.2
   refine mny 0 hst E (.r 22 1<|.b 23 0 hb23<|.r 24 3<|.x 27 c32<|.r 28 1<|.c 29 (S.fc hc35 0)<|.r 30 3<|.nil) (fun a E=>?_)
   refine dn ?_
   exact J40 _ (by omega) _ (decide ((nth qB.z x x8).f0≤(nth qB.z x (w64 (x8 - 1))).f0)) _ _ E .of S H
  replace E:=E.kf 36 c31
  refine mny 0 hst E (.r 22 11 .nil) (fun a E=>?_)
  refine dn ?_
  exact J40 _ (by omega) _ false _ _ E .of S H
 refine wp_exit ?_
 refine hK6 _ _ (rr E fun a E=>(wp_ret ?_))
 obtain rfl:=si H
 exact rt1 E ⟨_,rfl,_,rfl,S⟩
def qAL.f(x:List qB):Option (List qB):=if ((([]:List qB).length:Int)+(x.length:Int)) * 16≤140737488355328 then (some (([]:List qB)++x)) else (none)
def qAL.Post(W F:World)(r:List qB)(v:Value)(w':World):Prop:=∃(F':World)(RA0_0:OA)(rc0_0:Nat),v = .slice RA0_0 r.length rc0_0∧Sm W F w' F' [row qB.k 216 (.slice RA0_0 r.length rc0_0) r]
theorem qAL.calls(x:List qB)(A0_0:OA)(c0_0:Nat)(r:List qB)(W F:World)(hown:Sub F W)(g0_0:Rd qB.k F A0_0 c0_0 x)(H:qAL.f x=some r):
    Cr 245 #[.slice A0_0 x.length c0_0] W (qAL.Post W F r):=by
 have S:=St.start (Own.nil hown)
 unfold qAL.f at H
 refine ent 8 rfl rfl rfl (fun a E=>?_)
 rcases A0_0 with _ | ad1
 ·
  have hnil:=g0_0.none_nil
  replace H:(some [])=some r:=by simpa [hnil] using H
  refine rr E fun a E=>(sq fun K3 hK3=>rr E fun a E=>(ct E (rr E fun a E=>(wp_ret (qBb ?_)))))
  replace S:=S.nilrow qB.k 216
  obtain rfl:=si H
  exact rt1 E ⟨_,rfl,_,_,_,rfl,S⟩
 refine rr E fun a E=>(sq fun K8 hK8=>rr E fun a E=>(cf E (wp_skip (hK8 _ _ (sq fun K10 hK10=>pl0 (ple E (.lit (d:=qB.k) (e:=216) S ([]:List qB) (.nil)) ?_))))))
 rintro _ u11 a ⟨A12,c13,rfl,S,hg⟩ E
 refine plc E (.r 1 1 .nil) (fun a E=>?_)
 obtain ⟨c15,H⟩:=gd H
 refine ple E (.ap (d:=qB.k) 16 S (g0_0.src S.own.sub) c15 c0_0) ?_
 rintro _ u18 a ⟨A16,c17,rfl,S,hz⟩ E
 refine plc E (.r 3 1 .nil) (fun a E=>pld (hK10 _ _ (wp_ret ?_)))
 obtain rfl:=si H
 exact rt1 E ⟨_,rfl,_,_,_,rfl,S⟩
def qAx.f(x:qB):Option Bool:=some (x.f1 == 0)
def qAx.Post(W F:World)(r:Bool)(v:Value)(w':World):Prop:=∃(F':World),v = .bool r∧Sm W F w' F' []
theorem qAx.calls(x:qB)(r:Bool)(W F:World)(hown:Sub F W)(H:qAx.f x=some r):
    Cr 246 #[.agg #[iv x.f0,iv x.f1]] W (qAx.Post W F r):=by
 have S:=St.start (Own.nil hown)
 unfold qAx.f at H
 refine ent 6 rfl rfl rfl (fun a E=>?_)
 refine sq fun K1 hK1=>pl0 (ple E (.bx (t:=216) S [iv x.f0,iv x.f1]) ?_)
 rintro _ u3 a ⟨b2,rfl,hb2,S,hg⟩ E
 refine plc E (.r 1 1 .nil) (fun a E=>pld (hK1 _ _ (rg E (.r 0 1<|.b 1 1 hb2<|.r 2 2<|.nil) fun a E=>(wp_ret ?_))))
 replace S:=S.tail
 obtain rfl:=si H
 exact rt1 E ⟨_,rfl,_,rfl,S⟩
def qAv.l6:Nat→Int→Int→Option Int
 | 0,_,_=>none
 | k+1,x4,x5=>if x5<2 then (qAv.l6 k (IntKind.u64.wrap ((IntKind.u64.wrap (((BitVec.ofInt 64 x4 ^^^ BitVec.ofInt 64 (x4.fdiv 4294967296)).toNat:Int))) * 15485907386658061715)) (w64 (x5+1))) else (some (IntKind.u64.wrap (((BitVec.ofInt 64 x4 ^^^ BitVec.ofInt 64 (x4.fdiv 4294967296)).toNat:Int))))
theorem qAv.l6_s k x4 x5:type_of% (qAv.l6.eq_2 x4 x5 k):=qAv.l6.eq_2 x4 x5 k
def qAv.f(k:Nat)(x:Int):Option Int:=qAv.l6 k x 0
def qAv.Post(W F:World)(r:Int)(v:Value)(w':World):Prop:=∃(F':World),v = .int .u64 r∧Sm W F w' F' []
theorem qAv.calls(k:Nat)(x:Int)(r:Int)(W F:World)(hown:Sub F W)(H:qAv.f k x=some r):
    Cr 250 #[.int .u64 x] W (qAv.Post W F r):=by
 have S:=St.start (Own.nil hown)
 unfold qAv.f at H
 refine ent 16 rfl rfl rfl (fun a E=>?_)
 refine rr E fun a E=>(sq fun K2 hK2=>rr E fun a E=>(wp_block ?_))
 refine wp_loop_ghost (fun kq7 a w'=>∃(G:NV)(x4:Int)(x5:Int),kq7≤k∧Env 16 G a∧At G [(0,.int .u64 x4),(3,iv x5)]∧Sm W F w' F []∧qAv.l6 kq7 x4 x5=some r) k ⟨_,x,0,Nat.le_refl _,E,.of,S,H⟩ ?_
 rintro kq7 a u9 ⟨G,x4,x5,hkq,E,A,S,H⟩
 obtain _ | k8:=kq7
 ·
  exact zz H
 rw [qAv.l6_s]at H
 obtain ⟨J,E⟩:=E.at A
 refine rr E fun a E=>(sq fun K11 hK11=>?_)
 refine E.ik 4 H (fun c12 E H=>?_) fun c12 E H=>?_
 ·
  refine wp_skip (hK11 _ _ (sq fun K13 hK13=>wp_block (rr E fun a E=>(pl0 (plc E (.r 0 3 .nil) (fun a E=>pld ?_))))))
  refine qBd ?_
  refine hK13 _ _ (pl0 (plc E (.r 0 2 .nil) (fun a E=>pld ?_)))
  exact qBf ⟨k8,by omega,_,(IntKind.u64.wrap ((IntKind.u64.wrap (((BitVec.ofInt 64 x4 ^^^ BitVec.ofInt 64 (x4.fdiv 4294967296)).toNat:Int))) * 15485907386658061715)),(w64 (x5+1)),by omega,E,.of,S,H⟩
 refine wp_exit ?_
 refine hK2 _ _ (rr E fun a E=>(wp_ret ?_))
 obtain rfl:=si H
 exact rt1 E ⟨_,rfl,_,rfl,S⟩
def qAi.l10:Nat→List Int→Int→Int→Option Int
 | 0,_,_,_=>none
 | k+1,y,x8,x9=>if x9<(y.length:Int) then (if 0≤x9∧x9<(y.length:Int) then ((qAv.f k (IntKind.u64.wrap ((IntKind.u64.wrap (((BitVec.ofInt 64 x8 ^^^ BitVec.ofInt 64 (nth 0 y x9)).toNat:Int)))+11400714819323198485))).bind fun t25=>(qAi.l10 k y t25 (w64 (x9+1)))) else (none)) else (some x8)
theorem qAi.l10_s k y x8 x9:type_of% (qAi.l10.eq_2 y x8 x9 k):=qAi.l10.eq_2 y x8 x9 k
def qAi.f(k:Nat)(x:Int)(y:List Int):Option Int:=(qAv.f k x).bind fun t4=>(qAi.l10 k y t4 0)
def qAi.Post(W F:World)(r:Int)(v:Value)(w':World):Prop:=∃(F':World),v = .int .u64 r∧Sm W F w' F' []
theorem qAi.calls(k:Nat)(x:Int)(y:List Int)(A1_0:OA)(c1_0:Nat)(r:Int)(W F:World)(hown:Sub F W)(g1_0:Rd (Kn.int .u64) F A1_0 c1_0 y)(H:qAi.f k x y=some r):
    Cr 229 #[.int .u64 x,.slice A1_0 y.length c1_0] W (qAi.Post W F r):=by
 have S:=St.start (Own.nil hown)
 unfold qAi.f at H
 refine ent 23 rfl rfl rfl (fun a E=>?_)
 refine rr E fun a E=>(sq fun K2 hK2=>pl0 (plc E (.r 0 1 .nil) (fun a E=>?_)))
 obtain ⟨t4,h5,H⟩:=bd H
 refine ple E (.cl en250 (qAv.calls k x _ _ _ S.own.sub h5)) ?_
 rintro _ u3 a ⟨_,rfl,hC⟩ E
 replace S:=S.lent hC
 refine plc E (.r 2 1 .nil) (fun a E=>pld (hK2 _ _ (sq fun K6 hK6=>rr E fun a E=>(wp_block ?_))))
 refine wp_loop_ghost (fun kq11 a w'=>∃(G:NV)(x8:Int)(x9:Int),kq11≤k∧Env 23 G a∧At G [(5,.int .u64 x8),(10,.slice A1_0 y.length c1_0),(11,iv (y.length:Int)),(12,iv x9)]∧Sm W F w' F []∧qAi.l10 kq11 y x8 x9=some r) k ⟨_,t4,0,Nat.le_refl _,E,.of,S,H⟩ ?_
 rintro kq11 a u13 ⟨G,x8,x9,hkq,E,A,S,H⟩
 obtain _ | k12:=kq11
 ·
  exact zz H
 rw [qAi.l10_s]at H
 obtain ⟨J,E⟩:=E.at A
 refine rr E fun a E=>(sq fun K15 hK15=>?_)
 refine E.ik 13 H (fun c16 E H=>?_) fun c16 E H=>?_
 ·
  refine wp_skip (hK15 _ _ (sq fun K17 hK17=>wp_block (sq fun K18 hK18=>pl0 ?_)))
  obtain ⟨c19,H⟩:=gd H
  have hE_:=E
  obtain ⟨ad20,rfl⟩:=g1_0.addr c19.1 c19.2
  replace E:=hE_
  obtain ⟨cs22,rfl,hc23⟩:=g1_0.el 0 x9 c19.1 c19.2
  refine plc E (.x 0 c19<|.c 1 (S.fc hc23 0)<|.r 2 1<|.nil) (fun a E=>pld (hK18 _ _ (pl0 (plc E (.r 0 4 .nil) (fun a E=>?_)))))
  obtain ⟨t25,h26,H⟩:=bd H
  refine ple E (.cl en250 (qAv.calls k12 (IntKind.u64.wrap ((IntKind.u64.wrap (((BitVec.ofInt 64 x8 ^^^ BitVec.ofInt 64 (nth 0 y x9)).toNat:Int)))+11400714819323198485)) _ _ _ S.own.sub h26)) ?_
  rintro _ u24 a ⟨_,rfl,hC⟩ E
  replace S:=S.lent hC
  refine plc E (.r 5 1 .nil) (fun a E=>pld ?_)
  refine qBd ?_
  refine hK17 _ _ (pl0 (plc E (.r 0 2 .nil) (fun a E=>pld ?_)))
  exact qBf ⟨k12,by omega,_,t25,(w64 (x9+1)),by omega,E,.of,S,H⟩
 refine wp_exit ?_
 refine hK6 _ _ (rr E fun a E=>(wp_ret ?_))
 obtain rfl:=si H
 exact rt1 E ⟨_,rfl,_,rfl,S⟩
mutual
def qy.j6:Nat→Int→Bool→Option Int
 | 0,_,_=>none
 | k+1,x,y5=>if y5=true then (some 0) else (qy.l17 k x 0)
def qy.l17:Nat→Int→Int→Option Int
 | 0,_,_=>none
 | k+1,x15,x16=>if x15≤32768 then (qy.l17 k (w64 (x15 * 2)) (w64 (x16+1))) else (qy.l31 k x16 (IntKind.u64.wrap ((IntKind.u64.wrap x15) * 32768)) 0 0)
def qy.l31:Nat→Int→Int→Int→Int→Option Int
 | 0,_,_,_,_=>none
 | k+1,x16,x28,x29,x30=>if x30<16 then (if (IntKind.u64.wrap ((IntKind.u64.wrap (x28 * x28)).tdiv 2147483648))≤1073741824 then (qy.l31 k x16 (IntKind.u64.wrap ((IntKind.u64.wrap ((IntKind.u64.wrap (x28 * x28)).tdiv 2147483648)) * 2)) (w64 ((w64 (x29 * 2))+1)) (w64 (x30+1))) else (qy.l31 k x16 (IntKind.u64.wrap ((IntKind.u64.wrap (x28 * x28)).tdiv 2147483648)) (w64 (x29 * 2)) (w64 (x30+1)))) else (some (w64 ((w64 (x16 * 65536))+x29)))
end
theorem qy.j6_s k x y5:type_of% (qy.j6.eq_2 x y5 k):=qy.j6.eq_2 x y5 k
theorem qy.l17_s k x15 x16:type_of% (qy.l17.eq_2 x15 x16 k):=qy.l17.eq_2 x15 x16 k
theorem qy.l31_s k x16 x28 x29 x30:type_of% (qy.l31.eq_2 x16 x28 x29 x30 k):=qy.l31.eq_2 x16 x28 x29 x30 k
def qy.f(k:Nat)(x:Int):Option Int:=if x<1 then (qy.j6 k x true) else (qy.j6 k x (decide (x>65536)))
def qy.Post(W F:World)(r:Int)(v:Value)(w':World):Prop:=∃(F':World),v=iv r∧Sm W F w' F' []
theorem qy.calls(k:Nat)(x:Int)(r:Int)(W F:World)(hown:Sub F W)(H:qy.f k x=some r):
    Cr 271 #[iv x] W (qy.Post W F r):=by
 have S:=St.start (Own.nil hown)
 unfold qy.f at H
 refine ent 40 rfl rfl rfl (fun a E=>?_)
 refine rr E fun a E=>(sq fun K2 hK2=>sq fun K3 hK3=>?_)
 have J9:∀ kq7,kq7≤k→∀(G:NV)(y5:Bool)(a:Act)(w':World),Env 40 G a→At G [(0,iv x),(11,.bool y5)]→Sm W F w' F []→qy.j6 kq7 x y5=some r→K3 a w':=by
  intro kq7 hkq G y5 a u10 E A S H
  obtain _ | k8:=kq7
  ·
   exact zz H
  rw [qy.j6_s]at H
  obtain ⟨J,E⟩:=E.at A
  refine hK3 _ _ ?_
  refine E.ib 11 H (fun c11 E H=>?_) fun c11 E H=>?_
  ·
   refine rr E fun a E=>(wp_ret (qBb ?_))
   obtain rfl:=si H
   exact rt1 E ⟨_,rfl,_,rfl,S⟩
  refine wp_skip (hK2 _ _ (rr E fun a E=>(sq fun K14 hK14=>wp_block ?_)))
  refine wp_loop_ghost (fun kq18 a w'=>∃(G:NV)(x15:Int)(x16:Int),kq18≤k8∧Env 40 G a∧At G [(0,iv x15),(3,iv x16)]∧Sm W F w' F []∧qy.l17 kq18 x15 x16=some r) k8 ⟨_,x,0,Nat.le_refl _,E,.of,S,H⟩ ?_
  rintro kq18 a u20 ⟨G,x15,x16,hkq,E,A,S,H⟩
  obtain _ | k19:=kq18
  ·
   exact zz H
  rw [qy.l17_s]at H
  obtain ⟨J,E⟩:=E.at A
  refine sq fun K21 hK21=>rr E fun a E=>?_
  refine E.ik 13 H (fun c23 E H=>?_) fun c23 E H=>?_
  ·
   refine wp_skip (hK21 _ _ (sq fun K24 hK24=>wp_block (pl0 (plc E (.r 0 3 .nil) (fun a E=>pld ?_)))))
   refine qBd ?_
   refine hK24 _ _ (pl0 (plc E (.r 0 3 .nil) (fun a E=>pld ?_)))
   exact qBf ⟨k19,by omega,_,(w64 (x15 * 2)),(w64 (x16+1)),by omega,E,.of,S,H⟩
  refine wp_exit ?_
  refine hK14 _ _ (rr E fun a E=>(sq fun K26 hK26=>rr E fun a E=>(wp_block ?_)))
  refine wp_loop_ghost (fun kq32 a w'=>∃(G:NV)(x28:Int)(x29:Int)(x30:Int),kq32≤k19∧Env 40 G a∧At G [(3,iv x16),(4,.int .u64 x28),(5,iv x29),(21,iv x30)]∧Sm W F w' F []∧qy.l31 kq32 x16 x28 x29 x30=some r) k19 ⟨_,(IntKind.u64.wrap ((IntKind.u64.wrap x15) * 32768)),0,0,Nat.le_refl _,E,.of,S,H⟩ ?_
  rintro kq32 a u34 ⟨G,x28,x29,x30,hkq,E,A,S,H⟩
  obtain _ | k33:=kq32
  ·
   exact zz H
  rw [qy.l31_s]at H
  obtain ⟨J,E⟩:=E.at A
  refine rr E fun a E=>(sq fun K36 hK36=>?_)
  refine E.ik 22 H (fun c37 E H=>?_) fun c37 E H=>?_
  ·
   refine wp_skip (hK36 _ _ (sq fun K38 hK38=>wp_block (rr E fun a E=>(rr E fun a E=>(rr E fun a E=>?_)))))
   refine E.ik 30 H (fun c42 E H=>?_) fun c42 E H=>?_
   ·
    refine rr E fun a E=>(pl0 (plc E (.r 0 3 .nil) (fun a E=>pld ?_)))
    refine qBd ?_
    refine hK38 _ _ (pl0 (plc E (.r 0 2 .nil) (fun a E=>pld ?_)))
    exact qBf ⟨k33,by omega,_,(IntKind.u64.wrap ((IntKind.u64.wrap ((IntKind.u64.wrap (x28 * x28)).tdiv 2147483648)) * 2)),(w64 ((w64 (x29 * 2))+1)),(w64 (x30+1)),by omega,E,.of,S,H⟩
   refine wp_skip ?_
   refine qBd ?_
   refine hK38 _ _ (pl0 (plc E (.r 0 2 .nil) (fun a E=>pld ?_)))
   exact qBf ⟨k33,by omega,_,(IntKind.u64.wrap ((IntKind.u64.wrap (x28 * x28)).tdiv 2147483648)),(w64 (x29 * 2)),(w64 (x30+1)),by omega,E,.of,S,H⟩
  refine wp_exit ?_
  refine hK26 _ _ (rr E fun a E=>(wp_ret ?_))
  obtain rfl:=si H
  exact rt1 E ⟨_,rfl,_,rfl,S⟩
 refine pl0 (plc E (.r 0 3 .nil) (fun a E=>?_))
 rcases sp H with ⟨c4,H⟩ | ⟨c4,H⟩
 ·
  replace E:=E.kt 8 c4
  refine plc E (.r 3 3 .nil) (fun a E=>pld ?_)
  exact J9 _ (by omega) _ true _ _ E .of S H
 replace E:=E.kf 8 c4
 refine plc E (.r 3 3 .nil) (fun a E=>pld ?_)
 exact J9 _ (by omega) _ (decide (x>65536)) _ _ E .of S H
def qBJ.f(k:Nat)(x:Int)(y:Int):Option Int:=(qAi.f k x [(IntKind.u64.wrap y)]).bind fun t8=>((qy.f k (w64 (1+(w64 (t8.fdiv 281474976710656))))).bind fun t11=>(some t11))
def qBJ.Post(W F:World)(r:Int)(v:Value)(w':World):Prop:=∃(F':World),v=iv r∧Sm W F w' F' []
theorem qBJ.calls(k:Nat)(x:Int)(y:Int)(r:Int)(W F:World)(hown:Sub F W)(H:qBJ.f k x y=some r):
    Cr 259 #[.int .u64 x,iv y] W (qBJ.Post W F r):=by
 have S:=St.start (Own.nil hown)
 unfold qBJ.f at H
 refine ent 14 rfl rfl rfl (fun a E=>?_)
 refine rr E fun a E=>(sq fun K2 hK2=>pl0 (plc E (.r 0 3 .nil) (fun a E=>ple E (.lit (d:=(Kn.int .u64)) (e:=182) S [(IntKind.u64.wrap y)] (.cons rfl .nil)) ?_)))
 rintro _ u3 a ⟨A4,c5,rfl,S,hg⟩ E
 obtain ⟨t8,h9,H⟩:=bd H
 refine ple E (.cl en229 (qAi.calls k x [(IntKind.u64.wrap y)] _ _ _ _ _ (Sub.refl _) (S.rd_at (i:=0) rfl) h9)) ?_
 rintro _ u7 a ⟨_,rfl,hC⟩ E
 replace S:=S.lent hC
 refine plc E (.r 5 3 .nil) (fun a E=>?_)
 obtain ⟨t11,h12,H⟩:=bd H
 refine ple E (.cl en271 (qy.calls k (w64 (1+(w64 (t8.fdiv 281474976710656)))) _ _ _ S.own.sub h12)) ?_
 rintro _ u10 a ⟨_,rfl,hC⟩ E
 replace S:=S.lent hC
 refine plc E (.r 9 1 .nil) (fun a E=>pld (hK2 _ _ (wp_ret ?_)))
 replace S:=S.tail
 obtain rfl:=si H
 exact rt1 E ⟨_,rfl,_,rfl,S⟩
def qAt.f(x:Int):Option Bool:=if x≥0 then (some (decide (x≤2147483647))) else (some false)
def qAt.Post(W F:World)(r:Bool)(v:Value)(w':World):Prop:=∃(F':World),v = .bool r∧Sm W F w' F' []
theorem qAt.calls(x:Int)(r:Bool)(W F:World)(hown:Sub F W)(H:qAt.f x=some r):
    Cr 272 #[iv x] W (qAt.Post W F r):=by
 have S:=St.start (Own.nil hown)
 unfold qAt.f at H
 refine ent 9 rfl rfl rfl (fun a E=>?_)
 refine rr E fun a E=>(sq fun K2 hK2=>pl0 (plc E (.r 0 3 .nil) (fun a E=>?_)))
 rcases sp H with ⟨c3,H⟩ | ⟨c3,H⟩
 ·
  replace E:=E.kt 5 c3
  refine plc E (.r 3 4 .nil) (fun a E=>pld (hK2 _ _ (wp_ret ?_)))
  obtain rfl:=si H
  exact rt1 E ⟨_,rfl,_,rfl,S⟩
 replace E:=E.kf 5 c3
 refine plc E (.r 3 4 .nil) (fun a E=>pld (hK2 _ _ (wp_ret ?_)))
 obtain rfl:=si H
 exact rt1 E ⟨_,rfl,_,rfl,S⟩
def qAj.f(x:Int)(y:Int)(z:Int)(p:Int):Option Bool:=(qAt.f x).bind fun t4=>(if t4=true then ((qAt.f y).bind fun t8=>(if t8=true then ((qAt.f z).bind fun t12=>(if t12=true then ((qAt.f p).bind fun t16=>(if t16=true then (if y>0 then (if p>0 then (some (decide ((w64 (x * p))<(w64 (z * y))))) else (some false)) else (some false)) else (some false))) else (some false))) else (some false))) else (some false))
def qAj.Post(W F:World)(r:Bool)(v:Value)(w':World):Prop:=∃(F':World),v = .bool r∧Sm W F w' F' []
theorem qAj.calls(x:Int)(y:Int)(z:Int)(p:Int)(r:Bool)(W F:World)(hown:Sub F W)(H:qAj.f x y z p=some r):
    Cr 260 #[iv x,iv y,iv z,iv p] W (qAj.Post W F r):=by
 have S:=St.start (Own.nil hown)
 unfold qAj.f at H
 refine ent 40 rfl rfl rfl (fun a E=>?_)
 refine rr E fun a E=>(sq fun K2 hK2=>pl0 (plc E (.r 0 1 .nil) (fun a E=>?_)))
 obtain ⟨t4,h5,H⟩:=bd H
 refine ple E (.cl en272 (qAt.calls x _ _ _ S.own.sub h5)) ?_
 rintro _ u3 a ⟨_,rfl,hC⟩ E
 replace S:=S.lent hC
 refine plc E (.r 2 1 .nil) (fun a E=>?_)
 rcases sp H with ⟨c6,H⟩ | ⟨c6,H⟩
 ·
  replace E:=E.bt 11 c6
  refine plc E (.r 3 1 .nil) (fun a E=>?_)
  obtain ⟨t8,h9,H⟩:=bd H
  refine ple E (.cl en272 (qAt.calls y _ _ _ S.own.sub h9)) ?_
  rintro _ u7 a ⟨_,rfl,hC⟩ E
  replace S:=S.lent hC
  refine plc E (.r 5 2 .nil) (fun a E=>?_)
  rcases sp H with ⟨c10,H⟩ | ⟨c10,H⟩
  ·
   replace E:=E.bt 15 c10
   refine plc E (.r 7 1 .nil) (fun a E=>?_)
   obtain ⟨t12,h13,H⟩:=bd H
   refine ple E (.cl en272 (qAt.calls z _ _ _ S.own.sub h13)) ?_
   rintro _ u11 a ⟨_,rfl,hC⟩ E
   replace S:=S.lent hC
   refine plc E (.r 9 2 .nil) (fun a E=>?_)
   rcases sp H with ⟨c14,H⟩ | ⟨c14,H⟩
   ·
    replace E:=E.bt 19 c14
    refine plc E (.r 11 1 .nil) (fun a E=>?_)
    obtain ⟨t16,h17,H⟩:=bd H
    refine ple E (.cl en272 (qAt.calls p _ _ _ S.own.sub h17)) ?_
    rintro _ u15 a ⟨_,rfl,hC⟩ E
    replace S:=S.lent hC
    refine plc E (.r 13 2 .nil) (fun a E=>?_)
    rcases sp H with ⟨c18,H⟩ | ⟨c18,H⟩
    ·
     replace E:=E.bt 23 c18
     refine plc E (.r 15 4 .nil) (fun a E=>?_)
     rcases sp H with ⟨c19,H⟩ | ⟨c19,H⟩
     ·
      replace E:=E.kt 27 c19
      refine plc E (.r 19 4 .nil) (fun a E=>?_)
      rcases sp H with ⟨c20,H⟩ | ⟨c20,H⟩
      ·
       replace E:=E.kt 31 c20
       refine plc E (.r 23 9 .nil) (fun a E=>pld (hK2 _ _ (wp_ret ?_)))
       obtain rfl:=si H
       exact rt1 E ⟨_,rfl,_,rfl,S⟩
      replace E:=E.kf 31 c20
      refine plc E (.r 23 9 .nil) (fun a E=>pld (hK2 _ _ (wp_ret ?_)))
      obtain rfl:=si H
      exact rt1 E ⟨_,rfl,_,rfl,S⟩
     replace E:=E.kf 27 c19
     refine plc E (.r 19 13 .nil) (fun a E=>pld (hK2 _ _ (wp_ret ?_)))
     obtain rfl:=si H
     exact rt1 E ⟨_,rfl,_,rfl,S⟩
    replace E:=E.bf 23 c18
    refine plc E (.r 15 17 .nil) (fun a E=>pld (hK2 _ _ (wp_ret ?_)))
    obtain rfl:=si H
    exact rt1 E ⟨_,rfl,_,rfl,S⟩
   replace E:=E.bf 19 c14
   refine plc E (.r 11 21 .nil) (fun a E=>pld (hK2 _ _ (wp_ret ?_)))
   obtain rfl:=si H
   exact rt1 E ⟨_,rfl,_,rfl,S⟩
  replace E:=E.bf 15 c10
  refine plc E (.r 7 25 .nil) (fun a E=>pld (hK2 _ _ (wp_ret ?_)))
  obtain rfl:=si H
  exact rt1 E ⟨_,rfl,_,rfl,S⟩
 replace E:=E.bf 11 c6
 refine plc E (.r 3 29 .nil) (fun a E=>pld (hK2 _ _ (wp_ret ?_)))
 obtain rfl:=si H
 exact rt1 E ⟨_,rfl,_,rfl,S⟩
end Go.Proofs.YtpohepinmjmbkaaGreat.MM
