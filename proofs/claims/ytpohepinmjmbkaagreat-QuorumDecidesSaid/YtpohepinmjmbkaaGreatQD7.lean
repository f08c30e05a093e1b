import Derived.Test.YtpohepinmjmbkaaGreatQD6
namespace Go.Proofs.YtpohepinmjmbkaaGreat.QD
open Go Go.RowKit Go.Proofs.YtpohepinmjmbkaaGreat.Sl
set_option linter.unusedVariables false
set_option linter.unusedSimpArgs false
set_option maxHeartbeats 4000000
set_option maxRecDepth 100000
def qAY.l7:Nat→qJ→Int→Int→Option (List Int)
 | 0,_,_,_=>none
 | k+1,x0_,x1_,x6=>if x6<(x0_.f5.length:Int) then (if 0≤x6∧x6<(x0_.f5.length:Int) then (if (nth qM.z x0_.f5 x6).f0=x1_ then (some ((nth qM.z x0_.f5 x6).f1)) else (qAY.l7 k x0_ x1_ (w64 (x6+1)))) else (none)) else (some [])
theorem qAY.l7_s k x0_ x1_ x6:type_of% (qAY.l7.eq_2 x0_ x1_ x6 k):=qAY.l7.eq_2 x0_ x1_ x6 k
def qAY.f(k:Nat)(x0_:qJ)(x1_:Int):Option (List Int):=qAY.l7 k x0_ x1_ 0
def qAY.Post(W F:World)(r:List Int)(v:Value)(w':World):Prop:=∃(F':World)(RA0_0:Option Addr)(rc0_0:Nat),v = .slice RA0_0 r.length rc0_0∧St W (mine W []) F w' F' []∧Rd ki F' RA0_0 rc0_0 r
theorem qAY.calls(k:Nat)(x0_:qJ)(x1_:Int)(A0_4:Option Addr)(c0_4:Nat)(A0_5:Option Addr)(c0_5:Nat)(A0_6:Option Addr)(c0_6:Nat)(r:List Int)(W F:World)(hown:Sub F W)(g0_4:Rd qA.k F A0_4 c0_4 x0_.f4)(g0_5:Rd qM.k F A0_5 c0_5 x0_.f5)(g0_6:Rd qF.k F A0_6 c0_6 x0_.f6)(H:qAY.f k x0_ x1_=some r):
    Calls Tryz.prog 72 #[.agg #[iv x0_.f0,iv x0_.f1,iv x0_.f2,iv x0_.f3,.slice A0_4 x0_.f4.length c0_4,.slice A0_5 x0_.f5.length c0_5,.slice A0_6 x0_.f6.length c0_6],iv x1_] W fun e w'=>∃ v,e = .returned v∧qAY.Post W F r v w':=by
 have hS:=St.start (Own.nil hown)
 unfold qAY.f at H
 refine enter (n:=27) rfl rfl rfl (Nat.le_of_ble_eq_true rfl) (fun a hE=>?_)
 refine sq fun K1 hK1=>pl0 (ple hE (.bx (t:=26) hS [iv x0_.f0,iv x0_.f1,iv x0_.f2,iv x0_.f3,.slice A0_4 x0_.f4.length c0_4,.slice A0_5 x0_.f5.length c0_5,.slice A0_6 x0_.f6.length c0_6]) ?_)
 rintro _ u3 a ⟨b2,rfl,hb2,hS,hg⟩ hE
 refine plc hE (.r 1 1 .nil) (fun a hE=>pld (hK1 _ _ (sq fun K4 hK4=>rr hE fun a hE=>(wp_block ?_))))
 refine wp_loop_ghost (fun kq8 a w'=>∃(G:Nat→Value)(x6:Int),kq8≤k∧Env 27 G a∧At G [(1,iv x1_),(2,.pointer (pb b2)),(5,iv x6)]∧St W (mine W []) F w' F [box b2 #[iv x0_.f0,iv x0_.f1,iv x0_.f2,iv x0_.f3,.slice A0_4 x0_.f4.length c0_4,.slice A0_5 x0_.f5.length c0_5,.slice A0_6 x0_.f6.length c0_6] 26]∧qAY.l7 kq8 x0_ x1_ x6=some r) k ⟨_,0,Nat.le_refl _,hE,.of,hS,H⟩ ?_
 rintro kq8 a u10 ⟨G,x6,hkq,hE,hA,hS,H⟩
 obtain _ | k9:=kq8
 ·
  exact zz H
 rw [qAY.l7_s]at H
 obtain ⟨J,hE⟩:=hE.at hA
 refine sq fun K11 hK11=>sq fun K12 hK12=>pl0 ?_
 have hb2:=hS.ba 0
 refine plc hE (.r 0 2<|.b 2 5 hb2<|.r 3 2<|.nil) (fun a hE=>pld (hK12 _ _ ?_))
 refine hE.ik 10 H (fun c13 hE H=>?_) fun c13 hE H=>?_
 ·
  refine wp_skip (hK11 _ _ (sq fun K14 hK14=>wp_block (sq fun K15 hK15=>pl0 ?_)))
  obtain ⟨c16,H⟩:=gd H
  have hE_:=hE
  obtain ⟨ad17,rfl⟩:=g0_5.addr c16.1 c16.2
  replace hE:=hE_
  obtain ⟨cs19,⟨A21,c22,rfl,g23⟩,hc20⟩:=g0_5.el qM.z x6 c16.1 c16.2
  refine plc hE (.r 0 1<|.b 1 5 hb2<|.r 2 1<|.x 3 c16<|.r 4 1<|.c 5 (hS.fc hc20 0)<|.r 6 2<|.nil) (fun a hE=>pld (hK15 _ _ ?_))
  refine hE.ik 20 H (fun c24 hE H=>?_) fun c24 hE H=>?_
  ·
   refine rg hE (.r 0 1<|.b 1 5 hb2<|.r 2 1<|.x 3 c16<|.r 4 1<|.c 5 (hS.fc hc20 1)<|.r 6 1<|.nil) fun a hE=>(wp_ret (qCE (qCD (qCD (qCE (qCD ?_))))))
   replace hS:=hS.tail
   obtain rfl:=si H
   exact rt1 hE ⟨_,rfl,_,_,_,rfl,hS,g23⟩
  refine wp_skip ?_
  refine qCF ?_
  refine hK14 _ _ (pl0 (plc hE (.r 0 3 .nil) (fun a hE=>pld ?_)))
  exact qCG ⟨k9,by omega,_,(w64 (x6+1)),by omega,hE,.of,hS,H⟩
 refine wp_exit ?_
 refine hK4 _ _ (rr hE fun a hE=>(wp_ret ?_))
 replace hS:=hS.tail
 obtain rfl:=si H
 exact rt1 hE ⟨_,rfl,_,_,_,rfl,hS,(Rd.nil _ _)⟩
def qAz.f(x0_:Int):Option (List qK):=some [(⟨1,0,0⟩:qK),(⟨2,1,x0_⟩:qK),(⟨2,2,1⟩:qK),(⟨2,3,1⟩:qK),(⟨3,0,0⟩:qK)]
def qAz.Post(W F:World)(r:List qK)(v:Value)(w':World):Prop:=∃(F':World)(RA0_0:Option Addr)(rc0_0:Nat),v = .slice RA0_0 r.length rc0_0∧St W (mine W []) F w' F' [row qK.k 175 (.slice RA0_0 r.length rc0_0) r]
theorem qAz.calls(x0_:Int)(r:List qK)(W F:World)(hown:Sub F W)(H:qAz.f x0_=some r):
    Calls Tryz.prog 124 #[iv x0_] W fun e w'=>∃ v,e = .returned v∧qAz.Post W F r v w':=by
 have hS:=St.start (Own.nil hown)
 unfold qAz.f at H
 refine enter (n:=10) rfl rfl rfl (Nat.le_of_ble_eq_true rfl) (fun a hE=>?_)
 refine rr hE fun a hE=>(sq fun K2 hK2=>pl0 (plc hE (.r 0 6 .nil) (fun a hE=>ple hE (.lit (d:=qK.k) (e:=175) hS [(⟨1,0,0⟩:qK),(⟨2,1,x0_⟩:qK),(⟨2,2,1⟩:qK),(⟨2,3,1⟩:qK),(⟨3,0,0⟩:qK)] (.cons rfl<|.cons rfl<|.cons rfl<|.cons rfl<|.cons rfl .nil)) ?_)))
 rintro _ u3 a ⟨A4,c5,rfl,hS,hg⟩ hE
 refine plc hE (.r 7 1 .nil) (fun a hE=>pld (hK2 _ _ (wp_ret ?_)))
 obtain rfl:=si H
 exact rt1 hE ⟨_,rfl,_,_,_,rfl,hS⟩
def qAl.f(x0_:qA):Option Int:=if x0_.f5=true then (some x0_.f3) else (some 0)
def qAl.Post(W F:World)(r:Int)(v:Value)(w':World):Prop:=∃(F':World),v=iv r∧St W (mine W []) F w' F' []
theorem qAl.calls(x0_:qA)(r:Int)(W F:World)(hown:Sub F W)(H:qAl.f x0_=some r):
    Calls Tryz.prog 205 #[.agg #[iv x0_.f0,iv x0_.f1,iv x0_.f2,iv x0_.f3,.bool x0_.f4,.bool x0_.f5]] W fun e w'=>∃ v,e = .returned v∧qAl.Post W F r v w':=by
 have hS:=St.start (Own.nil hown)
 unfold qAl.f at H
 refine enter (n:=7) rfl rfl rfl (Nat.le_of_ble_eq_true rfl) (fun a hE=>?_)
 refine sq fun K1 hK1=>pl0 (ple hE (.bx (t:=104) hS [iv x0_.f0,iv x0_.f1,iv x0_.f2,iv x0_.f3,.bool x0_.f4,.bool x0_.f5]) ?_)
 rintro _ u3 a ⟨b2,rfl,hb2,hS,hg⟩ hE
 refine plc hE (.r 1 1 .nil) (fun a hE=>pld (hK1 _ _ (sq fun K4 hK4=>rg hE (.r 0 1<|.b 1 5 hb2<|.nil) fun a hE=>?_)))
 refine hE.ib 4 H (fun c6 hE H=>?_) fun c6 hE H=>?_
 ·
  refine rg hE (.r 0 1<|.b 1 3 hb2<|.r 2 1<|.nil) fun a hE=>(wp_ret (qCD ?_))
  replace hS:=hS.tail
  obtain rfl:=si H
  exact rt1 hE ⟨_,rfl,_,rfl,hS⟩
 refine wp_skip (hK4 _ _ (rr hE fun a hE=>(wp_ret ?_)))
 replace hS:=hS.tail
 obtain rfl:=si H
 exact rt1 hE ⟨_,rfl,_,rfl,hS⟩
mutual
def ql.l14:Nat→List qA→Int→Int→List qB→Int→Option (List qB)
 | 0,_,_,_,_,_=>none
 | k+1,x0_,x1_,x2_,l12,x13=>if x13<(x0_.length:Int) then (if x1_=0 then (if x2_=0 then (ql.j41 k x0_ x1_ x2_ l12 x13 true) else (if 0≤x13∧x13<(x0_.length:Int) then (ql.j41 k x0_ x1_ x2_ l12 x13 ((nth qA.z x0_ x13).f2 == x2_)) else (none))) else (if 0≤x13∧x13<(x0_.length:Int) then (if (nth qA.z x0_ x13).f1=x1_ then (if x2_=0 then (ql.j41 k x0_ x1_ x2_ l12 x13 true) else (ql.j41 k x0_ x1_ x2_ l12 x13 ((nth qA.z x0_ x13).f2 == x2_))) else (ql.j41 k x0_ x1_ x2_ l12 x13 false)) else (none))) else (some l12)
def ql.j41:Nat→List qA→Int→Int→List qB→Int→Bool→Option (List qB)
 | 0,_,_,_,_,_,_=>none
 | k+1,x0_,x1_,x2_,l12,x13,y40=>if y40=true then (if 0≤x13∧x13<(x0_.length:Int) then ((qAl.f (⟨(nth qA.z x0_ x13).f0,(nth qA.z x0_ x13).f1,(nth qA.z x0_ x13).f2,(nth qA.z x0_ x13).f3,(nth qA.z x0_ x13).f4,(nth qA.z x0_ x13).f5⟩:qA)).bind fun t56=>(if ((l12.length:Int)+((1:Nat):Int)) * 16≤140737488355328 then (ql.l14 k x0_ x1_ x2_ (l12++[(⟨(nth qA.z x0_ x13).f0,t56⟩:qB)]) (w64 (x13+1))) else (none))) else (none)) else (ql.l14 k x0_ x1_ x2_ l12 (w64 (x13+1)))
end
theorem ql.l14_s k x0_ x1_ x2_ l12 x13:type_of% (ql.l14.eq_2 x0_ x1_ x2_ l12 x13 k):=ql.l14.eq_2 x0_ x1_ x2_ l12 x13 k
theorem ql.j41_s k x0_ x1_ x2_ l12 x13 y40:type_of% (ql.j41.eq_2 x0_ x1_ x2_ l12 x13 y40 k):=ql.j41.eq_2 x0_ x1_ x2_ l12 x13 y40 k
def ql.f(k:Nat)(x0_:List qA)(x1_:Int)(x2_:Int):Option (List qB):=ql.l14 k x0_ x1_ x2_ ([]:List qB) 0
def ql.Post(W F:World)(r:List qB)(v:Value)(w':World):Prop:=∃(F':World)(RA0_0:Option Addr)(rc0_0:Nat),v = .slice RA0_0 r.length rc0_0∧St W (mine W []) F w' F' [row qB.k 216 (.slice RA0_0 r.length rc0_0) r]
theorem ql.calls(k:Nat)(x0_:List qA)(x1_:Int)(x2_:Int)(A0_0:Option Addr)(c0_0:Nat)(r:List qB)(W F:World)(hown:Sub F W)(g0_0:Rd qA.k F A0_0 c0_0 x0_)(H:ql.f k x0_ x1_ x2_=some r):
    Calls Tryz.prog 168 #[.slice A0_0 x0_.length c0_0,iv x1_,iv x2_] W fun e w'=>∃ v,e = .returned v∧ql.Post W F r v w':=by
 have hS:=St.start (Own.nil hown)
 unfold ql.f at H
 refine enter (n:=55) rfl rfl rfl (Nat.le_of_ble_eq_true rfl) (fun a hE=>?_)
 refine rr hE fun a hE=>(sq fun K2 hK2=>pl0 (ple hE (.lit (d:=qB.k) (e:=216) hS ([]:List qB) (.nil)) ?_))
 rintro _ u3 a ⟨A4,c5,rfl,hS,hg⟩ hE
 refine plc hE (.r 1 1 .nil) (fun a hE=>pld (hK2 _ _ (sq fun K7 hK7=>rr hE fun a hE=>(wp_block ?_))))
 refine wp_loop_ghost (fun kq15 a w'=>∃(G:Nat→Value)(A10:Option Addr)(c11:Nat)(l12:List qB)(x13:Int),kq15≤k∧Env 55 G a∧At G [(0,.slice A0_0 x0_.length c0_0),(1,iv x1_),(2,iv x2_),(7,.slice A10 l12.length c11),(8,iv x13)]∧St W (mine W []) F w' F [row qB.k 216 (.slice A10 l12.length c11) l12]∧ql.l14 kq15 x0_ x1_ x2_ l12 x13=some r) k ⟨_,A4,c5,([]:List qB),0,Nat.le_refl _,hE,.of,hS,H⟩ ?_
 rintro kq15 a u17 ⟨G,A10,c11,l12,x13,hkq,hE,hA,hS,H⟩
 obtain _ | k16:=kq15
 ·
  exact zz H
 rw [ql.l14_s]at H
 obtain ⟨J,hE⟩:=hE.at hA
 refine sq fun K18 hK18=>rr hE fun a hE=>?_
 refine hE.ik 13 H (fun c20 hE H=>?_) fun c20 hE H=>?_
 ·
  refine wp_skip (hK18 _ _ (sq fun K21 hK21=>wp_block (sq fun K22 hK22=>?_)))
  have J44:∀ kq42,kq42≤k16→∀(G:Nat→Value)(y40:Bool)(a:Act)(w':World),Env 55 G a→At G [(0,.slice A0_0 x0_.length c0_0),(1,iv x1_),(2,iv x2_),(7,.slice A10 l12.length c11),(8,iv x13),(39,.bool y40)]→St W (mine W []) F w' F [row qB.k 216 (.slice A10 l12.length c11) l12]→ql.j41 kq42 x0_ x1_ x2_ l12 x13 y40=some r→K22 a w':=by
   intro kq42 hkq G y40 a u45 hE hA hS H
   obtain _ | k43:=kq42
   ·
    exact zz H
   rw [ql.j41_s]at H
   obtain ⟨J,hE⟩:=hE.at hA
   refine hK22 _ _ ?_
   refine hE.ib 39 H (fun c46 hE H=>?_) fun c46 hE H=>?_
   ·
    refine drawn 15 ⟨[13],[],fun q=>False⟩ mixed rfl (by kernel_rfl) (fun hst=>?_)
    replace hS:=hS.drew
    obtain ⟨c47,H⟩:=gd H
    have hE_:=hE
    obtain ⟨ad48,rfl⟩:=g0_0.addr c47.1 c47.2
    replace hE:=hE_
    obtain ⟨cs50,rfl,hc51⟩:=g0_0.el qA.z x13 c47.1 c47.2
    refine mny 5 hst hE (.r 0 3<|.x 3 c47<|.r 4 1<|.c 5 (hS.fc hc51 0)<|.r 6 2<|.x 8 c47<|.cs 9 (hS.fcs hc51)<|.nil) (fun a hE=>?_)
    obtain ⟨t56,h57,H⟩:=bd H
    refine on1 10 hE (.cl en205 (qAl.calls (⟨(nth qA.z x0_ x13).f0,(nth qA.z x0_ x13).f1,(nth qA.z x0_ x13).f2,(nth qA.z x0_ x13).f3,(nth qA.z x0_ x13).f4,(nth qA.z x0_ x13).f5⟩:qA) _ _ _ hS.own.sub h57)) ?_
    rintro _ u55 a ⟨_,rfl,hC⟩ hE
    refine ⟨.of hC.agr,?_⟩
    replace hS:=hS.lent hC
    refine mny 3 hst hE (.r 11 1 .nil) (fun a hE=>?_)
    refine on1 12 hE (.lit (d:=qB.k) (e:=216) hS [(⟨(nth qA.z x0_ x13).f0,t56⟩:qB)] (.cons rfl .nil)) ?_
    rintro _ u58 a ⟨A59,c60,rfl,hS,hg⟩ hE
    refine ⟨.of hg,?_⟩
    obtain ⟨c62,H⟩:=gd H
    replace hS:=hS.front 1 rfl
    refine on1 13 hE (.ap (d:=qB.k) 16 hS (qCO (hS.row_at (i:=1) rfl)) c62 c60) ?_
    rintro _ u65 a ⟨A63,c64,rfl,hS,hz⟩ hE
    refine ⟨.d,?_⟩
    refine mny 0 hst hE (.r 14 1 .nil) (fun a hE=>?_)
    refine dn ?_
    refine qCF ?_
    refine hK21 _ _ (pl0 (plc hE (.r 0 3 .nil) (fun a hE=>pld ?_)))
    replace hS:=hS.pm [0] 2
    exact qCG ⟨k43,by omega,_,A63,c64,(l12++[(⟨(nth qA.z x0_ x13).f0,t56⟩:qB)]),(w64 (x13+1)),by omega,hE,.of,hS,H⟩
   refine wp_skip ?_
   refine qCF ?_
   refine hK21 _ _ (pl0 (plc hE (.r 0 3 .nil) (fun a hE=>pld ?_)))
   exact qCG ⟨k43,by omega,_,A10,c11,l12,(w64 (x13+1)),by omega,hE,.of,hS,H⟩
  refine pl0 (plc hE (.r 0 3 .nil) (fun a hE=>?_))
  rcases sp H with ⟨c23,H⟩ | ⟨c23,H⟩
  ·
   replace hE:=hE.kt 18 c23
   refine plc hE (.r 3 12 .nil) (fun a hE=>?_)
   rcases sp H with ⟨c24,H⟩ | ⟨c24,H⟩
   ·
    replace hE:=hE.kt 30 c24
    refine plc hE (.r 15 9 .nil) (fun a hE=>pld ?_)
    exact J44 _ (by omega) _ true _ _ hE .of hS H
   replace hE:=hE.kf 30 c24
   obtain ⟨c25,H⟩:=gd H
   have hE_:=hE
   obtain ⟨ad26,rfl⟩:=g0_0.addr c25.1 c25.2
   replace hE:=hE_
   obtain ⟨cs28,rfl,hc29⟩:=g0_0.el qA.z x13 c25.1 c25.2
   refine plc hE (.r 15 2<|.x 17 c25<|.r 18 1<|.c 19 (hS.fc hc29 2)<|.r 20 4<|.nil) (fun a hE=>pld ?_)
   exact J44 _ (by omega) _ ((nth qA.z x0_ x13).f2 == x2_) _ _ hE .of hS H
  replace hE:=hE.kf 18 c23
  obtain ⟨c30,H⟩:=gd H
  have hE_:=hE
  obtain ⟨ad31,rfl⟩:=g0_0.addr c30.1 c30.2
  replace hE:=hE_
  obtain ⟨cs33,rfl,hc34⟩:=g0_0.el qA.z x13 c30.1 c30.2
  refine plc hE (.r 3 2<|.x 5 c30<|.r 6 1<|.c 7 (hS.fc hc34 1)<|.r 8 4<|.nil) (fun a hE=>?_)
  rcases sp H with ⟨c35,H⟩ | ⟨c35,H⟩
  ·
   replace hE:=hE.kt 27 c35
   refine plc hE (.r 12 3 .nil) (fun a hE=>?_)
   rcases sp H with ⟨c36,H⟩ | ⟨c36,H⟩
   ·
    replace hE:=hE.kt 30 c36
    refine plc hE (.r 15 9 .nil) (fun a hE=>pld ?_)
    exact J44 _ (by omega) _ true _ _ hE .of hS H
   replace hE:=hE.kf 30 c36
   refine plc hE (.r 15 2<|.x 17 c30<|.r 18 1<|.c 19 (hS.fc hc34 2)<|.r 20 4<|.nil) (fun a hE=>pld ?_)
   exact J44 _ (by omega) _ ((nth qA.z x0_ x13).f2 == x2_) _ _ hE .of hS H
  replace hE:=hE.kf 27 c35
  refine plc hE (.r 12 12 .nil) (fun a hE=>pld ?_)
  exact J44 _ (by omega) _ false _ _ hE .of hS H
 refine wp_exit ?_
 refine hK7 _ _ (rr hE fun a hE=>(wp_ret ?_))
 obtain rfl:=si H
 exact rt1 hE ⟨_,rfl,_,_,_,rfl,hS⟩
mutual
def qj.l14:Nat→List qA→List Int→List qB→Int→Option (List qB)
 | 0,_,_,_,_=>none
 | k+1,x0_,x1_,l12,x13=>if x13≤999 then (qj.l29 k x0_ x1_ l12 x13 0 false 0) else (some l12)
def qj.l29:Nat→List qA→List Int→List qB→Int→Int→Bool→Int→Option (List qB)
 | 0,_,_,_,_,_,_,_=>none
 | k+1,x0_,x1_,l12,x13,x26,y27,x28=>if x28<(x0_.length:Int) then (if 0≤x28∧x28<(x1_.length:Int) then (if (nth 0 x1_ x28)=x13 then (if 0≤x28∧x28<(x0_.length:Int) then ((qAl.f (⟨(nth qA.z x0_ x28).f0,(nth qA.z x0_ x28).f1,(nth qA.z x0_ x28).f2,(nth qA.z x0_ x28).f3,(nth qA.z x0_ x28).f4,(nth qA.z x0_ x28).f5⟩:qA)).bind fun t51=>(qj.l29 k x0_ x1_ l12 x13 (w64 (x26+t51)) true (w64 (x28+1)))) else (none)) else (qj.l29 k x0_ x1_ l12 x13 x26 y27 (w64 (x28+1)))) else (none)) else (if x26>65536 then (qj.j57 k x0_ x1_ l12 x13 y27 65536) else (qj.j57 k x0_ x1_ l12 x13 y27 x26))
def qj.j57:Nat→List qA→List Int→List qB→Int→Bool→Int→Option (List qB)
 | 0,_,_,_,_,_,_=>none
 | k+1,x0_,x1_,l12,x13,y27,x56=>if y27=true then (if ((l12.length:Int)+((1:Nat):Int)) * 16≤140737488355328 then (qj.l14 k x0_ x1_ (l12++[(⟨x13,x56⟩:qB)]) (w64 (x13+1))) else (none)) else (qj.l14 k x0_ x1_ l12 (w64 (x13+1)))
end
theorem qj.l14_s k x0_ x1_ l12 x13:type_of% (qj.l14.eq_2 x0_ x1_ l12 x13 k):=qj.l14.eq_2 x0_ x1_ l12 x13 k
theorem qj.l29_s k x0_ x1_ l12 x13 x26 y27 x28:type_of% (qj.l29.eq_2 x0_ x1_ l12 x13 x26 y27 x28 k):=qj.l29.eq_2 x0_ x1_ l12 x13 x26 y27 x28 k
theorem qj.j57_s k x0_ x1_ l12 x13 y27 x56:type_of% (qj.j57.eq_2 x0_ x1_ l12 x13 y27 x56 k):=qj.j57.eq_2 x0_ x1_ l12 x13 y27 x56 k
def qj.f(k:Nat)(x0_:List qA)(x1_:List Int):Option (List qB):=qj.l14 k x0_ x1_ ([]:List qB) 1
def qj.Post(W F:World)(r:List qB)(v:Value)(w':World):Prop:=∃(F':World)(RA0_0:Option Addr)(rc0_0:Nat),v = .slice RA0_0 r.length rc0_0∧St W (mine W []) F w' F' [row qB.k 216 (.slice RA0_0 r.length rc0_0) r]
theorem qj.calls(k:Nat)(x0_:List qA)(x1_:List Int)(A0_0:Option Addr)(c0_0:Nat)(A1_0:Option Addr)(c1_0:Nat)(r:List qB)(W F:World)(hown:Sub F W)(g0_0:Rd qA.k F A0_0 c0_0 x0_)(g1_0:Rd ki F A1_0 c1_0 x1_)(H:qj.f k x0_ x1_=some r):
    Calls Tryz.prog 206 #[.slice A0_0 x0_.length c0_0,.slice A1_0 x1_.length c1_0] W fun e w'=>∃ v,e = .returned v∧qj.Post W F r v w':=by
 have hS:=St.start (Own.nil hown)
 unfold qj.f at H
 refine enter (n:=44) rfl rfl rfl (Nat.le_of_ble_eq_true rfl) (fun a hE=>?_)
 refine rr hE fun a hE=>(sq fun K2 hK2=>pl0 (ple hE (.lit (d:=qB.k) (e:=216) hS ([]:List qB) (.nil)) ?_))
 rintro _ u3 a ⟨A4,c5,rfl,hS,hg⟩ hE
 refine plc hE (.r 1 1 .nil) (fun a hE=>pld (hK2 _ _ (sq fun K7 hK7=>rr hE fun a hE=>(wp_block ?_))))
 refine wp_loop_ghost (fun kq15 a w'=>∃(G:Nat→Value)(A10:Option Addr)(c11:Nat)(l12:List qB)(x13:Int),kq15≤k∧Env 44 G a∧At G [(0,.slice A0_0 x0_.length c0_0),(1,.slice A1_0 x1_.length c1_0),(5,.slice A10 l12.length c11),(6,iv x13)]∧St W (mine W []) F w' F [row qB.k 216 (.slice A10 l12.length c11) l12]∧qj.l14 kq15 x0_ x1_ l12 x13=some r) k ⟨_,A4,c5,([]:List qB),1,Nat.le_refl _,hE,.of,hS,H⟩ ?_
 rintro kq15 a u17 ⟨G,A10,c11,l12,x13,hkq,hE,hA,hS,H⟩
 obtain _ | k16:=kq15
 ·
  exact zz H
 rw [qj.l14_s]at H
 obtain ⟨J,hE⟩:=hE.at hA
 refine sq fun K18 hK18=>rr hE fun a hE=>?_
 refine hE.ik 12 H (fun c20 hE H=>?_) fun c20 hE H=>?_
 ·
  refine wp_skip (hK18 _ _ (sq fun K21 hK21=>wp_block (rr hE fun a hE=>(rr hE fun a hE=>(sq fun K24 hK24=>rr hE fun a hE=>(wp_block ?_))))))
  refine wp_loop_ghost (fun kq30 a w'=>∃(G:Nat→Value)(x26:Int)(y27:Bool)(x28:Int),kq30≤k16∧Env 44 G a∧At G [(0,.slice A0_0 x0_.length c0_0),(1,.slice A1_0 x1_.length c1_0),(5,.slice A10 l12.length c11),(6,iv x13),(7,iv x26),(8,.bool y27),(9,iv x28)]∧St W (mine W []) F w' F [row qB.k 216 (.slice A10 l12.length c11) l12]∧qj.l29 kq30 x0_ x1_ l12 x13 x26 y27 x28=some r) k16 ⟨_,0,false,0,Nat.le_refl _,hE,.of,hS,H⟩ ?_
  rintro kq30 a u32 ⟨G,x26,y27,x28,hkq,hE,hA,hS,H⟩
  obtain _ | k31:=kq30
  ·
   exact zz H
  rw [qj.l29_s]at H
  obtain ⟨J,hE⟩:=hE.at hA
  refine sq fun K33 hK33=>rr hE fun a hE=>?_
  refine hE.ik 18 H (fun c35 hE H=>?_) fun c35 hE H=>?_
  ·
   refine wp_skip (hK33 _ _ (sq fun K36 hK36=>wp_block (sq fun K37 hK37=>pl0 ?_)))
   obtain ⟨c38,H⟩:=gd H
   have hE_:=hE
   obtain ⟨ad39,rfl⟩:=g1_0.addr c38.1 c38.2
   replace hE:=hE_
   obtain ⟨cs41,rfl,hc42⟩:=g1_0.el 0 x28 c38.1 c38.2
   refine plc hE (.r 0 2<|.x 2 c38<|.c 3 (hS.fc hc42 0)<|.r 4 2<|.nil) (fun a hE=>pld (hK37 _ _ ?_))
   refine hE.ik 26 H (fun c43 hE H=>?_) fun c43 hE H=>?_
   ·
    refine sq fun K44 hK44=>pl0 ?_
    obtain ⟨c45,H⟩:=gd H
    have hE_:=hE
    obtain ⟨ad46,rfl⟩:=g0_0.addr c45.1 c45.2
    replace hE:=hE_
    obtain ⟨cs48,rfl,hc49⟩:=g0_0.el qA.z x28 c45.1 c45.2
    refine plc hE (.r 0 3<|.x 3 c45<|.cs 4 (hS.fcs hc49)<|.nil) (fun a hE=>?_)
    obtain ⟨t51,h52,H⟩:=bd H
    refine ple hE (.cl en205 (qAl.calls (⟨(nth qA.z x0_ x28).f0,(nth qA.z x0_ x28).f1,(nth qA.z x0_ x28).f2,(nth qA.z x0_ x28).f3,(nth qA.z x0_ x28).f4,(nth qA.z x0_ x28).f5⟩:qA) _ _ _ hS.own.sub h52)) ?_
    rintro _ u50 a ⟨_,rfl,hC⟩ hE
    replace hS:=hS.lent hC
    refine plc hE (.r 6 2 .nil) (fun a hE=>pld (hK44 _ _ (pl0 (plc hE (.r 0 1 .nil) (fun a hE=>pld ?_)))))
    refine qCF ?_
    refine hK36 _ _ (pl0 (plc hE (.r 0 3 .nil) (fun a hE=>pld ?_)))
    exact qCG ⟨k31,by omega,_,(w64 (x26+t51)),true,(w64 (x28+1)),by omega,hE,.of,hS,H⟩
   refine wp_skip ?_
   refine qCF ?_
   refine hK36 _ _ (pl0 (plc hE (.r 0 3 .nil) (fun a hE=>pld ?_)))
   exact qCG ⟨k31,by omega,_,x26,y27,(w64 (x28+1)),by omega,hE,.of,hS,H⟩
  refine wp_exit ?_
  refine hK24 _ _ (sq fun K53 hK53=>?_)
  have J60:∀ kq58,kq58≤k31→∀(G:Nat→Value)(x56:Int)(a:Act)(w':World),Env 44 G a→At G [(0,.slice A0_0 x0_.length c0_0),(1,.slice A1_0 x1_.length c1_0),(5,.slice A10 l12.length c11),(6,iv x13),(7,iv x56),(8,.bool y27)]→St W (mine W []) F w' F [row qB.k 216 (.slice A10 l12.length c11) l12]→qj.j57 kq58 x0_ x1_ l12 x13 y27 x56=some r→K53 a w':=by
   intro kq58 hkq G x56 a u61 hE hA hS H
   obtain _ | k59:=kq58
   ·
    exact zz H
   rw [qj.j57_s]at H
   obtain ⟨J,hE⟩:=hE.at hA
   refine hK53 _ _ (rr hE fun a hE=>?_)
   refine hE.ib 36 H (fun c63 hE H=>?_) fun c63 hE H=>?_
   ·
    refine pl0 (plc hE (.r 0 4 .nil) (fun a hE=>ple hE (.lit (d:=qB.k) (e:=216) hS [(⟨x13,x56⟩:qB)] (.cons rfl .nil)) ?_))
    rintro _ u64 a ⟨A65,c66,rfl,hS,hg⟩ hE
    obtain ⟨c68,H⟩:=gd H
    replace hS:=hS.front 1 rfl
    refine ple hE (.ap (d:=qB.k) 16 hS (qCO (hS.row_at (i:=1) rfl)) c68 c66) ?_
    rintro _ u71 a ⟨A69,c70,rfl,hS,hz⟩ hE
    refine plc hE (.r 6 1 .nil) (fun a hE=>pld ?_)
    refine qCF ?_
    refine hK21 _ _ (pl0 (plc hE (.r 0 3 .nil) (fun a hE=>pld ?_)))
    replace hS:=hS.pm [0] 2
    exact qCG ⟨k59,by omega,_,A69,c70,(l12++[(⟨x13,x56⟩:qB)]),(w64 (x13+1)),by omega,hE,.of,hS,H⟩
   refine wp_skip ?_
   refine qCF ?_
   refine hK21 _ _ (pl0 (plc hE (.r 0 3 .nil) (fun a hE=>pld ?_)))
   exact qCG ⟨k59,by omega,_,A10,c11,l12,(w64 (x13+1)),by omega,hE,.of,hS,H⟩
  refine rr hE fun a hE=>?_
  refine hE.ik 35 H (fun c55 hE H=>?_) fun c55 hE H=>?_
  ·
   refine pl0 (plc hE (.r 0 1 .nil) (fun a hE=>pld ?_))
   exact J60 _ (by omega) _ 65536 _ _ hE .of hS H
  refine wp_skip ?_
  exact J60 _ (by omega) _ x26 _ _ hE .of hS H
 refine wp_exit ?_
 refine hK7 _ _ (rr hE fun a hE=>(wp_ret ?_))
 obtain rfl:=si H
 exact rt1 hE ⟨_,rfl,_,_,_,rfl,hS⟩
def qAQ.l12:Nat→List qA→List Int→Int→Option (List qB)
 | 0,_,_,_=>none
 | k+1,x0_,l10,x11=>if x11<(x0_.length:Int) then (if 0≤x11∧x11<(x0_.length:Int) then (if 0≤x11∧x11<((List.replicate ((x0_.length:Int)).toNat (0:Int)).length:Int) then (qAQ.l12 k x0_ (l10.set (x11).toNat ((nth qA.z x0_ x11).f1)) (w64 (x11+1))) else (none)) else (none)) else ((qj.f k x0_ l10).bind fun t40=>(some t40))
theorem qAQ.l12_s k x0_ l10 x11:type_of% (qAQ.l12.eq_2 x0_ l10 x11 k):=qAQ.l12.eq_2 x0_ l10 x11 k
def qAQ.f(k:Nat)(x0_:List qA):Option (List qB):=if 0≤(x0_.length:Int)∧(x0_.length:Int) * 8≤140737488355328 then (qAQ.l12 k x0_ (List.replicate ((x0_.length:Int)).toNat (0:Int)) 0) else (none)
def qAQ.Post(W F:World)(r:List qB)(v:Value)(w':World):Prop:=∃(F':World)(RA0_0:Option Addr)(rc0_0:Nat),v = .slice RA0_0 r.length rc0_0∧St W (mine W []) F w' F' [row qB.k 216 (.slice RA0_0 r.length rc0_0) r]
theorem qAQ.calls(k:Nat)(x0_:List qA)(A0_0:Option Addr)(c0_0:Nat)(r:List qB)(W F:World)(hown:Sub F W)(g0_0:Rd qA.k F A0_0 c0_0 x0_)(H:qAQ.f k x0_=some r):
    Calls Tryz.prog 169 #[.slice A0_0 x0_.length c0_0] W fun e w'=>∃ v,e = .returned v∧qAQ.Post W F r v w':=by
 have hS:=St.start (Own.nil hown)
 unfold qAQ.f at H
 refine enter (n:=25) rfl rfl rfl (Nat.le_of_ble_eq_true rfl) (fun a hE=>?_)
 refine rr hE fun a hE=>(sq fun K2 hK2=>pl0 (plc hE (.r 0 2 .nil) (fun a hE=>?_)))
 obtain ⟨c3,H⟩:=gd H
 refine ple hE (.mk (d:=ki) (e:=3) 8 0 hS c3 (by rw [zr3]; exact rfl)) ?_
 rintro _ u6 a ⟨A4,c5,rfl,hS,hg⟩ hE
 refine plc hE (.r 3 1 .nil) (fun a hE=>pld (hK2 _ _ (sq fun K8 hK8=>rr hE fun a hE=>(wp_block ?_))))
 refine wp_loop_ghost (fun kq13 a w'=>∃(G:Nat→Value)(l10:List Int)(x11:Int),kq13≤k∧Env 25 G a∧At G [(0,.slice A0_0 x0_.length c0_0),(3,.slice A4 ((List.replicate ((x0_.length:Int)).toNat (0:Int)).length) c5),(4,iv x11)]∧St W (mine W []) F w' F [row ki 3 (.slice A4 ((List.replicate ((x0_.length:Int)).toNat (0:Int)).length) c5) l10]∧qAQ.l12 kq13 x0_ l10 x11=some r) k ⟨_,(List.replicate ((x0_.length:Int)).toNat (0:Int)),0,Nat.le_refl _,hE,.of,hS,H⟩ ?_
 rintro kq13 a u15 ⟨G,l10,x11,hkq,hE,hA,hS,H⟩
 obtain _ | k14:=kq13
 ·
  exact zz H
 rw [qAQ.l12_s]at H
 obtain ⟨J,hE⟩:=hE.at hA
 refine sq fun K16 hK16=>rr hE fun a hE=>?_
 refine hE.ik 11 H (fun c18 hE H=>?_) fun c18 hE H=>?_
 ·
  refine wp_skip (hK16 _ _ (sq fun K19 hK19=>wp_block (pl0 ?_)))
  obtain ⟨c20,H⟩:=gd H
  have hE_:=hE
  obtain ⟨ad21,rfl⟩:=g0_0.addr c20.1 c20.2
  replace hE:=hE_
  obtain ⟨cs23,rfl,hc24⟩:=g0_0.el qA.z x11 c20.1 c20.2
  obtain ⟨c25,H⟩:=gd H
  have hr26:=hS.ra 0
  have c27:0≤x11∧x11<(l10.length:Int):=by rw [← (qCH hr26).1]; exact c25
  have hE_:=hE
  obtain ⟨b28,rfl⟩:=qCK hr26 c27.1 c27.2
  replace hE:=hE_
  have hr_:=hS.ra 0
  obtain ⟨cs30,rfl,hc31⟩:=qCI hr_ 0 x11 c27.1 c27.2
  refine plc hE (.r 0 4<|.x 4 c20<|.r 5 1<|.c 6 (hS.fc hc24 1)<|.x 7 c25<|.nil) (fun a hE=>?_)
  obtain ⟨cs33,rfl,hc34⟩:=qCI (hS.row_at (i:=0) rfl) 0 x11 c27.1 c27.2
  refine ple hE (.set (d:=ki) (n:=(List.replicate ((x0_.length:Int)).toNat (0:Int)).length) (i:=x11) ((nth qA.z x0_ x11).f1) (0) (ea0 _ _) hS c27 [iv (nth 0 l10 x11)] hc34 [iv ((nth qA.z x0_ x11).f1)] rfl) ?_
  rintro _ u32 a ⟨rfl,hS,hz⟩ hE
  refine pld ?_
  refine qCF ?_
  refine hK19 _ _ (pl0 (plc hE (.r 0 3 .nil) (fun a hE=>pld ?_)))
  exact qCG ⟨k14,by omega,_,(l10.set (x11).toNat ((nth qA.z x0_ x11).f1)),(w64 (x11+1)),by omega,hE,.of,hS,H⟩
 refine wp_exit ?_
 refine hK8 _ _ (sq fun K35 hK35=>pl0 (plc hE (.r 0 2 .nil) (fun a hE=>?_)))
 have hn36:=(qCH (hS.row_at (i:=0) rfl)).1
 replace hE:=hE.set (d:=3) (v:=.slice A4 l10.length c5) (Eq.trans (b:=.slice A4 ((List.replicate ((x0_.length:Int)).toNat (0:Int)).length) c5) (by kernel_rfl) (by rw [← hn36]))
 replace hE:=hE.set (d:=23) (v:=.slice A4 l10.length c5) (Eq.trans (b:=.slice A4 ((List.replicate ((x0_.length:Int)).toNat (0:Int)).length) c5) (by kernel_rfl) (by rw [← hn36]))
 replace hS:St W (mine W []) F u15 F [row ki 3 (.slice A4 l10.length c5) l10]:=by rw [← hn36]; exact hS
 obtain ⟨F37,hs,g38,hS⟩:=hS.give
 replace g0_0:=g0_0.mono hs
 obtain ⟨t40,h41,H⟩:=bd H
 refine ple hE (.cl en206 (qj.calls k14 x0_ l10 _ _ _ _ _ _ _ hS.own.sub g0_0 g38 h41)) ?_
 rintro _ u39 a ⟨F42,A43,c44,rfl,hC⟩ hE
 have hs:=hC.sub
 replace hS:=hS.called (X:=[]) hC
 replace g0_0:=g0_0.mono hs
 replace g38:=g38.mono hs
 refine plc hE (.r 3 1 .nil) (fun a hE=>pld (hK35 _ _ (wp_ret ?_)))
 obtain rfl:=si H
 exact rt1 hE ⟨_,rfl,_,_,_,rfl,hS⟩
def qAN.l12:Nat→List qA→Int→List Int→Int→Option (List qB)
 | 0,_,_,_,_=>none
 | k+1,x0_,x1_,l10,x11=>if x11<(x0_.length:Int) then (if 0≤x11∧x11<(x0_.length:Int) then (if (nth qA.z x0_ x11).f1=x1_ then (if 0≤x11∧x11<((List.replicate ((x0_.length:Int)).toNat (0:Int)).length:Int) then (qAN.l12 k x0_ x1_ (l10.set (x11).toNat ((nth qA.z x0_ x11).f2)) (w64 (x11+1))) else (none)) else (qAN.l12 k x0_ x1_ l10 (w64 (x11+1)))) else (none)) else ((qj.f k x0_ l10).bind fun t45=>(some t45))
theorem qAN.l12_s k x0_ x1_ l10 x11:type_of% (qAN.l12.eq_2 x0_ x1_ l10 x11 k):=qAN.l12.eq_2 x0_ x1_ l10 x11 k
def qAN.f(k:Nat)(x0_:List qA)(x1_:Int):Option (List qB):=if 0≤(x0_.length:Int)∧(x0_.length:Int) * 8≤140737488355328 then (qAN.l12 k x0_ x1_ (List.replicate ((x0_.length:Int)).toNat (0:Int)) 0) else (none)
def qAN.Post(W F:World)(r:List qB)(v:Value)(w':World):Prop:=∃(F':World)(RA0_0:Option Addr)(rc0_0:Nat),v = .slice RA0_0 r.length rc0_0∧St W (mine W []) F w' F' [row qB.k 216 (.slice RA0_0 r.length rc0_0) r]
theorem qAN.calls(k:Nat)(x0_:List qA)(x1_:Int)(A0_0:Option Addr)(c0_0:Nat)(r:List qB)(W F:World)(hown:Sub F W)(g0_0:Rd qA.k F A0_0 c0_0 x0_)(H:qAN.f k x0_ x1_=some r):
    Calls Tryz.prog 170 #[.slice A0_0 x0_.length c0_0,iv x1_] W fun e w'=>∃ v,e = .returned v∧qAN.Post W F r v w':=by
 have hS:=St.start (Own.nil hown)
 unfold qAN.f at H
 refine enter (n:=34) rfl rfl rfl (Nat.le_of_ble_eq_true rfl) (fun a hE=>?_)
 refine rr hE fun a hE=>(sq fun K2 hK2=>pl0 (plc hE (.r 0 2 .nil) (fun a hE=>?_)))
 obtain ⟨c3,H⟩:=gd H
 refine ple hE (.mk (d:=ki) (e:=3) 8 0 hS c3 (by rw [zr3]; exact rfl)) ?_
 rintro _ u6 a ⟨A4,c5,rfl,hS,hg⟩ hE
 refine plc hE (.r 3 1 .nil) (fun a hE=>pld (hK2 _ _ (sq fun K8 hK8=>rr hE fun a hE=>(wp_block ?_))))
 refine wp_loop_ghost (fun kq13 a w'=>∃(G:Nat→Value)(l10:List Int)(x11:Int),kq13≤k∧Env 34 G a∧At G [(0,.slice A0_0 x0_.length c0_0),(1,iv x1_),(5,.slice A4 ((List.replicate ((x0_.length:Int)).toNat (0:Int)).length) c5),(6,iv x11)]∧St W (mine W []) F w' F [row ki 3 (.slice A4 ((List.replicate ((x0_.length:Int)).toNat (0:Int)).length) c5) l10]∧qAN.l12 kq13 x0_ x1_ l10 x11=some r) k ⟨_,(List.replicate ((x0_.length:Int)).toNat (0:Int)),0,Nat.le_refl _,hE,.of,hS,H⟩ ?_
 rintro kq13 a u15 ⟨G,l10,x11,hkq,hE,hA,hS,H⟩
 obtain _ | k14:=kq13
 ·
  exact zz H
 rw [qAN.l12_s]at H
 obtain ⟨J,hE⟩:=hE.at hA
 refine sq fun K16 hK16=>rr hE fun a hE=>?_
 refine hE.ik 13 H (fun c18 hE H=>?_) fun c18 hE H=>?_
 ·
  refine wp_skip (hK16 _ _ (sq fun K19 hK19=>wp_block (sq fun K20 hK20=>pl0 ?_)))
  obtain ⟨c21,H⟩:=gd H
  have hE_:=hE
  obtain ⟨ad22,rfl⟩:=g0_0.addr c21.1 c21.2
  replace hE:=hE_
  obtain ⟨cs24,rfl,hc25⟩:=g0_0.el qA.z x11 c21.1 c21.2
  refine plc hE (.r 0 2<|.x 2 c21<|.r 3 1<|.c 4 (hS.fc hc25 1)<|.r 5 2<|.nil) (fun a hE=>pld (hK20 _ _ ?_))
  refine hE.ik 22 H (fun c26 hE H=>?_) fun c26 hE H=>?_
  ·
   refine pl0 ?_
   obtain ⟨c30,H⟩:=gd H
   have hr31:=hS.ra 0
   have c32:0≤x11∧x11<(l10.length:Int):=by rw [← (qCH hr31).1]; exact c30
   have hE_:=hE
   obtain ⟨b33,rfl⟩:=qCK hr31 c32.1 c32.2
   replace hE:=hE_
   have hr_:=hS.ra 0
   obtain ⟨cs35,rfl,hc36⟩:=qCI hr_ 0 x11 c32.1 c32.2
   refine plc hE (.r 0 4<|.x 4 c21<|.r 5 1<|.c 6 (hS.fc hc25 2)<|.x 7 c30<|.nil) (fun a hE=>?_)
   obtain ⟨cs38,rfl,hc39⟩:=qCI (hS.row_at (i:=0) rfl) 0 x11 c32.1 c32.2
   refine ple hE (.set (d:=ki) (n:=(List.replicate ((x0_.length:Int)).toNat (0:Int)).length) (i:=x11) ((nth qA.z x0_ x11).f2) (0) (ea0 _ _) hS c32 [iv (nth 0 l10 x11)] hc39 [iv ((nth qA.z x0_ x11).f2)] rfl) ?_
   rintro _ u37 a ⟨rfl,hS,hz⟩ hE
   refine pld ?_
   refine qCF ?_
   refine hK19 _ _ (pl0 (plc hE (.r 0 3 .nil) (fun a hE=>pld ?_)))
   exact qCG ⟨k14,by omega,_,(l10.set (x11).toNat ((nth qA.z x0_ x11).f2)),(w64 (x11+1)),by omega,hE,.of,hS,H⟩
  refine wp_skip ?_
  refine qCF ?_
  refine hK19 _ _ (pl0 (plc hE (.r 0 3 .nil) (fun a hE=>pld ?_)))
  exact qCG ⟨k14,by omega,_,l10,(w64 (x11+1)),by omega,hE,.of,hS,H⟩
 refine wp_exit ?_
 refine hK8 _ _ (sq fun K40 hK40=>pl0 (plc hE (.r 0 2 .nil) (fun a hE=>?_)))
 have hn41:=(qCH (hS.row_at (i:=0) rfl)).1
 replace hE:=hE.set (d:=5) (v:=.slice A4 l10.length c5) (Eq.trans (b:=.slice A4 ((List.replicate ((x0_.length:Int)).toNat (0:Int)).length) c5) (by kernel_rfl) (by rw [← hn41]))
 replace hE:=hE.set (d:=32) (v:=.slice A4 l10.length c5) (Eq.trans (b:=.slice A4 ((List.replicate ((x0_.length:Int)).toNat (0:Int)).length) c5) (by kernel_rfl) (by rw [← hn41]))
 replace hS:St W (mine W []) F u15 F [row ki 3 (.slice A4 l10.length c5) l10]:=by rw [← hn41]; exact hS
 obtain ⟨F42,hs,g43,hS⟩:=hS.give
 replace g0_0:=g0_0.mono hs
 obtain ⟨t45,h46,H⟩:=bd H
 refine ple hE (.cl en206 (qj.calls k14 x0_ l10 _ _ _ _ _ _ _ hS.own.sub g0_0 g43 h46)) ?_
 rintro _ u44 a ⟨F47,A48,c49,rfl,hC⟩ hE
 have hs:=hC.sub
 replace hS:=hS.called (X:=[]) hC
 replace g0_0:=g0_0.mono hs
 replace g43:=g43.mono hs
 refine plc hE (.r 3 1 .nil) (fun a hE=>pld (hK40 _ _ (wp_ret ?_)))
 obtain rfl:=si H
 exact rt1 hE ⟨_,rfl,_,_,_,rfl,hS⟩
def qAj.f(x0_:Int):Option Int:=some (IntKind.u64.wrap ((IntKind.u64.wrap ((IntKind.u64.wrap (x0_.tdiv 4294967296)) * 4294967296))+(IntKind.u64.wrap (((BitVec.ofInt 64 (x0_.tmod 4294967296) ^^^ BitVec.ofInt 64 (IntKind.u64.wrap (x0_.tdiv 4294967296))).toNat:Int)))))
def qAj.Post(W F:World)(r:Int)(v:Value)(w':World):Prop:=∃(F':World),v = .int .u64 r∧St W (mine W []) F w' F' []
theorem qAj.calls(x0_:Int)(r:Int)(W F:World)(hown:Sub F W)(H:qAj.f x0_=some r):
    Calls Tryz.prog 231 #[.int .u64 x0_] W fun e w'=>∃ v,e = .returned v∧qAj.Post W F r v w':=by
 have hS:=St.start (Own.nil hown)
 unfold qAj.f at H
 refine enter (n:=15) rfl rfl rfl (Nat.le_of_ble_eq_true rfl) (fun a hE=>?_)
 refine rr hE fun a hE=>(rr hE fun a hE=>(rr hE fun a hE=>(wp_ret ?_)))
 obtain rfl:=si H
 exact rt1 hE ⟨_,rfl,_,rfl,hS⟩
def qAs.f(x0_:Int):Option Int:=(qAj.f x0_).bind fun t4=>((qAj.f (IntKind.u64.wrap (t4 * 15485907386658061715))).bind fun t8=>((qAj.f (IntKind.u64.wrap (t8 * 15485907386658061715))).bind fun t12=>(some t12)))
def qAs.Post(W F:World)(r:Int)(v:Value)(w':World):Prop:=∃(F':World),v = .int .u64 r∧St W (mine W []) F w' F' []
theorem qAs.calls(x0_:Int)(r:Int)(W F:World)(hown:Sub F W)(H:qAs.f x0_=some r):
    Calls Tryz.prog 209 #[.int .u64 x0_] W fun e w'=>∃ v,e = .returned v∧qAs.Post W F r v w':=by
 have hS:=St.start (Own.nil hown)
 unfold qAs.f at H
 refine enter (n:=11) rfl rfl rfl (Nat.le_of_ble_eq_true rfl) (fun a hE=>?_)
 refine rr hE fun a hE=>(sq fun K2 hK2=>pl0 (plc hE (.r 0 1 .nil) (fun a hE=>?_)))
 obtain ⟨t4,h5,H⟩:=bd H
 refine ple hE (.cl en231 (qAj.calls x0_ _ _ _ hS.own.sub h5)) ?_
 rintro _ u3 a ⟨_,rfl,hC⟩ hE
 replace hS:=hS.lent hC
 refine plc hE (.r 2 2 .nil) (fun a hE=>pld (hK2 _ _ (sq fun K6 hK6=>pl0 (plc hE (.r 0 1 .nil) (fun a hE=>?_)))))
 obtain ⟨t8,h9,H⟩:=bd H
 refine ple hE (.cl en231 (qAj.calls (IntKind.u64.wrap (t4 * 15485907386658061715)) _ _ _ hS.own.sub h9)) ?_
 rintro _ u7 a ⟨_,rfl,hC⟩ hE
 replace hS:=hS.lent hC
 refine plc hE (.r 2 2 .nil) (fun a hE=>pld (hK6 _ _ (sq fun K10 hK10=>pl0 (plc hE (.r 0 1 .nil) (fun a hE=>?_)))))
 obtain ⟨t12,h13,H⟩:=bd H
 refine ple hE (.cl en231 (qAj.calls (IntKind.u64.wrap (t8 * 15485907386658061715)) _ _ _ hS.own.sub h13)) ?_
 rintro _ u11 a ⟨_,rfl,hC⟩ hE
 replace hS:=hS.lent hC
 refine plc hE (.r 2 1 .nil) (fun a hE=>pld (hK10 _ _ (wp_ret ?_)))
 obtain rfl:=si H
 exact rt1 hE ⟨_,rfl,_,rfl,hS⟩
def qAL.l10:Nat→List Int→Int→Int→Option Int
 | 0,_,_,_=>none
 | k+1,x1_,x8,x9=>if x9<(x1_.length:Int) then (if 0≤x9∧x9<(x1_.length:Int) then ((qAs.f (IntKind.u64.wrap ((IntKind.u64.wrap (((BitVec.ofInt 64 x8 ^^^ BitVec.ofInt 64 (nth 0 x1_ x9)).toNat:Int)))+11400714819323198485))).bind fun t24=>(qAL.l10 k x1_ t24 (w64 (x9+1)))) else (none)) else (some x8)
theorem qAL.l10_s k x1_ x8 x9:type_of% (qAL.l10.eq_2 x1_ x8 x9 k):=qAL.l10.eq_2 x1_ x8 x9 k
def qAL.f(k:Nat)(x0_:Int)(x1_:List Int):Option Int:=(qAs.f x0_).bind fun t4=>(qAL.l10 k x1_ t4 0)
def qAL.Post(W F:World)(r:Int)(v:Value)(w':World):Prop:=∃(F':World),v = .int .u64 r∧St W (mine W []) F w' F' []
theorem qAL.calls(k:Nat)(x0_:Int)(x1_:List Int)(A1_0:Option Addr)(c1_0:Nat)(r:Int)(W F:World)(hown:Sub F W)(g1_0:Rd (Kn.int .u64) F A1_0 c1_0 x1_)(H:qAL.f k x0_ x1_=some r):
    Calls Tryz.prog 172 #[.int .u64 x0_,.slice A1_0 x1_.length c1_0] W fun e w'=>∃ v,e = .returned v∧qAL.Post W F r v w':=by
 have hS:=St.start (Own.nil hown)
 unfold qAL.f at H
 refine enter (n:=24) rfl rfl rfl (Nat.le_of_ble_eq_true rfl) (fun a hE=>?_)
 refine rr hE fun a hE=>(sq fun K2 hK2=>pl0 (plc hE (.r 0 1 .nil) (fun a hE=>?_)))
 obtain ⟨t4,h5,H⟩:=bd H
 refine ple hE (.cl en209 (qAs.calls x0_ _ _ _ hS.own.sub h5)) ?_
 rintro _ u3 a ⟨_,rfl,hC⟩ hE
 replace hS:=hS.lent hC
 refine plc hE (.r 2 1 .nil) (fun a hE=>pld (hK2 _ _ (sq fun K6 hK6=>rr hE fun a hE=>(wp_block ?_))))
 refine wp_loop_ghost (fun kq11 a w'=>∃(G:Nat→Value)(x8:Int)(x9:Int),kq11≤k∧Env 24 G a∧At G [(1,.slice A1_0 x1_.length c1_0),(5,.int .u64 x8),(6,iv x9)]∧St W (mine W []) F w' F []∧qAL.l10 kq11 x1_ x8 x9=some r) k ⟨_,t4,0,Nat.le_refl _,hE,.of,hS,H⟩ ?_
 rintro kq11 a u13 ⟨G,x8,x9,hkq,hE,hA,hS,H⟩
 obtain _ | k12:=kq11
 ·
  exact zz H
 rw [qAL.l10_s]at H
 obtain ⟨J,hE⟩:=hE.at hA
 refine sq fun K14 hK14=>rr hE fun a hE=>?_
 refine hE.ik 12 H (fun c16 hE H=>?_) fun c16 hE H=>?_
 ·
  refine wp_skip (hK14 _ _ (sq fun K17 hK17=>wp_block (pl0 ?_)))
  obtain ⟨c18,H⟩:=gd H
  have hE_:=hE
  obtain ⟨ad19,rfl⟩:=g1_0.addr c18.1 c18.2
  replace hE:=hE_
  obtain ⟨cs21,rfl,hc22⟩:=g1_0.el 0 x9 c18.1 c18.2
  refine plc hE (.r 0 3<|.x 3 c18<|.c 4 (hS.fc hc22 0)<|.r 5 2<|.nil) (fun a hE=>?_)
  obtain ⟨t24,h25,H⟩:=bd H
  refine ple hE (.cl en209 (qAs.calls (IntKind.u64.wrap ((IntKind.u64.wrap (((BitVec.ofInt 64 x8 ^^^ BitVec.ofInt 64 (nth 0 x1_ x9)).toNat:Int)))+11400714819323198485)) _ _ _ hS.own.sub h25)) ?_
  rintro _ u23 a ⟨_,rfl,hC⟩ hE
  replace hS:=hS.lent hC
  refine plc hE (.r 8 1 .nil) (fun a hE=>pld ?_)
  refine qCF ?_
  refine hK17 _ _ (pl0 (plc hE (.r 0 3 .nil) (fun a hE=>pld ?_)))
  exact qCG ⟨k12,by omega,_,t24,(w64 (x9+1)),by omega,hE,.of,hS,H⟩
 refine wp_exit ?_
 refine hK6 _ _ (rr hE fun a hE=>(wp_ret ?_))
 obtain rfl:=si H
 exact rt1 hE ⟨_,rfl,_,rfl,hS⟩
mutual
def qi.j6:Nat→Int→Bool→Option Int
 | 0,_,_=>none
 | k+1,x0_,y5=>if y5=true then (some 0) else (if x0_≤32768 then ((qi.f k (w64 (2 * x0_))).bind fun t18=>(some (w64 (65536+t18)))) else (qi.l27 k (IntKind.u64.wrap ((IntKind.u64.wrap x0_) * 32768)) 0 0))
def qi.l27:Nat→Int→Int→Int→Option Int
 | 0,_,_,_=>none
 | k+1,x24,x25,x26=>if x26<16 then (if (IntKind.u64.wrap ((IntKind.u64.wrap (x24 * x24)).tdiv 2147483648))≤1073741824 then (qi.l27 k (IntKind.u64.wrap (2 * (IntKind.u64.wrap ((IntKind.u64.wrap (x24 * x24)).tdiv 2147483648)))) (w64 ((w64 (2 * x25))+1)) (w64 (x26+1))) else (qi.l27 k (IntKind.u64.wrap ((IntKind.u64.wrap (x24 * x24)).tdiv 2147483648)) (w64 (2 * x25)) (w64 (x26+1)))) else (some x25)
def qi.f:Nat→Int→Option Int
 | 0,_=>none
 | k+1,x0_=>if x0_<1 then (qi.j6 k x0_ true) else (qi.j6 k x0_ (decide (x0_>65536)))
end
theorem qi.j6_s k x0_ y5:type_of% (qi.j6.eq_2 x0_ y5 k):=qi.j6.eq_2 x0_ y5 k
theorem qi.l27_s k x24 x25 x26:type_of% (qi.l27.eq_2 x24 x25 x26 k):=qi.l27.eq_2 x24 x25 x26 k
theorem qi.f_s k x0_:type_of% (qi.f.eq_2 x0_ k):=qi.f.eq_2 x0_ k
def qi.Post(W F:World)(r:Int)(v:Value)(w':World):Prop:=∃(F':World),v=iv r∧St W (mine W []) F w' F' []
theorem qi.calls:∀(k:Nat)(x0_:Int)(r:Int)(W F:World)(hown:Sub F W)(H:qi.f k x0_=some r),
    Calls Tryz.prog 251 #[iv x0_] W fun e w'=>∃ v,e = .returned v∧qi.Post W F r v w':=by
 intro k
 induction k using Nat.strongRecOn
 rename_i k ih
 intro x0_ r W F hown H
 obtain _ | k1:=k
 ·
  exact zz H
 have hS:=St.start (Own.nil hown)
 rw [qi.f_s]at H
 refine enter (n:=38) rfl rfl rfl (Nat.le_of_ble_eq_true rfl) (fun a hE=>?_)
 refine rr hE fun a hE=>(sq fun K2 hK2=>sq fun K3 hK3=>?_)
 have J9:∀ kq7,kq7≤k1→∀(G:Nat→Value)(y5:Bool)(a:Act)(w':World),Env 38 G a→At G [(0,iv x0_),(11,.bool y5)]→St W (mine W []) F w' F []→qi.j6 kq7 x0_ y5=some r→K3 a w':=by
  intro kq7 hkq G y5 a u10 hE hA hS H
  obtain _ | k8:=kq7
  ·
   exact zz H
  rw [qi.j6_s]at H
  obtain ⟨J,hE⟩:=hE.at hA
  refine hK3 _ _ ?_
  refine hE.ib 11 H (fun c11 hE H=>?_) fun c11 hE H=>?_
  ·
   refine rr hE fun a hE=>(wp_ret (qCD ?_))
   obtain rfl:=si H
   exact rt1 hE ⟨_,rfl,_,rfl,hS⟩
  refine wp_skip (hK2 _ _ (sq fun K13 hK13=>rr hE fun a hE=>?_))
  refine hE.ik 13 H (fun c15 hE H=>?_) fun c15 hE H=>?_
  ·
   refine sq fun K16 hK16=>pl0 (plc hE (.r 0 2 .nil) (fun a hE=>?_))
   obtain ⟨t18,h19,H⟩:=bd H
   refine ple hE (.cl en251 (ih k8 (by omega) (w64 (2 * x0_)) _ _ _ hS.own.sub h19)) ?_
   rintro _ u17 a ⟨_,rfl,hC⟩ hE
   replace hS:=hS.lent hC
   refine plc hE (.r 3 2 .nil) (fun a hE=>pld (hK16 _ _ (wp_ret (qCD ?_))))
   obtain rfl:=si H
   exact rt1 hE ⟨_,rfl,_,rfl,hS⟩
  refine wp_skip (hK13 _ _ (rr hE fun a hE=>(rr hE fun a hE=>(sq fun K22 hK22=>rr hE fun a hE=>(wp_block ?_)))))
  refine wp_loop_ghost (fun kq28 a w'=>∃(G:Nat→Value)(x24:Int)(x25:Int)(x26:Int),kq28≤k8∧Env 38 G a∧At G [(3,.int .u64 x24),(4,iv x25),(5,iv x26)]∧St W (mine W []) F w' F []∧qi.l27 kq28 x24 x25 x26=some r) k8 ⟨_,(IntKind.u64.wrap ((IntKind.u64.wrap x0_) * 32768)),0,0,Nat.le_refl _,hE,.of,hS,H⟩ ?_
  rintro kq28 a u30 ⟨G,x24,x25,x26,hkq,hE,hA,hS,H⟩
  obtain _ | k29:=kq28
  ·
   exact zz H
  rw [qi.l27_s]at H
  obtain ⟨J,hE⟩:=hE.at hA
  refine sq fun K31 hK31=>rr hE fun a hE=>?_
  refine hE.ik 22 H (fun c33 hE H=>?_) fun c33 hE H=>?_
  ·
   refine wp_skip (hK31 _ _ (sq fun K34 hK34=>wp_block (rr hE fun a hE=>(rr hE fun a hE=>(rr hE fun a hE=>?_)))))
   refine hE.ik 32 H (fun c38 hE H=>?_) fun c38 hE H=>?_
   ·
    refine rr hE fun a hE=>(pl0 (plc hE (.r 0 3 .nil) (fun a hE=>pld ?_)))
    refine qCF ?_
    refine hK34 _ _ (pl0 (plc hE (.r 0 3 .nil) (fun a hE=>pld ?_)))
    exact qCG ⟨k29,by omega,_,(IntKind.u64.wrap (2 * (IntKind.u64.wrap ((IntKind.u64.wrap (x24 * x24)).tdiv 2147483648)))),(w64 ((w64 (2 * x25))+1)),(w64 (x26+1)),by omega,hE,.of,hS,H⟩
   refine wp_skip ?_
   refine qCF ?_
   refine hK34 _ _ (pl0 (plc hE (.r 0 3 .nil) (fun a hE=>pld ?_)))
   exact qCG ⟨k29,by omega,_,(IntKind.u64.wrap ((IntKind.u64.wrap (x24 * x24)).tdiv 2147483648)),(w64 (2 * x25)),(w64 (x26+1)),by omega,hE,.of,hS,H⟩
  refine wp_exit ?_
  refine hK22 _ _ (rr hE fun a hE=>(wp_ret ?_))
  obtain rfl:=si H
  exact rt1 hE ⟨_,rfl,_,rfl,hS⟩
 refine pl0 (plc hE (.r 0 3 .nil) (fun a hE=>?_))
 rcases sp H with ⟨c4,H⟩ | ⟨c4,H⟩
 ·
  replace hE:=hE.kt 8 c4
  refine plc hE (.r 3 3 .nil) (fun a hE=>pld ?_)
  exact J9 _ (by omega) _ true _ _ hE .of hS H
 replace hE:=hE.kf 8 c4
 refine plc hE (.r 3 3 .nil) (fun a hE=>pld ?_)
 exact J9 _ (by omega) _ (decide (x0_>65536)) _ _ hE .of hS H
def qAp.f(k:Nat)(x0_:Int)(x1_:Int):Option Int:=(qAL.f k x0_ [(IntKind.u64.wrap x1_)]).bind fun t8=>((qi.f k (w64 (1+(w64 (IntKind.u64.wrap (t8.tdiv 281474976710656)))))).bind fun t11=>(some t11))
def qAp.Post(W F:World)(r:Int)(v:Value)(w':World):Prop:=∃(F':World),v=iv r∧St W (mine W []) F w' F' []
theorem qAp.calls(k:Nat)(x0_:Int)(x1_:Int)(r:Int)(W F:World)(hown:Sub F W)(H:qAp.f k x0_ x1_=some r):
    Calls Tryz.prog 230 #[.int .u64 x0_,iv x1_] W fun e w'=>∃ v,e = .returned v∧qAp.Post W F r v w':=by
 have hS:=St.start (Own.nil hown)
 unfold qAp.f at H
 refine enter (n:=14) rfl rfl rfl (Nat.le_of_ble_eq_true rfl) (fun a hE=>?_)
 refine rr hE fun a hE=>(sq fun K2 hK2=>pl0 (plc hE (.r 0 3 .nil) (fun a hE=>ple hE (.lit (d:=(Kn.int .u64)) (e:=182) hS [(IntKind.u64.wrap x1_)] (.cons rfl .nil)) ?_)))
 rintro _ u3 a ⟨A4,c5,rfl,hS,hg⟩ hE
 obtain ⟨t8,h9,H⟩:=bd H
 refine ple hE (.cl en172 (qAL.calls k x0_ [(IntKind.u64.wrap x1_)] _ _ _ _ _ (Sub.refl _) (hS.rd_at (i:=0) rfl) h9)) ?_
 rintro _ u7 a ⟨_,rfl,hC⟩ hE
 replace hS:=hS.lent hC
 refine plc hE (.r 5 3 .nil) (fun a hE=>?_)
 obtain ⟨t11,h12,H⟩:=bd H
 refine ple hE (.cl en251 (qi.calls k (w64 (1+(w64 (IntKind.u64.wrap (t8.tdiv 281474976710656))))) _ _ _ hS.own.sub h12)) ?_
 rintro _ u10 a ⟨_,rfl,hC⟩ hE
 replace hS:=hS.lent hC
 refine plc hE (.r 9 1 .nil) (fun a hE=>pld (hK2 _ _ (wp_ret ?_)))
 replace hS:=hS.tail
 obtain rfl:=si H
 exact rt1 hE ⟨_,rfl,_,rfl,hS⟩
mutual
def qr.l7:Nat→Int→List qB→Int→Int→Option (Int × Bool)
 | 0,_,_,_,_=>none
 | k+1,x0_,x1_,x5,x6=>if x6<(x1_.length:Int) then (if 0≤x6∧x6<(x1_.length:Int) then (if (nth qB.z x1_ x6).f1=0 then (qr.l7 k x0_ x1_ x5 (w64 (x6+1))) else (if x5<0 then (qr.j45 k x0_ x1_ x5 x6 true) else (if 0≤x5∧x5<(x1_.length:Int) then ((qAp.f k x0_ ((nth qB.z x1_ x6).f0)).bind fun t39=>((qAp.f k x0_ ((nth qB.z x1_ x5).f0)).bind fun t42=>(qr.j45 k x0_ x1_ x5 x6 (decide ((w64 (t39 * (nth qB.z x1_ x5).f1))<(w64 (t42 * (nth qB.z x1_ x6).f1))))))) else (none)))) else (none)) else (if x5<0 then (some (0,false)) else (if 0≤x5∧x5<(x1_.length:Int) then (some ((nth qB.z x1_ x5).f0,true)) else (none)))
def qr.j45:Nat→Int→List qB→Int→Int→Bool→Option (Int × Bool)
 | 0,_,_,_,_,_=>none
 | k+1,x0_,x1_,x5,x6,y44=>if y44=true then (qr.l7 k x0_ x1_ x6 (w64 (x6+1))) else (qr.l7 k x0_ x1_ x5 (w64 (x6+1)))
end
theorem qr.l7_s k x0_ x1_ x5 x6:type_of% (qr.l7.eq_2 x0_ x1_ x5 x6 k):=qr.l7.eq_2 x0_ x1_ x5 x6 k
theorem qr.j45_s k x0_ x1_ x5 x6 y44:type_of% (qr.j45.eq_2 x0_ x1_ x5 x6 y44 k):=qr.j45.eq_2 x0_ x1_ x5 x6 y44 k
def qr.f(k:Nat)(x0_:Int)(x1_:List qB):Option (Int × Bool):=qr.l7 k x0_ x1_ (-1) 0
def qr.Post(W F:World)(r:Int × Bool)(v:Value)(w':World):Prop:=∃(F':World),v = .tuple #[iv r.1,.bool r.2]∧St W (mine W []) F w' F' []
theorem qr.calls(k:Nat)(x0_:Int)(x1_:List qB)(A1_0:Option Addr)(c1_0:Nat)(r:Int × Bool)(W F:World)(hown:Sub F W)(g1_0:Rd qB.k F A1_0 c1_0 x1_)(H:qr.f k x0_ x1_=some r):
    Calls Tryz.prog 207 #[.int .u64 x0_,.slice A1_0 x1_.length c1_0] W fun e w'=>∃ v,e = .returned v∧qr.Post W F r v w':=by
 have hS:=St.start (Own.nil hown)
 unfold qr.f at H
 refine enter (n:=59) rfl rfl rfl (Nat.le_of_ble_eq_true rfl) (fun a hE=>?_)
 refine rr hE fun a hE=>(rr hE fun a hE=>(sq fun K3 hK3=>rr hE fun a hE=>(wp_block ?_)))
 refine wp_loop_ghost (fun kq8 a w'=>∃(G:Nat→Value)(x5:Int)(x6:Int),kq8≤k∧Env 59 G a∧At G [(0,.int .u64 x0_),(1,.slice A1_0 x1_.length c1_0),(6,iv x5),(7,iv x6)]∧St W (mine W []) F w' F []∧qr.l7 kq8 x0_ x1_ x5 x6=some r) k ⟨_,(-1),0,Nat.le_refl _,hE,.of,hS,H⟩ ?_
 rintro kq8 a u10 ⟨G,x5,x6,hkq,hE,hA,hS,H⟩
 obtain _ | k9:=kq8
 ·
  exact zz H
 rw [qr.l7_s]at H
 obtain ⟨J,hE⟩:=hE.at hA
 refine sq fun K11 hK11=>rr hE fun a hE=>?_
 refine hE.ik 11 H (fun c13 hE H=>?_) fun c13 hE H=>?_
 ·
  refine wp_skip (hK11 _ _ (sq fun K14 hK14=>wp_block (sq fun K15 hK15=>sq fun K16 hK16=>pl0 ?_)))
  obtain ⟨c17,H⟩:=gd H
  have hE_:=hE
  obtain ⟨ad18,rfl⟩:=g1_0.addr c17.1 c17.2
  replace hE:=hE_
  obtain ⟨cs20,rfl,hc21⟩:=g1_0.el qB.z x6 c17.1 c17.2
  refine plc hE (.r 0 2<|.x 2 c17<|.r 3 1<|.c 4 (hS.fc hc21 1)<|.r 5 1<|.nil) (fun a hE=>pld (hK16 _ _ ?_))
  refine hE.ik 19 H (fun c22 hE H=>?_) fun c22 hE H=>?_
  ·
   refine wp_exit ?_
   refine hK14 _ _ (pl0 (plc hE (.r 0 3 .nil) (fun a hE=>pld ?_)))
   exact qCG ⟨k9,by omega,_,x5,(w64 (x6+1)),by omega,hE,.of,hS,H⟩
  refine wp_skip (hK15 _ _ (sq fun K23 hK23=>?_))
  have J48:∀ kq46,kq46≤k9→∀(G:Nat→Value)(y44:Bool)(a:Act)(w':World),Env 59 G a→At G [(0,.int .u64 x0_),(1,.slice (some ad18) x1_.length c1_0),(6,iv x5),(7,iv x6),(50,.bool y44)]→St W (mine W []) F w' F []→qr.j45 kq46 x0_ x1_ x5 x6 y44=some r→K23 a w':=by
   intro kq46 hkq G y44 a u49 hE hA hS H
   obtain _ | k47:=kq46
   ·
    exact zz H
   rw [qr.j45_s]at H
   obtain ⟨J,hE⟩:=hE.at hA
   refine hK23 _ _ ?_
   refine hE.ib 50 H (fun c50 hE H=>?_) fun c50 hE H=>?_
   ·
    refine pl0 (plc hE (.r 0 2 .nil) (fun a hE=>pld ?_))
    refine qCF ?_
    refine hK14 _ _ (pl0 (plc hE (.r 0 3 .nil) (fun a hE=>pld ?_)))
    exact qCG ⟨k47,by omega,_,x6,(w64 (x6+1)),by omega,hE,.of,hS,H⟩
   refine wp_skip ?_
   refine qCF ?_
   refine hK14 _ _ (pl0 (plc hE (.r 0 3 .nil) (fun a hE=>pld ?_)))
   exact qCG ⟨k47,by omega,_,x5,(w64 (x6+1)),by omega,hE,.of,hS,H⟩
  refine drawn 31 ⟨[],[],fun q=>False⟩ mixed rfl (by kernel_rfl) (fun hst=>?_)
  replace hS:=hS.drew
  refine mny 28 hst hE (.r 0 3 .nil) (fun a hE=>?_)
  rcases sp H with ⟨c24,H⟩ | ⟨c24,H⟩
  ·
   replace hE:=hE.kt 22 c24
   refine mny 0 hst hE (.r 3 28 .nil) (fun a hE=>?_)
   refine dn ?_
   exact J48 _ (by omega) _ true _ _ hE .of hS H
  replace hE:=hE.kf 22 c24
  obtain ⟨c28,H⟩:=gd H
  obtain ⟨cs30,rfl,hc31⟩:=g1_0.el qB.z x5 c28.1 c28.2
  refine mny 6 hst hE (.r 3 3<|.x 6 c17<|.r 7 1<|.c 8 (hS.fc hc21 0)<|.r 10 2<|.x 12 c28<|.r 13 1<|.c 14 (hS.fc hc31 1)<|.r 16 3<|.x 19 c28<|.r 20 1<|.c 21 (hS.fc hc31 0)<|.r 23 2<|.x 25 c17<|.r 26 1<|.c 27 (hS.fc hc21 1)<|.nil) (fun a hE=>?_)
  obtain ⟨t39,h40,H⟩:=bd H
  refine on1 9 hE (.cl en230 (qAp.calls k9 x0_ ((nth qB.z x1_ x6).f0) _ _ _ hS.own.sub h40)) ?_
  rintro _ u38 a ⟨_,rfl,hC⟩ hE
  refine ⟨.of hC.agr,?_⟩
  replace hS:=hS.lent hC
  refine mny 4 hst hE (.r 15 1 .nil) (fun a hE=>?_)
  obtain ⟨t42,h43,H⟩:=bd H
  refine on1 22 hE (.cl en230 (qAp.calls k9 x0_ ((nth qB.z x1_ x5).f0) _ _ _ hS.own.sub h43)) ?_
  rintro _ u41 a ⟨_,rfl,hC⟩ hE
  refine ⟨.of hC.agr,?_⟩
  replace hS:=hS.lent hC
  refine mny 0 hst hE (.r 28 3 .nil) (fun a hE=>?_)
  refine dn ?_
  exact J48 _ (by omega) _ (decide ((w64 (t39 * (nth qB.z x1_ x5).f1))<(w64 (t42 * (nth qB.z x1_ x6).f1)))) _ _ hE .of hS H
 refine wp_exit ?_
 refine hK3 _ _ (sq fun K51 hK51=>rr hE fun a hE=>?_)
 refine hE.ik 53 H (fun c53 hE H=>?_) fun c53 hE H=>?_
 ·
  refine rr hE fun a hE=>(wp_ret (qCD ?_))
  obtain rfl:=si H
  exact rtN hE ⟨_,rfl,_,rfl,hS⟩
 refine wp_skip (hK51 _ _ (sq fun K55 hK55=>pl0 ?_))
 obtain ⟨c56,H⟩:=gd H
 have hE_:=hE
 obtain ⟨ad57,rfl⟩:=g1_0.addr c56.1 c56.2
 replace hE:=hE_
 obtain ⟨cs59,rfl,hc60⟩:=g1_0.el qB.z x5 c56.1 c56.2
 refine plc hE (.r 0 2<|.x 2 c56<|.r 3 1<|.c 4 (hS.fc hc60 0)<|.r 5 2<|.nil) (fun a hE=>pld (hK55 _ _ (wp_ret ?_)))
 obtain rfl:=si H
 exact rtN hE ⟨_,rfl,_,rfl,hS⟩
def qAH.l14:Nat→List qB→Int→List qB→Int→Option (List qB)
 | 0,_,_,_,_=>none
 | k+1,x0_,x1_,l12,x13=>if x13<(x0_.length:Int) then (if 0≤x13∧x13<(x0_.length:Int) then (if (nth qB.z x0_ x13).f0=x1_ then (qAH.l14 k x0_ x1_ l12 (w64 (x13+1))) else (if ((l12.length:Int)+((1:Nat):Int)) * 16≤140737488355328 then (qAH.l14 k x0_ x1_ (l12++[(⟨(nth qB.z x0_ x13).f0,(nth qB.z x0_ x13).f1⟩:qB)]) (w64 (x13+1))) else (none))) else (none)) else (some l12)
theorem qAH.l14_s k x0_ x1_ l12 x13:type_of% (qAH.l14.eq_2 x0_ x1_ l12 x13 k):=qAH.l14.eq_2 x0_ x1_ l12 x13 k
def qAH.f(k:Nat)(x0_:List qB)(x1_:Int):Option (List qB):=qAH.l14 k x0_ x1_ ([]:List qB) 0
def qAH.Post(W F:World)(r:List qB)(v:Value)(w':World):Prop:=∃(F':World)(RA0_0:Option Addr)(rc0_0:Nat),v = .slice RA0_0 r.length rc0_0∧St W (mine W []) F w' F' [row qB.k 216 (.slice RA0_0 r.length rc0_0) r]
theorem qAH.calls(k:Nat)(x0_:List qB)(x1_:Int)(A0_0:Option Addr)(c0_0:Nat)(r:List qB)(W F:World)(hown:Sub F W)(g0_0:Rd qB.k F A0_0 c0_0 x0_)(H:qAH.f k x0_ x1_=some r):
    Calls Tryz.prog 208 #[.slice A0_0 x0_.length c0_0,iv x1_] W fun e w'=>∃ v,e = .returned v∧qAH.Post W F r v w':=by
 have hS:=St.start (Own.nil hown)
 unfold qAH.f at H
 refine enter (n:=29) rfl rfl rfl (Nat.le_of_ble_eq_true rfl) (fun a hE=>?_)
 refine rr hE fun a hE=>(sq fun K2 hK2=>pl0 (ple hE (.lit (d:=qB.k) (e:=216) hS ([]:List qB) (.nil)) ?_))
 rintro _ u3 a ⟨A4,c5,rfl,hS,hg⟩ hE
 refine plc hE (.r 1 1 .nil) (fun a hE=>pld (hK2 _ _ (sq fun K7 hK7=>rr hE fun a hE=>(wp_block ?_))))
 refine wp_loop_ghost (fun kq15 a w'=>∃(G:Nat→Value)(A10:Option Addr)(c11:Nat)(l12:List qB)(x13:Int),kq15≤k∧Env 29 G a∧At G [(0,.slice A0_0 x0_.length c0_0),(1,iv x1_),(5,.slice A10 l12.length c11),(6,iv x13)]∧St W (mine W []) F w' F [row qB.k 216 (.slice A10 l12.length c11) l12]∧qAH.l14 kq15 x0_ x1_ l12 x13=some r) k ⟨_,A4,c5,([]:List qB),0,Nat.le_refl _,hE,.of,hS,H⟩ ?_
 rintro kq15 a u17 ⟨G,A10,c11,l12,x13,hkq,hE,hA,hS,H⟩
 obtain _ | k16:=kq15
 ·
  exact zz H
 rw [qAH.l14_s]at H
 obtain ⟨J,hE⟩:=hE.at hA
 refine sq fun K18 hK18=>rr hE fun a hE=>?_
 refine hE.ik 11 H (fun c20 hE H=>?_) fun c20 hE H=>?_
 ·
  refine wp_skip (hK18 _ _ (sq fun K21 hK21=>wp_block (sq fun K22 hK22=>pl0 ?_)))
  obtain ⟨c23,H⟩:=gd H
  have hE_:=hE
  obtain ⟨ad24,rfl⟩:=g0_0.addr c23.1 c23.2
  replace hE:=hE_
  obtain ⟨cs26,rfl,hc27⟩:=g0_0.el qB.z x13 c23.1 c23.2
  refine plc hE (.r 0 2<|.x 2 c23<|.r 3 1<|.c 4 (hS.fc hc27 0)<|.r 5 2<|.nil) (fun a hE=>pld (hK22 _ _ ?_))
  refine hE.ikn 20 H (fun c28 hE H=>?_) fun c28 hE H=>?_
  ·
   refine wp_skip ?_
   refine qCF ?_
   refine hK21 _ _ (pl0 (plc hE (.r 0 3 .nil) (fun a hE=>pld ?_)))
   exact qCG ⟨k16,by omega,_,A10,c11,l12,(w64 (x13+1)),by omega,hE,.of,hS,H⟩
  refine pl0 (plc hE (.r 0 3<|.x 3 c23<|.cs 4 (hS.fcs hc27)<|.nil) (fun a hE=>ple hE (.lit (d:=qB.k) (e:=216) hS [(⟨(nth qB.z x0_ x13).f0,(nth qB.z x0_ x13).f1⟩:qB)] (.cons rfl .nil)) ?_))
  rintro _ u32 a ⟨A33,c34,rfl,hS,hg⟩ hE
  obtain ⟨c36,H⟩:=gd H
  replace hS:=hS.front 1 rfl
  refine ple hE (.ap (d:=qB.k) 16 hS (qCO (hS.row_at (i:=1) rfl)) c36 c34) ?_
  rintro _ u39 a ⟨A37,c38,rfl,hS,hz⟩ hE
  refine plc hE (.r 7 1 .nil) (fun a hE=>pld ?_)
  refine qCF ?_
  refine hK21 _ _ (pl0 (plc hE (.r 0 3 .nil) (fun a hE=>pld ?_)))
  replace hS:=hS.pm [0] 2
  exact qCG ⟨k16,by omega,_,A37,c38,(l12++[(⟨(nth qB.z x0_ x13).f0,(nth qB.z x0_ x13).f1⟩:qB)]),(w64 (x13+1)),by omega,hE,.of,hS,H⟩
 refine wp_exit ?_
 refine hK7 _ _ (rr hE fun a hE=>(wp_ret ?_))
 obtain rfl:=si H
 exact rt1 hE ⟨_,rfl,_,_,_,rfl,hS⟩
def qAT.l20:Nat→Int→List qB→List qB→List Int→Int→Option (List Int)
 | 0,_,_,_,_,_=>none
 | k+1,x0_,x1_,l13,l17,x18=>if x18<(x1_.length:Int) then ((qr.f k x0_ l13).bind fun t30=>(if t30.2=true then (if ((l17.length:Int)+((1:Nat):Int)) * 8≤140737488355328 then ((qAH.f k l13 t30.1).bind fun t46=>(qAT.l20 k x0_ x1_ t46 (l17++[t30.1]) (w64 (x18+1)))) else (none)) else (some l17))) else (some l17)
theorem qAT.l20_s k x0_ x1_ l13 l17 x18:type_of% (qAT.l20.eq_2 x0_ x1_ l13 l17 x18 k):=qAT.l20.eq_2 x0_ x1_ l13 l17 x18 k
def qAT.f(k:Nat)(x0_:Int)(x1_:List qB):Option (List Int):=qAT.l20 k x0_ x1_ x1_ ([]:List Int) 0
def qAT.Post(W F:World)(r:List Int)(v:Value)(w':World):Prop:=∃(F':World)(RA0_0:Option Addr)(rc0_0:Nat),v = .slice RA0_0 r.length rc0_0∧St W (mine W []) F w' F' [row ki 3 (.slice RA0_0 r.length rc0_0) r]
theorem qAT.calls(k:Nat)(x0_:Int)(x1_:List qB)(A1_0:Option Addr)(c1_0:Nat)(r:List Int)(W F:World)(hown:Sub F W)(g1_0:Rd qB.k F A1_0 c1_0 x1_)(H:qAT.f k x0_ x1_=some r):
    Calls Tryz.prog 171 #[.int .u64 x0_,.slice A1_0 x1_.length c1_0] W fun e w'=>∃ v,e = .returned v∧qAT.Post W F r v w':=by
 have hS:=St.start (Own.nil hown)
 unfold qAT.f at H
 refine enter (n:=35) rfl rfl rfl (Nat.le_of_ble_eq_true rfl) (fun a hE=>?_)
 refine rr hE fun a hE=>(sq fun K2 hK2=>pl0 (ple hE (.lit (d:=ki) (e:=3) hS ([]:List Int) (.nil)) ?_))
 rintro _ u3 a ⟨A4,c5,rfl,hS,hg⟩ hE
 refine plc hE (.r 1 1 .nil) (fun a hE=>pld (hK2 _ _ (rr hE fun a hE=>(sq fun K8 hK8=>rr hE fun a hE=>(wp_block ?_)))))
 refine wp_loop_ghost (fun kq21 a w'=>∃(G:Nat→Value)(A11:Option Addr)(c12:Nat)(l13:List qB)(A15:Option Addr)(c16:Nat)(l17:List Int)(x18:Int)(F19:World),kq21≤k∧Env 35 G a∧At G [(0,.int .u64 x0_),(1,.slice A11 l13.length c12),(5,.slice A15 l17.length c16),(6,iv (x1_.length:Int)),(7,iv x18)]∧St W (mine W []) F w' F19 [row ki 3 (.slice A15 l17.length c16) l17]∧Rd qB.k F19 A11 c12 l13∧qAT.l20 kq21 x0_ x1_ l13 l17 x18=some r) k ⟨_,A1_0,c1_0,x1_,A4,c5,([]:List Int),0,F,Nat.le_refl _,hE,.of,hS,g1_0,H⟩ ?_
 rintro kq21 a u23 ⟨G,A11,c12,l13,A15,c16,l17,x18,F19,hkq,hE,hA,hS,g14,H⟩
 obtain _ | k22:=kq21
 ·
  exact zz H
 rw [qAT.l20_s]at H
 obtain ⟨J,hE⟩:=hE.at hA
 refine sq fun K24 hK24=>rr hE fun a hE=>?_
 refine hE.ik 15 H (fun c26 hE H=>?_) fun c26 hE H=>?_
 ·
  refine wp_skip (hK24 _ _ (sq fun K27 hK27=>wp_block (sq fun K28 hK28=>pl0 (plc hE (.r 0 2 .nil) (fun a hE=>?_)))))
  obtain ⟨t30,h31,H⟩:=bd H
  refine ple hE (.cl en207 (qr.calls k22 x0_ l13 _ _ _ _ _ hS.own.sub g14 h31)) ?_
  rintro _ u29 a ⟨_,rfl,hC⟩ hE
  replace hS:=hS.lent hC
  refine plc hE (.r 3 5 .nil) (fun a hE=>pld (hK28 _ _ (sq fun K32 hK32=>rr hE fun a hE=>?_)))
  refine hE.ibn 25 H (fun c34 hE H=>?_) fun c34 hE H=>?_
  ·
   refine wp_skip (hK32 _ _ (sq fun K36 hK36=>pl0 (plc hE (.r 0 2 .nil) (fun a hE=>ple hE (.lit (d:=ki) (e:=3) hS [t30.1] (.cons rfl .nil)) ?_))))
   rintro _ u37 a ⟨A38,c39,rfl,hS,hg⟩ hE
   obtain ⟨c41,H⟩:=gd H
   replace hS:=hS.front 1 rfl
   refine ple hE (.ap (d:=ki) 8 hS (qCO (hS.row_at (i:=1) rfl)) c41 c39) ?_
   rintro _ u44 a ⟨A42,c43,rfl,hS,hz⟩ hE
   refine plc hE (.r 4 1 .nil) (fun a hE=>pld (hK36 _ _ (pl0 (plc hE (.r 0 2 .nil) (fun a hE=>?_)))))
   obtain ⟨t46,h47,H⟩:=bd H
   refine ple hE (.cl en208 (qAH.calls k22 l13 t30.1 _ _ _ _ _ hS.own.sub g14 h47)) ?_
   rintro _ u45 a ⟨F48,A49,c50,rfl,hC⟩ hE
   have hs:=hC.sub
   replace hS:=hS.called (X:=[]) hC
   replace g14:=g14.mono hs
   refine plc hE (.r 3 1 .nil) (fun a hE=>pld ?_)
   refine qCF ?_
   refine hK27 _ _ (pl0 (plc hE (.r 0 3 .nil) (fun a hE=>pld ?_)))
   obtain ⟨F53,hs,g54,hS⟩:=hS.give
   replace g14:=g14.mono hs
   replace hS:=hS.pm [0] 2
   exact qCG ⟨k22,by omega,_,A49,c50,t46,A42,c43,(l17++[t30.1]),(w64 (x18+1)),F53,by omega,hE,.of,hS,g54,H⟩
  refine rr hE fun a hE=>(wp_ret (qCD (qCE (qCD (qCD (qCE (qCD ?_)))))))
  obtain rfl:=si H
  exact rt1 hE ⟨_,rfl,_,_,_,rfl,hS⟩
 refine wp_exit ?_
 refine hK8 _ _ (rr hE fun a hE=>(wp_ret ?_))
 obtain rfl:=si H
 exact rt1 hE ⟨_,rfl,_,_,_,rfl,hS⟩
mutual
def qG.l24:Nat→List qA→List qK→Int→Int→List Ar3_i64→List Int→Int→Option (List Int)
 | 0,_,_,_,_,_,_,_=>none
 | k+1,x0_,x1_,x2_,x3_,l18,l21,x22=>if x22<(x1_.length:Int) then (if 0≤x22∧x22<(x1_.length:Int) then (if (nth qK.z x1_ x22).f0=1 then (if ((([]:List Ar3_i64).length:Int)+((1:Nat):Int)) * 24≤140737488355328 then (qG.j61 k x0_ x1_ x2_ x3_ l18 l21 x22 (([]:List Ar3_i64)++[(⟨0,0,0⟩:Ar3_i64)])) else (none)) else (qG.j61 k x0_ x1_ x2_ x3_ l18 l21 x22 ([]:List Ar3_i64))) else (none)) else (some l21)
def qG.j61:Nat→List qA→List qK→Int→Int→List Ar3_i64→List Int→Int→List Ar3_i64→Option (List Int)
 | 0,_,_,_,_,_,_,_,_=>none
 | k+1,x0_,x1_,x2_,x3_,l18,l21,x22,l60=>qG.l78 k x0_ x1_ x2_ x3_ l18 x22 l21 l60 0
def qG.l78:Nat→List qA→List qK→Int→Int→List Ar3_i64→Int→List Int→List Ar3_i64→Int→Option (List Int)
 | 0,_,_,_,_,_,_,_,_,_=>none
 | k+1,x0_,x1_,x2_,x3_,l18,x22,l72,l75,x76=>if x76<(l18.length:Int) then (if 0≤x76∧x76<(l18.length:Int) then (if (nth qK.z x1_ x22).f0=3 then (qG.l104 k x0_ x1_ x2_ x3_ l18 x22 l72 l75 x76 false 0) else ((ql.f k x0_ ((nth Ar3_i64.z l18 x76).f0) ((nth Ar3_i64.z l18 x76).f1)).bind fun t139=>(if (nth qK.z x1_ x22).f1=1 then ((qAQ.f k x0_).bind fun t150=>(qG.j162 k x0_ x1_ x2_ x3_ l18 x22 l72 l75 x76 t150)) else (qG.j162 k x0_ x1_ x2_ x3_ l18 x22 l72 l75 x76 t139)))) else (none)) else (qG.l24 k x0_ x1_ x2_ x3_ l75 l72 (w64 (x22+1)))
def qG.l104:Nat→List qA→List qK→Int→Int→List Ar3_i64→Int→List Int→List Ar3_i64→Int→Bool→Int→Option (List Int)
 | 0,_,_,_,_,_,_,_,_,_,_,_=>none
 | k+1,x0_,x1_,x2_,x3_,l18,x22,l72,l75,x76,y102,x103=>if x103<(l72.length:Int) then (if y102=true then (qG.l104 k x0_ x1_ x2_ x3_ l18 x22 l72 l75 x76 true (w64 (x103+1))) else (if 0≤x103∧x103<(l72.length:Int) then (qG.l104 k x0_ x1_ x2_ x3_ l18 x22 l72 l75 x76 ((nth 0 l72 x103) == (nth Ar3_i64.z l18 x76).f2) (w64 (x103+1))) else (none))) else (if y102=true then (qG.j123 k x0_ x1_ x2_ x3_ l18 x22 l72 l75 x76 false) else (qG.j123 k x0_ x1_ x2_ x3_ l18 x22 l72 l75 x76 (decide ((l72.length:Int)<x3_))))
def qG.j123:Nat→List qA→List qK→Int→Int→List Ar3_i64→Int→List Int→List Ar3_i64→Int→Bool→Option (List Int)
 | 0,_,_,_,_,_,_,_,_,_,_=>none
 | k+1,x0_,x1_,x2_,x3_,l18,x22,l72,l75,x76,y122=>if y122=true then (if ((l72.length:Int)+((1:Nat):Int)) * 8≤140737488355328 then (qG.l78 k x0_ x1_ x2_ x3_ l18 x22 (l72++[(nth Ar3_i64.z l18 x76).f2]) l75 (w64 (x76+1))) else (none)) else (qG.l78 k x0_ x1_ x2_ x3_ l18 x22 l72 l75 (w64 (x76+1)))
def qG.j162:Nat→List qA→List qK→Int→Int→List Ar3_i64→Int→List Int→List Ar3_i64→Int→List qB→Option (List Int)
 | 0,_,_,_,_,_,_,_,_,_,_=>none
 | k+1,x0_,x1_,x2_,x3_,l18,x22,l72,l75,x76,l160=>if (nth qK.z x1_ x22).f1=2 then ((qAN.f k x0_ ((nth Ar3_i64.z l18 x76).f0)).bind fun t171=>(qG.j183 k x0_ x1_ x2_ x3_ l18 x22 l72 l75 x76 t171)) else (qG.j183 k x0_ x1_ x2_ x3_ l18 x22 l72 l75 x76 l160)
def qG.j183:Nat→List qA→List qK→Int→Int→List Ar3_i64→Int→List Int→List Ar3_i64→Int→List qB→Option (List Int)
 | 0,_,_,_,_,_,_,_,_,_,_=>none
 | k+1,x0_,x1_,x2_,x3_,l18,x22,l72,l75,x76,l181=>(qAL.f k (IntKind.u64.wrap x2_) [(IntKind.u64.wrap (nth qK.z x1_ x22).f1),(IntKind.u64.wrap (nth Ar3_i64.z l18 x76).f0),(IntKind.u64.wrap (nth Ar3_i64.z l18 x76).f1)]).bind fun t194=>((qAT.f k t194 l181).bind fun t199=>(qG.l212 k x0_ x1_ x2_ x3_ l18 x22 l72 x76 t199 l75 0))
def qG.l212:Nat→List qA→List qK→Int→Int→List Ar3_i64→Int→List Int→Int→List Int→List Ar3_i64→Int→Option (List Int)
 | 0,_,_,_,_,_,_,_,_,_,_,_=>none
 | k+1,x0_,x1_,x2_,x3_,l18,x22,l72,x76,t199,l210,x211=>if x211<(t199.length:Int) then (qG.j220 k x0_ x1_ x2_ x3_ l18 x22 l72 x76 t199 l210 x211 (decide (x211<(nth qK.z x1_ x22).f2))) else (qG.j220 k x0_ x1_ x2_ x3_ l18 x22 l72 x76 t199 l210 x211 false)
def qG.j220:Nat→List qA→List qK→Int→Int→List Ar3_i64→Int→List Int→Int→List Int→List Ar3_i64→Int→Bool→Option (List Int)
 | 0,_,_,_,_,_,_,_,_,_,_,_,_=>none
 | k+1,x0_,x1_,x2_,x3_,l18,x22,l72,x76,t199,l210,x211,y219=>if y219=true then (if 0≤x211∧x211<(t199.length:Int) then (if (w64 ((nth qK.z x1_ x22).f1 - 1))=0 then (qG.j247 k x0_ x1_ x2_ x3_ l18 x22 l72 x76 t199 l210 x211 (nth 0 t199 x211) ((nth Ar3_i64.z l18 x76).f1) ((nth Ar3_i64.z l18 x76).f2)) else (if (w64 ((nth qK.z x1_ x22).f1 - 1))=1 then (qG.j247 k x0_ x1_ x2_ x3_ l18 x22 l72 x76 t199 l210 x211 ((nth Ar3_i64.z l18 x76).f0) (nth 0 t199 x211) ((nth Ar3_i64.z l18 x76).f2)) else (if (w64 ((nth qK.z x1_ x22).f1 - 1))=2 then (qG.j247 k x0_ x1_ x2_ x3_ l18 x22 l72 x76 t199 l210 x211 ((nth Ar3_i64.z l18 x76).f0) ((nth Ar3_i64.z l18 x76).f1) (nth 0 t199 x211)) else (none)))) else (none)) else (qG.l78 k x0_ x1_ x2_ x3_ l18 x22 l72 l210 (w64 (x76+1)))
def qG.j247:Nat→List qA→List qK→Int→Int→List Ar3_i64→Int→List Int→Int→List Int→List Ar3_i64→Int→Int→Int→Int→Option (List Int)
 | 0,_,_,_,_,_,_,_,_,_,_,_,_,_,_=>none
 | k+1,x0_,x1_,x2_,x3_,l18,x22,l72,x76,t199,l210,x211,x244,x245,x246=>if ((l210.length:Int)+((1:Nat):Int)) * 24≤140737488355328 then (qG.l212 k x0_ x1_ x2_ x3_ l18 x22 l72 x76 t199 (l210++[(⟨x244,x245,x246⟩:Ar3_i64)]) (w64 (x211+1))) else (none)
end
theorem qG.l24_s k x0_ x1_ x2_ x3_ l18 l21 x22:type_of% (qG.l24.eq_2 x0_ x1_ x2_ x3_ l18 l21 x22 k):=qG.l24.eq_2 x0_ x1_ x2_ x3_ l18 l21 x22 k
theorem qG.j61_s k x0_ x1_ x2_ x3_ l18 l21 x22 l60:type_of% (qG.j61.eq_2 x0_ x1_ x2_ x3_ l18 l21 x22 l60 k):=qG.j61.eq_2 x0_ x1_ x2_ x3_ l18 l21 x22 l60 k
theorem qG.l78_s k x0_ x1_ x2_ x3_ l18 x22 l72 l75 x76:type_of% (qG.l78.eq_2 x0_ x1_ x2_ x3_ l18 x22 l72 l75 x76 k):=qG.l78.eq_2 x0_ x1_ x2_ x3_ l18 x22 l72 l75 x76 k
theorem qG.l104_s k x0_ x1_ x2_ x3_ l18 x22 l72 l75 x76 y102 x103:type_of% (qG.l104.eq_2 x0_ x1_ x2_ x3_ l18 x22 l72 l75 x76 y102 x103 k):=qG.l104.eq_2 x0_ x1_ x2_ x3_ l18 x22 l72 l75 x76 y102 x103 k
theorem qG.j123_s k x0_ x1_ x2_ x3_ l18 x22 l72 l75 x76 y122:type_of% (qG.j123.eq_2 x0_ x1_ x2_ x3_ l18 x22 l72 l75 x76 y122 k):=qG.j123.eq_2 x0_ x1_ x2_ x3_ l18 x22 l72 l75 x76 y122 k
theorem qG.j162_s k x0_ x1_ x2_ x3_ l18 x22 l72 l75 x76 l160:type_of% (qG.j162.eq_2 x0_ x1_ x2_ x3_ l18 x22 l72 l75 x76 l160 k):=qG.j162.eq_2 x0_ x1_ x2_ x3_ l18 x22 l72 l75 x76 l160 k
theorem qG.j183_s k x0_ x1_ x2_ x3_ l18 x22 l72 l75 x76 l181:type_of% (qG.j183.eq_2 x0_ x1_ x2_ x3_ l18 x22 l72 l75 x76 l181 k):=qG.j183.eq_2 x0_ x1_ x2_ x3_ l18 x22 l72 l75 x76 l181 k
theorem qG.l212_s k x0_ x1_ x2_ x3_ l18 x22 l72 x76 t199 l210 x211:type_of% (qG.l212.eq_2 x0_ x1_ x2_ x3_ l18 x22 l72 x76 t199 l210 x211 k):=qG.l212.eq_2 x0_ x1_ x2_ x3_ l18 x22 l72 x76 t199 l210 x211 k
theorem qG.j220_s k x0_ x1_ x2_ x3_ l18 x22 l72 x76 t199 l210 x211 y219:type_of% (qG.j220.eq_2 x0_ x1_ x2_ x3_ l18 x22 l72 x76 t199 l210 x211 y219 k):=qG.j220.eq_2 x0_ x1_ x2_ x3_ l18 x22 l72 x76 t199 l210 x211 y219 k
theorem qG.j247_s(k:Nat)(x0_:List qA)(x1_:List qK)(x2_:Int)(x3_:Int)(l18:List Ar3_i64)(x22:Int)(l72:List Int)(x76:Int)(t199:List Int)(l210:List Ar3_i64)(x211:Int)(x244:Int)(x245:Int)(x246:Int):qG.j247 (k+1) x0_ x1_ x2_ x3_ l18 x22 l72 x76 t199 l210 x211 x244 x245 x246=(if ((l210.length:Int)+((1:Nat):Int)) * 24≤140737488355328 then (qG.l212 k x0_ x1_ x2_ x3_ l18 x22 l72 x76 t199 (l210++[(⟨x244,x245,x246⟩:Ar3_i64)]) (w64 (x211+1))) else (none)):=by kernel_rfl
def qG.f(k:Nat)(x0_:List qA)(x1_:List qK)(x2_:Int)(x3_:Int):Option (List Int):=qG.l24 k x0_ x1_ x2_ x3_ ([]:List Ar3_i64) ([]:List Int) 0
def qG.Post(W F:World)(r:List Int)(v:Value)(w':World):Prop:=∃(F':World)(RA0_0:Option Addr)(rc0_0:Nat),v = .slice RA0_0 r.length rc0_0∧St W (mine W []) F w' F' [row ki 3 (.slice RA0_0 r.length rc0_0) r]
theorem qG.calls(k:Nat)(x0_:List qA)(x1_:List qK)(x2_:Int)(x3_:Int)(A0_0:Option Addr)(c0_0:Nat)(A1_0:Option Addr)(c1_0:Nat)(r:List Int)(W F:World)(hown:Sub F W)(g0_0:Rd qA.k F A0_0 c0_0 x0_)(g1_0:Rd qK.k F A1_0 c1_0 x1_)(H:qG.f k x0_ x1_ x2_ x3_=some r):
    Calls Tryz.prog 123 #[.slice A0_0 x0_.length c0_0,.slice A1_0 x1_.length c1_0,iv x2_,iv x3_] W fun e w'=>∃ v,e = .returned v∧qG.Post W F r v w':=by
 have hS:=St.start (Own.nil hown)
 unfold qG.f at H
 refine enter (n:=144) rfl rfl rfl (Nat.le_of_ble_eq_true rfl) (fun a hE=>?_)
 refine rr hE fun a hE=>(sq fun K2 hK2=>pl0 (ple hE (.lit (d:=Ar3_i64.k) (e:=176) hS ([]:List Ar3_i64) (.nil)) ?_))
 rintro _ u3 a ⟨A4,c5,rfl,hS,hg⟩ hE
 refine plc hE (.r 1 1 .nil) (fun a hE=>pld (hK2 _ _ (sq fun K7 hK7=>pl0 (ple hE (.lit (d:=ki) (e:=3) hS ([]:List Int) (.nil)) ?_))))
 rintro _ u8 a ⟨A9,c10,rfl,hS,hg⟩ hE
 refine plc hE (.r 1 1 .nil) (fun a hE=>pld (hK7 _ _ (sq fun K12 hK12=>rr hE fun a hE=>(wp_block ?_))))
 replace hS:=hS.front 1 rfl
 refine wp_loop_ghost (fun kq25 a w'=>∃(G:Nat→Value)(A16:Option Addr)(c17:Nat)(l18:List Ar3_i64)(A19:Option Addr)(c20:Nat)(l21:List Int)(x22:Int)(F23:World),kq25≤k∧Env 144 G a∧At G [(0,.slice A0_0 x0_.length c0_0),(1,.slice A1_0 x1_.length c1_0),(2,iv x2_),(3,iv x3_),(9,.slice A16 l18.length c17),(10,.slice A19 l21.length c20),(11,iv x22)]∧St W (mine W []) F w' F23 [row Ar3_i64.k 176 (.slice A16 l18.length c17) l18,row ki 3 (.slice A19 l21.length c20) l21]∧Rd qA.k F23 A0_0 c0_0 x0_∧Rd qK.k F23 A1_0 c1_0 x1_∧qG.l24 kq25 x0_ x1_ x2_ x3_ l18 l21 x22=some r) k ⟨_,A4,c5,([]:List Ar3_i64),A9,c10,([]:List Int),0,F,Nat.le_refl _,hE,.of,hS,g0_0,g1_0,H⟩ ?_
 rintro kq25 a u27 ⟨G,A16,c17,l18,A19,c20,l21,x22,F23,hkq,hE,hA,hS,g0_0,g1_0,H⟩
 obtain _ | k26:=kq25
 ·
  exact zz H
 rw [qG.l24_s]at H
 obtain ⟨J,hE⟩:=hE.at hA
 refine sq fun K28 hK28=>rr hE fun a hE=>?_
 refine hE.ik 27 H (fun c30 hE H=>?_) fun c30 hE H=>?_
 ·
  refine wp_skip (hK28 _ _ (sq fun K31 hK31=>wp_block (sq fun K32 hK32=>pl0 ?_)))
  obtain ⟨c33,H⟩:=gd H
  have hE_:=hE
  obtain ⟨ad34,rfl⟩:=g1_0.addr c33.1 c33.2
  replace hE:=hE_
  obtain ⟨cs36,rfl,hc37⟩:=g1_0.el qK.z x22 c33.1 c33.2
  refine plc hE (.r 0 2<|.x 2 c33<|.cs 3 (hS.fcs hc37)<|.nil) (fun a hE=>ple hE (.al (t:=175) hS [iv 0,iv 0,iv 0]) ?_)
  rintro _ u39 a ⟨b38,rfl,hb38,hS,hg⟩ hE
  refine ple hE (.sto hS [iv ((nth qK.z x1_ x22).f0),iv ((nth qK.z x1_ x22).f1),iv ((nth qK.z x1_ x22).f2)]) ?_
  rintro _ u40 a ⟨rfl,hb38,hS,hz⟩ hE
  refine pld (hK32 _ _ (sq fun K41 hK41=>pl0 (ple hE (.lit (d:=Ar3_i64.k) (e:=176) hS ([]:List Ar3_i64) (.nil)) ?_)))
  rintro _ u42 a ⟨A43,c44,rfl,hS,hg⟩ hE
  refine plc hE (.r 1 1 .nil) (fun a hE=>pld (hK41 _ _ (sq fun K46 hK46=>?_)))
  have J64:∀ kq62,kq62≤k26→∀(G:Nat→Value)(A58:Option Addr)(c59:Nat)(l60:List Ar3_i64)(a:Act)(w':World),Env 144 G a→At G [(0,.slice A0_0 x0_.length c0_0),(1,.slice (some ad34) x1_.length c1_0),(2,iv x2_),(3,iv x3_),(9,.slice A16 l18.length c17),(10,.slice A19 l21.length c20),(11,iv x22),(12,.pointer (pb b38)),(13,.slice A58 l60.length c59)]→St W (mine W []) F w' F23 [box b38 #[iv ((nth qK.z x1_ x22).f0),iv ((nth qK.z x1_ x22).f1),iv ((nth qK.z x1_ x22).f2)] 175,row Ar3_i64.k 176 (.slice A16 l18.length c17) l18,row ki 3 (.slice A19 l21.length c20) l21,row Ar3_i64.k 176 (.slice A58 l60.length c59) l60]→qG.j61 kq62 x0_ x1_ x2_ x3_ l18 l21 x22 l60=some r→K46 a w':=by
   intro kq62 hkq G A58 c59 l60 a u65 hE hA hS H
   obtain _ | k63:=kq62
   ·
    exact zz H
   rw [qG.j61_s]at H
   obtain ⟨J,hE⟩:=hE.at hA
   refine hK46 _ _ (sq fun K66 hK66=>rr hE fun a hE=>(wp_block ?_))
   refine wp_loop_ghost (fun kq79 a w'=>∃(G:Nat→Value)(A70:Option Addr)(c71:Nat)(l72:List Int)(A73:Option Addr)(c74:Nat)(l75:List Ar3_i64)(x76:Int)(F77:World),kq79≤k63∧Env 144 G a∧At G [(0,.slice A0_0 x0_.length c0_0),(1,.slice (some ad34) x1_.length c1_0),(2,iv x2_),(3,iv x3_),(9,.slice A16 l18.length c17),(10,.slice A70 l72.length c71),(11,iv x22),(12,.pointer (pb b38)),(13,.slice A73 l75.length c74),(14,iv x76)]∧St W (mine W []) F w' F77 [box b38 #[iv ((nth qK.z x1_ x22).f0),iv ((nth qK.z x1_ x22).f1),iv ((nth qK.z x1_ x22).f2)] 175,row Ar3_i64.k 176 (.slice A16 l18.length c17) l18,row ki 3 (.slice A70 l72.length c71) l72,row Ar3_i64.k 176 (.slice A73 l75.length c74) l75]∧Rd qA.k F77 A0_0 c0_0 x0_∧Rd qK.k F77 (some ad34) c1_0 x1_∧qG.l78 kq79 x0_ x1_ x2_ x3_ l18 x22 l72 l75 x76=some r) k63 ⟨_,A19,c20,l21,A58,c59,l60,0,F23,Nat.le_refl _,hE,.of,hS,g0_0,g1_0,H⟩ ?_
   rintro kq79 a u81 ⟨G,A70,c71,l72,A73,c74,l75,x76,F77,hkq,hE,hA,hS,g0_0,g1_0,H⟩
   obtain _ | k80:=kq79
   ·
    exact zz H
   rw [qG.l78_s]at H
   obtain ⟨J,hE⟩:=hE.at hA
   refine sq fun K82 hK82=>rr hE fun a hE=>?_
   refine hE.ik 45 H (fun c84 hE H=>?_) fun c84 hE H=>?_
   ·
    refine wp_skip (hK82 _ _ (sq fun K85 hK85=>wp_block (sq fun K86 hK86=>pl0 ?_)))
    obtain ⟨c87,H⟩:=gd H
    have hr88:=hS.ra 1
    have hE_:=hE
    obtain ⟨b89,rfl⟩:=qCK hr88 c87.1 c87.2
    replace hE:=hE_
    have hr_:=hS.ra 1
    obtain ⟨cs91,rfl,hc92⟩:=qCI hr_ Ar3_i64.z x76 c87.1 c87.2
    refine plc hE (.r 0 2<|.x 2 c87<|.cs 3 hc92<|.nil) (fun a hE=>ple hE (.al (t:=176) hS [iv 0,iv 0,iv 0]) ?_)
    rintro _ u94 a ⟨b93,rfl,hb93,hS,hg⟩ hE
    refine ple hE (.sto hS [iv ((nth Ar3_i64.z l18 x76).f0),iv ((nth Ar3_i64.z l18 x76).f1),iv ((nth Ar3_i64.z l18 x76).f2)]) ?_
    rintro _ u95 a ⟨rfl,hb93,hS,hz⟩ hE
    refine pld (hK86 _ _ (sq fun K96 hK96=>sq fun K97 hK97=>pl0 ?_))
    have hb38:=hS.ba 1
    refine plc hE (.r 0 1<|.b 1 0 hb38<|.r 2 1<|.nil) (fun a hE=>pld (hK97 _ _ ?_))
    refine hE.ik 54 H (fun c98 hE H=>?_) fun c98 hE H=>?_
    ·
     refine rr hE fun a hE=>(sq fun K100 hK100=>rr hE fun a hE=>(wp_block ?_))
     refine wp_loop_ghost (fun kq105 a w'=>∃(G:Nat→Value)(y102:Bool)(x103:Int),kq105≤k80∧Env 144 G a∧At G [(0,.slice A0_0 x0_.length c0_0),(1,.slice (some ad34) x1_.length c1_0),(2,iv x2_),(3,iv x3_),(9,.slice (pb b89) l18.length c17),(10,.slice A70 l72.length c71),(11,iv x22),(12,.pointer (pb b38)),(13,.slice A73 l75.length c74),(14,iv x76),(15,.pointer (pb b93)),(16,.bool y102),(17,iv x103)]∧St W (mine W []) F w' F77 [box b93 #[iv ((nth Ar3_i64.z l18 x76).f0),iv ((nth Ar3_i64.z l18 x76).f1),iv ((nth Ar3_i64.z l18 x76).f2)] 176,box b38 #[iv ((nth qK.z x1_ x22).f0),iv ((nth qK.z x1_ x22).f1),iv ((nth qK.z x1_ x22).f2)] 175,row Ar3_i64.k 176 (.slice (pb b89) l18.length c17) l18,row ki 3 (.slice A70 l72.length c71) l72,row Ar3_i64.k 176 (.slice A73 l75.length c74) l75]∧qG.l104 kq105 x0_ x1_ x2_ x3_ l18 x22 l72 l75 x76 y102 x103=some r) k80 ⟨_,false,0,Nat.le_refl _,hE,.of,hS,H⟩ ?_
     rintro kq105 a u107 ⟨G,y102,x103,hkq,hE,hA,hS,H⟩
     obtain _ | k106:=kq105
     ·
      exact zz H
     rw [qG.l104_s]at H
     obtain ⟨J,hE⟩:=hE.at hA
     refine sq fun K108 hK108=>rr hE fun a hE=>?_
     refine hE.ik 58 H (fun c110 hE H=>?_) fun c110 hE H=>?_
     ·
      refine wp_skip (hK108 _ _ (sq fun K111 hK111=>wp_block ?_))
      refine drawn 11 ⟨[],[],fun q=>False⟩ mixed rfl (by kernel_rfl) (fun hst=>?_)
      replace hS:=hS.drew
      refine mny 9 hst hE (.r 0 2 .nil) (fun a hE=>?_)
      rcases sp H with ⟨c112,H⟩ | ⟨c112,H⟩
      ·
       replace hE:=hE.bt 16 c112
       replace hE:=hE.bt 62 c112
       refine mny 0 hst hE (.r 2 9 .nil) (fun a hE=>?_)
       refine dn ?_
       refine qCF ?_
       refine hK111 _ _ (pl0 (plc hE (.r 0 3 .nil) (fun a hE=>pld ?_)))
       exact qCG ⟨k106,by omega,_,true,(w64 (x103+1)),by omega,hE,.of,hS,H⟩
      replace hE:=hE.bf 16 c112
      replace hE:=hE.bf 62 c112
      obtain ⟨c113,H⟩:=gd H
      have hr114:=hS.ra 3
      have hE_:=hE
      obtain ⟨b115,rfl⟩:=qCK hr114 c113.1 c113.2
      replace hE:=hE_
      have hr_:=hS.ra 3
      obtain ⟨cs117,rfl,hc118⟩:=qCI hr_ 0 x103 c113.1 c113.2
      have hb93:=hS.ba 0
      refine mny 0 hst hE (.r 2 2<|.x 4 c113<|.c 5 (hc118 0 _ rfl)<|.r 6 1<|.b 7 2 hb93<|.r 8 3<|.nil) (fun a hE=>?_)
      refine dn ?_
      refine qCF ?_
      refine hK111 _ _ (pl0 (plc hE (.r 0 3 .nil) (fun a hE=>pld ?_)))
      exact qCG ⟨k106,by omega,_,((nth 0 l72 x103) == (nth Ar3_i64.z l18 x76).f2),(w64 (x103+1)),by omega,hE,.of,hS,H⟩
     refine wp_exit ?_
     refine hK100 _ _ (sq fun K119 hK119=>sq fun K120 hK120=>?_)
     have J126:∀ kq124,kq124≤k106→∀(G:Nat→Value)(y122:Bool)(a:Act)(w':World),Env 144 G a→At G [(0,.slice A0_0 x0_.length c0_0),(1,.slice (some ad34) x1_.length c1_0),(2,iv x2_),(3,iv x3_),(9,.slice (pb b89) l18.length c17),(10,.slice A70 l72.length c71),(11,iv x22),(12,.pointer (pb b38)),(13,.slice A73 l75.length c74),(14,iv x76),(15,.pointer (pb b93)),(78,.bool y122)]→St W (mine W []) F w' F77 [box b93 #[iv ((nth Ar3_i64.z l18 x76).f0),iv ((nth Ar3_i64.z l18 x76).f1),iv ((nth Ar3_i64.z l18 x76).f2)] 176,box b38 #[iv ((nth qK.z x1_ x22).f0),iv ((nth qK.z x1_ x22).f1),iv ((nth qK.z x1_ x22).f2)] 175,row Ar3_i64.k 176 (.slice (pb b89) l18.length c17) l18,row ki 3 (.slice A70 l72.length c71) l72,row Ar3_i64.k 176 (.slice A73 l75.length c74) l75]→qG.j123 kq124 x0_ x1_ x2_ x3_ l18 x22 l72 l75 x76 y122=some r→K120 a w':=by
      intro kq124 hkq G y122 a u127 hE hA hS H
      obtain _ | k125:=kq124
      ·
       exact zz H
      rw [qG.j123_s]at H
      obtain ⟨J,hE⟩:=hE.at hA
      refine hK120 _ _ ?_
      refine hE.ib 78 H (fun c128 hE H=>?_) fun c128 hE H=>?_
      ·
       refine pl0 ?_
       have hb93:=hS.ba 0
       refine plc hE (.r 0 2<|.b 2 2 hb93<|.nil) (fun a hE=>ple hE (.lit (d:=ki) (e:=3) hS [(nth Ar3_i64.z l18 x76).f2] (.cons rfl .nil)) ?_)
       rintro _ u129 a ⟨A130,c131,rfl,hS,hg⟩ hE
       obtain ⟨c133,H⟩:=gd H
       replace hS:=hS.front 4 rfl
       refine ple hE (.ap (d:=ki) 8 hS (qCO (hS.row_at (i:=1) rfl)) c133 c131) ?_
       rintro _ u136 a ⟨A134,c135,rfl,hS,hz⟩ hE
       refine plc hE (.r 5 1 .nil) (fun a hE=>pld (hK119 _ _ ?_))
       refine wp_exit ?_
       refine hK85 _ _ (pl0 (plc hE (.r 0 3 .nil) (fun a hE=>pld ?_)))
       replace hS:=hS.pm [3,4,0] 5
       exact qCG ⟨k125,by omega,_,A134,c135,(l72++[(nth Ar3_i64.z l18 x76).f2]),A73,c74,l75,(w64 (x76+1)),F77,by omega,hE,.of,hS,g0_0,g1_0,H⟩
      refine wp_skip (hK119 _ _ ?_)
      refine wp_exit ?_
      refine hK85 _ _ (pl0 (plc hE (.r 0 3 .nil) (fun a hE=>pld ?_)))
      replace hS:=hS.tail
      exact qCG ⟨k125,by omega,_,A70,c71,l72,A73,c74,l75,(w64 (x76+1)),F77,by omega,hE,.of,hS,g0_0,g1_0,H⟩
     refine pl0 (plc hE (.r 0 3 .nil) (fun a hE=>?_))
     rcases sp H with ⟨c121,H⟩ | ⟨c121,H⟩
     ·
      replace hE:=hE.btn 73 c121
      refine plc hE (.r 3 5 .nil) (fun a hE=>pld ?_)
      exact J126 _ (by omega) _ false _ _ hE .of hS H
     replace hE:=hE.bfn 73 c121
     refine plc hE (.r 3 5 .nil) (fun a hE=>pld ?_)
     exact J126 _ (by omega) _ (decide ((l72.length:Int)<x3_)) _ _ hE .of hS H
    refine wp_skip (hK96 _ _ (sq fun K137 hK137=>pl0 (plc hE (.r 0 2<|.b 2 0 hb93<|.r 3 1<|.b 4 1 hb93<|.nil) (fun a hE=>?_))))
    obtain ⟨t139,h140,H⟩:=bd H
    refine ple hE (.cl en168 (ql.calls k80 x0_ ((nth Ar3_i64.z l18 x76).f0) ((nth Ar3_i64.z l18 x76).f1) _ _ _ _ _ hS.own.sub g0_0 h140)) ?_
    rintro _ u138 a ⟨F141,A142,c143,rfl,hC⟩ hE
    have hs:=hC.sub
    replace hS:=hS.called (X:=[]) hC
    replace g0_0:=g0_0.mono hs
    replace g1_0:=g1_0.mono hs
    refine plc hE (.r 6 1 .nil) (fun a hE=>pld (hK137 _ _ (sq fun K146 hK146=>?_)))
    have J165:∀ kq163,kq163≤k80→∀(G:Nat→Value)(A158:Option Addr)(c159:Nat)(l160:List qB)(F161:World)(a:Act)(w':World),Env 144 G a→At G [(0,.slice A0_0 x0_.length c0_0),(1,.slice (some ad34) x1_.length c1_0),(2,iv x2_),(3,iv x3_),(9,.slice (pb b89) l18.length c17),(10,.slice A70 l72.length c71),(11,iv x22),(12,.pointer (pb b38)),(13,.slice A73 l75.length c74),(14,iv x76),(15,.pointer (pb b93)),(18,.slice A158 l160.length c159)]→St W (mine W []) F w' F161 [box b93 #[iv ((nth Ar3_i64.z l18 x76).f0),iv ((nth Ar3_i64.z l18 x76).f1),iv ((nth Ar3_i64.z l18 x76).f2)] 176,box b38 #[iv ((nth qK.z x1_ x22).f0),iv ((nth qK.z x1_ x22).f1),iv ((nth qK.z x1_ x22).f2)] 175,row Ar3_i64.k 176 (.slice (pb b89) l18.length c17) l18,row ki 3 (.slice A70 l72.length c71) l72,row Ar3_i64.k 176 (.slice A73 l75.length c74) l75,row qB.k 216 (.slice A158 l160.length c159) l160]→Rd qA.k F161 A0_0 c0_0 x0_→Rd qK.k F161 (some ad34) c1_0 x1_→qG.j162 kq163 x0_ x1_ x2_ x3_ l18 x22 l72 l75 x76 l160=some r→K146 a w':=by
     intro kq163 hkq G A158 c159 l160 F161 a u166 hE hA hS g0_0 g1_0 H
     obtain _ | k164:=kq163
     ·
      exact zz H
     rw [qG.j162_s]at H
     obtain ⟨J,hE⟩:=hE.at hA
     refine hK146 _ _ (sq fun K167 hK167=>?_)
     have J186:∀ kq184,kq184≤k164→∀(G:Nat→Value)(A179:Option Addr)(c180:Nat)(l181:List qB)(F182:World)(a:Act)(w':World),Env 144 G a→At G [(0,.slice A0_0 x0_.length c0_0),(1,.slice (some ad34) x1_.length c1_0),(2,iv x2_),(3,iv x3_),(9,.slice (pb b89) l18.length c17),(10,.slice A70 l72.length c71),(11,iv x22),(12,.pointer (pb b38)),(13,.slice A73 l75.length c74),(14,iv x76),(15,.pointer (pb b93)),(18,.slice A179 l181.length c180)]→St W (mine W []) F w' F182 [box b93 #[iv ((nth Ar3_i64.z l18 x76).f0),iv ((nth Ar3_i64.z l18 x76).f1),iv ((nth Ar3_i64.z l18 x76).f2)] 176,box b38 #[iv ((nth qK.z x1_ x22).f0),iv ((nth qK.z x1_ x22).f1),iv ((nth qK.z x1_ x22).f2)] 175,row Ar3_i64.k 176 (.slice (pb b89) l18.length c17) l18,row ki 3 (.slice A70 l72.length c71) l72,row Ar3_i64.k 176 (.slice A73 l75.length c74) l75,row qB.k 216 (.slice A179 l181.length c180) l181]→Rd qA.k F182 A0_0 c0_0 x0_→Rd qK.k F182 (some ad34) c1_0 x1_→qG.j183 kq184 x0_ x1_ x2_ x3_ l18 x22 l72 l75 x76 l181=some r→K167 a w':=by
      intro kq184 hkq G A179 c180 l181 F182 a u187 hE hA hS g0_0 g1_0 H
      obtain _ | k185:=kq184
      ·
       exact zz H
      rw [qG.j183_s]at H
      obtain ⟨J,hE⟩:=hE.at hA
      refine hK167 _ _ (sq fun K188 hK188=>pl0 ?_)
      have hb38:=hS.ba 1
      have hb93:=hS.ba 0
      refine plc hE (.r 0 3<|.b 3 1 hb38<|.r 4 2<|.b 6 0 hb93<|.r 7 2<|.b 9 1 hb93<|.r 10 1<|.nil) (fun a hE=>ple hE (.lit (d:=(Kn.int .u64)) (e:=182) hS [(IntKind.u64.wrap (nth qK.z x1_ x22).f1),(IntKind.u64.wrap (nth Ar3_i64.z l18 x76).f0),(IntKind.u64.wrap (nth Ar3_i64.z l18 x76).f1)] (.cons rfl<|.cons rfl<|.cons rfl .nil)) ?_)
      rintro _ u189 a ⟨A190,c191,rfl,hS,hg⟩ hE
      obtain ⟨t194,h195,H⟩:=bd H
      refine ple hE (.cl en172 (qAL.calls k185 (IntKind.u64.wrap x2_) [(IntKind.u64.wrap (nth qK.z x1_ x22).f1),(IntKind.u64.wrap (nth Ar3_i64.z l18 x76).f0),(IntKind.u64.wrap (nth Ar3_i64.z l18 x76).f1)] _ _ _ _ _ (Sub.refl _) (hS.rd_at (i:=0) rfl) h195)) ?_
      rintro _ u193 a ⟨_,rfl,hC⟩ hE
      replace hS:=hS.lent hC
      refine plc hE (.r 13 1 .nil) (fun a hE=>?_)
      replace hS:=hS.front 6 rfl
      obtain ⟨F196,hs,g197,hS⟩:=hS.give
      replace g0_0:=g0_0.mono hs
      replace g1_0:=g1_0.mono hs
      obtain ⟨t199,h200,H⟩:=bd H
      refine ple hE (.cl en171 (qAT.calls k185 t194 l181 _ _ _ _ _ hS.own.sub g197 h200)) ?_
      rintro _ u198 a ⟨F201,A202,c203,rfl,hC⟩ hE
      have hs:=hC.sub
      replace hS:=hS.called (X:=[]) hC
      replace g0_0:=g0_0.mono hs
      replace g1_0:=g1_0.mono hs
      replace g197:=g197.mono hs
      refine plc hE (.r 15 1 .nil) (fun a hE=>pld (hK188 _ _ (rr hE fun a hE=>(wp_block ?_))))
      replace hS:=hS.pm [2,3,0] 4
      refine wp_loop_ghost (fun kq213 a w'=>∃(G:Nat→Value)(A208:Option Addr)(c209:Nat)(l210:List Ar3_i64)(x211:Int),kq213≤k185∧Env 144 G a∧At G [(0,.slice A0_0 x0_.length c0_0),(1,.slice (some ad34) x1_.length c1_0),(2,iv x2_),(3,iv x3_),(9,.slice (pb b89) l18.length c17),(10,.slice A70 l72.length c71),(11,iv x22),(12,.pointer (pb b38)),(13,.slice A208 l210.length c209),(14,iv x76),(15,.pointer (pb b93)),(19,.slice A202 t199.length c203),(20,iv x211)]∧St W (mine W []) F w' F201 [box b93 #[iv ((nth Ar3_i64.z l18 x76).f0),iv ((nth Ar3_i64.z l18 x76).f1),iv ((nth Ar3_i64.z l18 x76).f2)] 176,box b38 #[iv ((nth qK.z x1_ x22).f0),iv ((nth qK.z x1_ x22).f1),iv ((nth qK.z x1_ x22).f2)] 175,row ki 3 (.slice A202 t199.length c203) t199,row Ar3_i64.k 176 (.slice (pb b89) l18.length c17) l18,row ki 3 (.slice A70 l72.length c71) l72,row Ar3_i64.k 176 (.slice A208 l210.length c209) l210]∧qG.l212 kq213 x0_ x1_ x2_ x3_ l18 x22 l72 x76 t199 l210 x211=some r) k185 ⟨_,A73,c74,l75,0,Nat.le_refl _,hE,.of,hS,H⟩ ?_
      rintro kq213 a u215 ⟨G,A208,c209,l210,x211,hkq,hE,hA,hS,H⟩
      obtain _ | k214:=kq213
      ·
       exact zz H
      rw [qG.l212_s]at H
      obtain ⟨J,hE⟩:=hE.at hA
      refine sq fun K216 hK216=>sq fun K217 hK217=>?_
      have J223:∀ kq221,kq221≤k214→∀(G:Nat→Value)(y219:Bool)(a:Act)(w':World),Env 144 G a→At G [(0,.slice A0_0 x0_.length c0_0),(1,.slice (some ad34) x1_.length c1_0),(2,iv x2_),(3,iv x3_),(9,.slice (pb b89) l18.length c17),(10,.slice A70 l72.length c71),(11,iv x22),(12,.pointer (pb b38)),(13,.slice A208 l210.length c209),(14,iv x76),(15,.pointer (pb b93)),(19,.slice A202 t199.length c203),(20,iv x211),(126,.bool y219)]→St W (mine W []) F w' F201 [box b93 #[iv ((nth Ar3_i64.z l18 x76).f0),iv ((nth Ar3_i64.z l18 x76).f1),iv ((nth Ar3_i64.z l18 x76).f2)] 176,box b38 #[iv ((nth qK.z x1_ x22).f0),iv ((nth qK.z x1_ x22).f1),iv ((nth qK.z x1_ x22).f2)] 175,row ki 3 (.slice A202 t199.length c203) t199,row Ar3_i64.k 176 (.slice (pb b89) l18.length c17) l18,row ki 3 (.slice A70 l72.length c71) l72,row Ar3_i64.k 176 (.slice A208 l210.length c209) l210]→qG.j220 kq221 x0_ x1_ x2_ x3_ l18 x22 l72 x76 t199 l210 x211 y219=some r→K217 a w':=by
       intro kq221 hkq G y219 a u224 hE hA hS H
       obtain _ | k222:=kq221
       ·
        exact zz H
       rw [qG.j220_s]at H
       obtain ⟨J,hE⟩:=hE.at hA
       refine hK217 _ _ ?_
       refine hE.ib 126 H (fun c225 hE H=>?_) fun c225 hE H=>?_
       ·
        refine wp_skip (hK216 _ _ (sq fun K226 hK226=>wp_block (sq fun K227 hK227=>pl0 ?_)))
        have hb93:=hS.ba 0
        refine plc hE (.bn 0 0 3 hb93 .nil) (fun a hE=>ple hE (.al (t:=176) hS [iv 0,iv 0,iv 0]) ?_)
        rintro _ u229 a ⟨b228,rfl,hb228,hS,hg⟩ hE
        refine ple hE (.sto hS [iv ((nth Ar3_i64.z l18 x76).f0),iv ((nth Ar3_i64.z l18 x76).f1),iv ((nth Ar3_i64.z l18 x76).f2)]) ?_
        rintro _ u230 a ⟨rfl,hb228,hS,hz⟩ hE
        refine pld (hK227 _ _ (sq fun K231 hK231=>?_))
        have J250:∀ kq248,kq248≤k222→∀(G:Nat→Value)(x244:Int)(x245:Int)(x246:Int)(a:Act)(w':World),Env 144 G a→At G [(0,.slice A0_0 x0_.length c0_0),(1,.slice (some ad34) x1_.length c1_0),(2,iv x2_),(3,iv x3_),(9,.slice (pb b89) l18.length c17),(10,.slice A70 l72.length c71),(11,iv x22),(12,.pointer (pb b38)),(13,.slice A208 l210.length c209),(14,iv x76),(15,.pointer (pb b93)),(19,.slice A202 t199.length c203),(20,iv x211),(21,.pointer (pb b228))]→St W (mine W []) F w' F201 [box b228 #[iv x244,iv x245,iv x246] 176,box b93 #[iv ((nth Ar3_i64.z l18 x76).f0),iv ((nth Ar3_i64.z l18 x76).f1),iv ((nth Ar3_i64.z l18 x76).f2)] 176,box b38 #[iv ((nth qK.z x1_ x22).f0),iv ((nth qK.z x1_ x22).f1),iv ((nth qK.z x1_ x22).f2)] 175,row ki 3 (.slice A202 t199.length c203) t199,row Ar3_i64.k 176 (.slice (pb b89) l18.length c17) l18,row ki 3 (.slice A70 l72.length c71) l72,row Ar3_i64.k 176 (.slice A208 l210.length c209) l210]→qG.j247 kq248 x0_ x1_ x2_ x3_ l18 x22 l72 x76 t199 l210 x211 x244 x245 x246=some r→K231 a w':=by
         intro kq248 hkq G x244 x245 x246 a u251 hE hA hS H
         obtain _ | k249:=kq248
         ·
          exact zz H
         rw [qG.j247_s]at H
         obtain ⟨J,hE⟩:=hE.at hA
         refine hK231 _ _ (pl0 ?_)
         have hb228:=hS.ba 0
         refine plc hE (.r 0 1<|.bn 1 0 3 hb228<|.nil) (fun a hE=>ple hE (.lit (d:=Ar3_i64.k) (e:=176) hS [(⟨x244,x245,x246⟩:Ar3_i64)] (.cons rfl .nil)) ?_)
         rintro _ u252 a ⟨A253,c254,rfl,hS,hg⟩ hE
         obtain ⟨c256,H⟩:=gd H
         replace hS:=hS.front 7 rfl
         refine ple hE (.ap (d:=Ar3_i64.k) 24 hS (qCO (hS.row_at (i:=1) rfl)) c256 c254) ?_
         rintro _ u259 a ⟨A257,c258,rfl,hS,hz⟩ hE
         refine plc hE (.r 4 1 .nil) (fun a hE=>pld ?_)
         refine qCF ?_
         refine hK226 _ _ (pl0 (plc hE (.r 0 3 .nil) (fun a hE=>pld ?_)))
         replace hS:=hS.pm [3,4,5,6,7,0] 8
         exact qCG ⟨k249,by omega,_,A257,c258,(l210++[(⟨x244,x245,x246⟩:Ar3_i64)]),(w64 (x211+1)),by omega,hE,.of,hS,H⟩
        refine drawn 9 ⟨[8],[],fun q=>False⟩ mixed rfl (by kernel_rfl) (fun hst=>?_)
        replace hS:=hS.drew
        have hb38:=hS.ba 2
        obtain ⟨c232,H⟩:=gd H
        have hr233:=hS.ra 3
        have hE_:=hE
        obtain ⟨b234,rfl⟩:=qCK hr233 c232.1 c232.2
        replace hE:=hE_
        have hr_:=hS.ra 3
        obtain ⟨cs236,rfl,hc237⟩:=qCI hr_ 0 x211 c232.1 c232.2
        refine mny 2 hst hE (.r 0 1<|.b 1 1 hb38<|.r 2 3<|.x 5 c232<|.c 6 (hc237 0 _ rfl)<|.nil) (fun a hE=>?_)
        rcases sp H with ⟨c238,H⟩ | ⟨c238,H⟩
        ·
         replace hE:=hE.set (d:=132) (v:=iv 0) (Eq.trans (b:=iv (w64 ((nth qK.z x1_ x22).f1 - 1))) (by kernel_rfl) (congrArg _ c238))
         refine mny 1 hst hE (.r 7 1 .nil) (fun a hE=>?_)
         refine on1 8 hE (.sto hS [iv (nth 0 t199 x211),iv ((nth Ar3_i64.z l18 x76).f1),iv ((nth Ar3_i64.z l18 x76).f2)]) ?_
         rintro _ u239 a ⟨rfl,hb228,hS,hz⟩ hE
         refine ⟨.d,?_⟩
         refine dn ?_
         exact J250 _ (by omega) _ (nth 0 t199 x211) ((nth Ar3_i64.z l18 x76).f1) ((nth Ar3_i64.z l18 x76).f2) _ _ hE .of hS H
        rcases sp H with ⟨c240,H⟩ | ⟨c240,H⟩
        ·
         replace hE:=hE.set (d:=132) (v:=iv 1) (Eq.trans (b:=iv (w64 ((nth qK.z x1_ x22).f1 - 1))) (by kernel_rfl) (congrArg _ c240))
         refine mny 1 hst hE (.r 7 1 .nil) (fun a hE=>?_)
         refine on1 8 hE (.sto hS [iv ((nth Ar3_i64.z l18 x76).f0),iv (nth 0 t199 x211),iv ((nth Ar3_i64.z l18 x76).f2)]) ?_
         rintro _ u241 a ⟨rfl,hb228,hS,hz⟩ hE
         refine ⟨.d,?_⟩
         refine dn ?_
         exact J250 _ (by omega) _ ((nth Ar3_i64.z l18 x76).f0) (nth 0 t199 x211) ((nth Ar3_i64.z l18 x76).f2) _ _ hE .of hS H
        rcases sp H with ⟨c242,H⟩ | ⟨c242,H⟩
        ·
         replace hE:=hE.set (d:=132) (v:=iv 2) (Eq.trans (b:=iv (w64 ((nth qK.z x1_ x22).f1 - 1))) (by kernel_rfl) (congrArg _ c242))
         refine mny 1 hst hE (.r 7 1 .nil) (fun a hE=>?_)
         refine on1 8 hE (.sto hS [iv ((nth Ar3_i64.z l18 x76).f0),iv ((nth Ar3_i64.z l18 x76).f1),iv (nth 0 t199 x211)]) ?_
         rintro _ u243 a ⟨rfl,hb228,hS,hz⟩ hE
         refine ⟨.d,?_⟩
         refine dn ?_
         exact J250 _ (by omega) _ ((nth Ar3_i64.z l18 x76).f0) ((nth Ar3_i64.z l18 x76).f1) (nth 0 t199 x211) _ _ hE .of hS H
        cases (show none=some r from H)
       refine wp_exit ?_
       refine hK85 _ _ (pl0 (plc hE (.r 0 3 .nil) (fun a hE=>pld ?_)))
       replace hS:=hS.pm [1] 3
       exact qCG ⟨k222,by omega,_,A70,c71,l72,A208,c209,l210,(w64 (x76+1)),F201,by omega,hE,.of,hS,g0_0,g1_0,H⟩
      refine pl0 (plc hE (.r 0 5 .nil) (fun a hE=>?_))
      rcases sp H with ⟨c218,H⟩ | ⟨c218,H⟩
      ·
       replace hE:=hE.kt 121 c218
       have hb38:=hS.ba 1
       refine plc hE (.r 5 2<|.b 7 2 hb38<|.r 8 2<|.nil) (fun a hE=>pld ?_)
       exact J223 _ (by omega) _ (decide (x211<(nth qK.z x1_ x22).f2)) _ _ hE .of hS H
      replace hE:=hE.kf 121 c218
      refine plc hE (.r 5 5 .nil) (fun a hE=>pld ?_)
      exact J223 _ (by omega) _ false _ _ hE .of hS H
     refine sq fun K168 hK168=>pl0 ?_
     have hb38:=hS.ba 1
     refine plc hE (.r 0 1<|.b 1 1 hb38<|.r 2 1<|.nil) (fun a hE=>pld (hK168 _ _ ?_))
     refine hE.ik 97 H (fun c169 hE H=>?_) fun c169 hE H=>?_
     ·
      refine pl0 ?_
      have hb93:=hS.ba 0
      refine plc hE (.r 0 2<|.b 2 0 hb93<|.nil) (fun a hE=>?_)
      obtain ⟨t171,h172,H⟩:=bd H
      refine ple hE (.cl en170 (qAN.calls k164 x0_ ((nth Ar3_i64.z l18 x76).f0) _ _ _ _ _ hS.own.sub g0_0 h172)) ?_
      rintro _ u170 a ⟨F173,A174,c175,rfl,hC⟩ hE
      have hs:=hC.sub
      replace hS:=hS.called (X:=[]) hC
      replace g0_0:=g0_0.mono hs
      replace g1_0:=g1_0.mono hs
      refine plc hE (.r 4 1 .nil) (fun a hE=>pld ?_)
      replace hS:=hS.pm [1,2,3,4,5,0] 7
      exact J186 _ (by omega) _ A174 c175 t171 F173 _ _ hE .of hS g0_0 g1_0 H
     refine wp_skip ?_
     exact J186 _ (by omega) _ A158 c159 l160 F161 _ _ hE .of hS g0_0 g1_0 H
    refine sq fun K147 hK147=>pl0 ?_
    have hb38:=hS.ba 2
    refine plc hE (.r 0 1<|.b 1 1 hb38<|.r 2 1<|.nil) (fun a hE=>pld (hK147 _ _ ?_))
    refine hE.ik 92 H (fun c148 hE H=>?_) fun c148 hE H=>?_
    ·
     refine pl0 (plc hE (.r 0 1 .nil) (fun a hE=>?_))
     obtain ⟨t150,h151,H⟩:=bd H
     refine ple hE (.cl en169 (qAQ.calls k80 x0_ _ _ _ _ _ hS.own.sub g0_0 h151)) ?_
     rintro _ u149 a ⟨F152,A153,c154,rfl,hC⟩ hE
     have hs:=hC.sub
     replace hS:=hS.called (X:=[]) hC
     replace g0_0:=g0_0.mono hs
     replace g1_0:=g1_0.mono hs
     refine plc hE (.r 2 1 .nil) (fun a hE=>pld ?_)
     replace hS:=hS.pm [2,3,4,5,6,0] 7
     exact J165 _ (by omega) _ A153 c154 t150 F152 _ _ hE .of hS g0_0 g1_0 H
    refine wp_skip ?_
    replace hS:=hS.pm [1,2,3,4,5,0] 6
    exact J165 _ (by omega) _ A142 c143 t139 F141 _ _ hE .of hS g0_0 g1_0 H
   refine wp_exit ?_
   refine hK66 _ _ (pl0 (plc hE (.r 0 2 .nil) (fun a hE=>pld ?_)))
   refine qCF ?_
   refine hK31 _ _ (pl0 (plc hE (.r 0 3 .nil) (fun a hE=>pld ?_)))
   replace hS:=hS.pm [3,2] 4
   exact qCG ⟨k80,by omega,_,A73,c74,l75,A70,c71,l72,(w64 (x22+1)),F77,by omega,hE,.of,hS,g0_0,g1_0,H⟩
  refine sq fun K47 hK47=>pl0 ?_
  have hb38:=hS.ba 1
  refine plc hE (.r 0 1<|.b 1 0 hb38<|.r 2 1<|.nil) (fun a hE=>pld (hK47 _ _ ?_))
  refine hE.ik 37 H (fun c48 hE H=>?_) fun c48 hE H=>?_
  ·
   refine pl0 (plc hE (.r 0 2 .nil) (fun a hE=>ple hE (.lit (d:=Ar3_i64.k) (e:=176) hS [(⟨0,0,0⟩:Ar3_i64)] (.cons rfl .nil)) ?_))
   rintro _ u49 a ⟨A50,c51,rfl,hS,hg⟩ hE
   obtain ⟨c53,H⟩:=gd H
   replace hS:=hS.front 1 rfl
   refine ple hE (.ap (d:=Ar3_i64.k) 24 hS (qCO (hS.row_at (i:=1) rfl)) c53 c51) ?_
   rintro _ u56 a ⟨A54,c55,rfl,hS,hz⟩ hE
   refine plc hE (.r 4 1 .nil) (fun a hE=>pld ?_)
   replace hS:=hS.pm [2,3,4,0] 5
   exact J64 _ (by omega) _ A54 c55 (([]:List Ar3_i64)++[(⟨0,0,0⟩:Ar3_i64)]) _ _ hE .of hS H
  refine wp_skip ?_
  replace hS:=hS.pm [1,2,3,0] 4
  exact J64 _ (by omega) _ A43 c44 ([]:List Ar3_i64) _ _ hE .of hS H
 refine wp_exit ?_
 refine hK12 _ _ (rr hE fun a hE=>(wp_ret ?_))
 replace hS:=hS.tail
 obtain rfl:=si H
 exact rt1 hE ⟨_,rfl,_,_,_,rfl,hS⟩
def qAU.j12:Nat→List qA→Int→Int→Bool→Option (List Int)
 | 0,_,_,_,_=>none
 | k+1,x0_,x1_,x2_,y11=>if y11=true then (some []) else ((qAz.f x2_).bind fun t22=>((qG.f k x0_ t22 x1_ x2_).bind fun t32=>(some t32)))
theorem qAU.j12_s k x0_ x1_ x2_ y11:type_of% (qAU.j12.eq_2 x0_ x1_ x2_ y11 k):=qAU.j12.eq_2 x0_ x1_ x2_ y11 k
def qAU.f(k:Nat)(x0_:List qA)(x1_:Int)(x2_:Int):Option (List Int):=(qm.f k x0_).bind fun t5=>(if t5=true then (if x1_<0 then (qAU.j12 k x0_ x1_ x2_ true) else (if x1_>7 then (qAU.j12 k x0_ x1_ x2_ true) else (if x2_<1 then (qAU.j12 k x0_ x1_ x2_ true) else (qAU.j12 k x0_ x1_ x2_ (decide (x2_>3)))))) else (qAU.j12 k x0_ x1_ x2_ true))
def qAU.Post(W F:World)(r:List Int)(v:Value)(w':World):Prop:=∃(F':World)(RA0_0:Option Addr)(rc0_0:Nat),v = .slice RA0_0 r.length rc0_0∧St W (mine W []) F w' F' [row ki 3 (.slice RA0_0 r.length rc0_0) r]
theorem qAU.calls(k:Nat)(x0_:List qA)(x1_:Int)(x2_:Int)(A0_0:Option Addr)(c0_0:Nat)(r:List Int)(W F:World)(hown:Sub F W)(g0_0:Rd qA.k F A0_0 c0_0 x0_)(H:qAU.f k x0_ x1_ x2_=some r):
    Calls Tryz.prog 73 #[.slice A0_0 x0_.length c0_0,iv x1_,iv x2_] W fun e w'=>∃ v,e = .returned v∧qAU.Post W F r v w':=by
 have hS:=St.start (Own.nil hown)
 unfold qAU.f at H
 refine enter (n:=32) rfl rfl rfl (Nat.le_of_ble_eq_true rfl) (fun a hE=>?_)
 refine rr hE fun a hE=>(sq fun K2 hK2=>sq fun K3 hK3=>?_)
 have J15:∀ kq13,kq13≤k→∀(G:Nat→Value)(y11:Bool)(a:Act)(w':World),Env 32 G a→At G [(0,.slice A0_0 x0_.length c0_0),(1,iv x1_),(2,iv x2_),(25,.bool y11)]→St W (mine W []) F w' F []→qAU.j12 kq13 x0_ x1_ x2_ y11=some r→K3 a w':=by
  intro kq13 hkq G y11 a u16 hE hA hS H
  obtain _ | k14:=kq13
  ·
   exact zz H
  rw [qAU.j12_s]at H
  obtain ⟨J,hE⟩:=hE.at hA
  refine hK3 _ _ ?_
  refine hE.ib 25 H (fun c17 hE H=>?_) fun c17 hE H=>?_
  ·
   refine rr hE fun a hE=>(wp_ret (qCD ?_))
   replace hS:=hS.nilrow ki 3
   obtain rfl:=si H
   exact rt1 hE ⟨_,rfl,_,_,_,rfl,hS⟩
  refine wp_skip (hK2 _ _ (sq fun K20 hK20=>pl0 (plc hE (.r 0 2 .nil) (fun a hE=>?_))))
  obtain ⟨t22,h23,H⟩:=bd H
  refine ple hE (.cl en124 (qAz.calls x2_ _ _ _ hS.own.sub h23)) ?_
  rintro _ u21 a ⟨F24,A25,c26,rfl,hC⟩ hE
  have hs:=hC.sub
  replace hS:=hS.called (X:=[]) hC
  replace g0_0:=g0_0.mono hs
  refine plc hE (.r 3 2 .nil) (fun a hE=>?_)
  obtain ⟨F29,hs,g30,hS⟩:=hS.give
  replace g0_0:=g0_0.mono hs
  obtain ⟨t32,h33,H⟩:=bd H
  refine ple hE (.cl en123 (qG.calls k14 x0_ t22 x1_ x2_ _ _ _ _ _ _ _ hS.own.sub g0_0 g30 h33)) ?_
  rintro _ u31 a ⟨F34,A35,c36,rfl,hC⟩ hE
  have hs:=hC.sub
  replace hS:=hS.called (X:=[]) hC
  replace g0_0:=g0_0.mono hs
  replace g30:=g30.mono hs
  refine plc hE (.r 6 1 .nil) (fun a hE=>pld (hK20 _ _ (wp_ret ?_)))
  obtain rfl:=si H
  exact rt1 hE ⟨_,rfl,_,_,_,rfl,hS⟩
 refine pl0 (plc hE (.r 0 1 .nil) (fun a hE=>?_))
 obtain ⟨t5,h6,H⟩:=bd H
 refine ple hE (.cl en67 (qm.calls k x0_ _ _ _ _ _ hS.own.sub g0_0 h6)) ?_
 rintro _ u4 a ⟨_,rfl,hC⟩ hE
 replace hS:=hS.lent hC
 refine plc hE (.r 2 2 .nil) (fun a hE=>?_)
 rcases sp H with ⟨c7,H⟩ | ⟨c7,H⟩
 ·
  replace hE:=hE.btn 10 c7
  refine plc hE (.r 4 4 .nil) (fun a hE=>?_)
  rcases sp H with ⟨c8,H⟩ | ⟨c8,H⟩
  ·
   replace hE:=hE.kt 14 c8
   refine plc hE (.r 8 11 .nil) (fun a hE=>pld ?_)
   exact J15 _ (by omega) _ true _ _ hE .of hS H
  replace hE:=hE.kf 14 c8
  refine plc hE (.r 8 4 .nil) (fun a hE=>?_)
  rcases sp H with ⟨c9,H⟩ | ⟨c9,H⟩
  ·
   replace hE:=hE.kt 18 c9
   refine plc hE (.r 12 7 .nil) (fun a hE=>pld ?_)
   exact J15 _ (by omega) _ true _ _ hE .of hS H
  replace hE:=hE.kf 18 c9
  refine plc hE (.r 12 4 .nil) (fun a hE=>?_)
  rcases sp H with ⟨c10,H⟩ | ⟨c10,H⟩
  ·
   replace hE:=hE.kt 22 c10
   refine plc hE (.r 16 3 .nil) (fun a hE=>pld ?_)
   exact J15 _ (by omega) _ true _ _ hE .of hS H
  replace hE:=hE.kf 22 c10
  refine plc hE (.r 16 3 .nil) (fun a hE=>pld ?_)
  exact J15 _ (by omega) _ (decide (x2_>3)) _ _ hE .of hS H
 replace hE:=hE.bfn 10 c7
 refine plc hE (.r 4 15 .nil) (fun a hE=>pld ?_)
 exact J15 _ (by omega) _ true _ _ hE .of hS H
def qAV.j12:Nat→qJ→Int→Bool→Option (List Int)
 | 0,_,_,_=>none
 | k+1,x0_,x1_,y11=>if y11=true then (some []) else ((qAY.f k x0_ x1_).bind fun t22=>(if (t22.length:Int)>0 then (some t22) else ((qAU.f k x0_.f4 x1_ x0_.f1).bind fun t33=>(some t33))))
theorem qAV.j12_s k x0_ x1_ y11:type_of% (qAV.j12.eq_2 x0_ x1_ y11 k):=qAV.j12.eq_2 x0_ x1_ y11 k
def qAV.f(k:Nat)(x0_:qJ)(x1_:Int):Option (List Int):=(qa.f k x0_).bind fun t7=>(if t7=true then (if x1_<0 then (qAV.j12 k x0_ x1_ true) else (qAV.j12 k x0_ x1_ (decide (x1_≥x0_.f3)))) else (qAV.j12 k x0_ x1_ true))
def qAV.Post(W F:World)(r:List Int)(v:Value)(w':World):Prop:=∃(F':World)(RA0_0:Option Addr)(rc0_0:Nat),v = .slice RA0_0 r.length rc0_0∧St W (mine W []) F w' F' []∧Rd ki F' RA0_0 rc0_0 r
theorem qAV.calls(k:Nat)(x0_:qJ)(x1_:Int)(A0_4:Option Addr)(c0_4:Nat)(A0_5:Option Addr)(c0_5:Nat)(A0_6:Option Addr)(c0_6:Nat)(r:List Int)(W F:World)(hown:Sub F W)(g0_4:Rd qA.k F A0_4 c0_4 x0_.f4)(g0_5:Rd qM.k F A0_5 c0_5 x0_.f5)(g0_6:Rd qF.k F A0_6 c0_6 x0_.f6)(H:qAV.f k x0_ x1_=some r):
    Calls Tryz.prog 23 #[.agg #[iv x0_.f0,iv x0_.f1,iv x0_.f2,iv x0_.f3,.slice A0_4 x0_.f4.length c0_4,.slice A0_5 x0_.f5.length c0_5,.slice A0_6 x0_.f6.length c0_6],iv x1_] W fun e w'=>∃ v,e = .returned v∧qAV.Post W F r v w':=by
 have hS:=St.start (Own.nil hown)
 unfold qAV.f at H
 refine enter (n:=32) rfl rfl rfl (Nat.le_of_ble_eq_true rfl) (fun a hE=>?_)
 refine sq fun K1 hK1=>pl0 (ple hE (.bx (t:=26) hS [iv x0_.f0,iv x0_.f1,iv x0_.f2,iv x0_.f3,.slice A0_4 x0_.f4.length c0_4,.slice A0_5 x0_.f5.length c0_5,.slice A0_6 x0_.f6.length c0_6]) ?_)
 rintro _ u3 a ⟨b2,rfl,hb2,hS,hg⟩ hE
 refine plc hE (.r 1 1 .nil) (fun a hE=>pld (hK1 _ _ (sq fun K4 hK4=>sq fun K5 hK5=>?_)))
 have J15:∀ kq13,kq13≤k→∀(G:Nat→Value)(y11:Bool)(a:Act)(w':World),Env 32 G a→At G [(1,iv x1_),(2,.pointer (pb b2)),(18,.bool y11)]→St W (mine W []) F w' F [box b2 #[iv x0_.f0,iv x0_.f1,iv x0_.f2,iv x0_.f3,.slice A0_4 x0_.f4.length c0_4,.slice A0_5 x0_.f5.length c0_5,.slice A0_6 x0_.f6.length c0_6] 26]→qAV.j12 kq13 x0_ x1_ y11=some r→K5 a w':=by
  intro kq13 hkq G y11 a u16 hE hA hS H
  obtain _ | k14:=kq13
  ·
   exact zz H
  rw [qAV.j12_s]at H
  obtain ⟨J,hE⟩:=hE.at hA
  refine hK5 _ _ ?_
  refine hE.ib 18 H (fun c17 hE H=>?_) fun c17 hE H=>?_
  ·
   refine rr hE fun a hE=>(wp_ret (qCD ?_))
   replace hS:=hS.tail
   obtain rfl:=si H
   exact rt1 hE ⟨_,rfl,_,_,_,rfl,hS,(Rd.nil _ _)⟩
  refine wp_skip (hK4 _ _ (sq fun K19 hK19=>sq fun K20 hK20=>pl0 ?_))
  have hb2:=hS.ba 0
  refine plc hE (.bn 0 0 7 hb2<|.r 1 1<|.nil) (fun a hE=>?_)
  obtain ⟨t22,h23,H⟩:=bd H
  refine ple hE (.cl en72 (qAY.calls k14 x0_ x1_ _ _ _ _ _ _ _ _ _ hS.own.sub g0_4 g0_5 g0_6 h23)) ?_
  rintro _ u21 a ⟨F24,A25,c26,rfl,hC,g27⟩ hE
  have hs:=hC.sub
  replace hS:=hS.called (X:=[]) hC
  replace g0_4:=g0_4.mono hs
  replace g0_5:=g0_5.mono hs
  replace g0_6:=g0_6.mono hs
  refine plc hE (.r 3 1 .nil) (fun a hE=>pld (hK20 _ _ (rr hE fun a hE=>?_)))
  refine hE.ik 24 H (fun c29 hE H=>?_) fun c29 hE H=>?_
  ·
   refine rr hE fun a hE=>(wp_ret (qCD ?_))
   replace hS:=hS.tail
   obtain rfl:=si H
   exact rt1 hE ⟨_,rfl,_,_,_,rfl,hS,g27⟩
  refine wp_skip (hK19 _ _ (sq fun K31 hK31=>pl0 ?_))
  have hb2:=hS.ba 0
  refine plc hE (.r 0 1<|.b 1 4 hb2<|.r 2 2<|.b 4 1 hb2<|.nil) (fun a hE=>?_)
  obtain ⟨t33,h34,H⟩:=bd H
  refine ple hE (.cl en73 (qAU.calls k14 x0_.f4 x1_ x0_.f1 _ _ _ _ _ hS.own.sub g0_4 h34)) ?_
  rintro _ u32 a ⟨F35,A36,c37,rfl,hC⟩ hE
  have hs:=hC.sub
  replace hS:=hS.called (X:=[]) hC
  replace g27:=g27.mono hs
  replace g0_4:=g0_4.mono hs
  replace g0_5:=g0_5.mono hs
  replace g0_6:=g0_6.mono hs
  refine plc hE (.r 6 1 .nil) (fun a hE=>pld (hK31 _ _ (wp_ret ?_)))
  obtain ⟨F40,hs,g41,hS⟩:=hS.give
  replace g27:=g27.mono hs
  replace g0_4:=g0_4.mono hs
  replace g0_5:=g0_5.mono hs
  replace g0_6:=g0_6.mono hs
  replace hS:=hS.tail
  obtain rfl:=si H
  exact rt1 hE ⟨_,rfl,_,_,_,rfl,hS,g41⟩
 refine pl0 (plc hE (.bn 0 0 7 hb2 .nil) (fun a hE=>?_))
 obtain ⟨t7,h8,H⟩:=bd H
 refine ple hE (.cl en19 (qa.calls k x0_ _ _ _ _ _ _ _ _ _ hS.own.sub g0_4 g0_5 g0_6 h8)) ?_
 rintro _ u6 a ⟨_,rfl,hC⟩ hE
 replace hS:=hS.lent hC
 refine plc hE (.r 2 2 .nil) (fun a hE=>?_)
 rcases sp H with ⟨c9,H⟩ | ⟨c9,H⟩
 ·
  replace hE:=hE.btn 9 c9
  refine plc hE (.r 4 4 .nil) (fun a hE=>?_)
  rcases sp H with ⟨c10,H⟩ | ⟨c10,H⟩
  ·
   replace hE:=hE.kt 13 c10
   refine plc hE (.r 8 5 .nil) (fun a hE=>pld ?_)
   exact J15 _ (by omega) _ true _ _ hE .of hS H
  replace hE:=hE.kf 13 c10
  have hb2:=hS.ba 0
  refine plc hE (.r 8 2<|.b 10 3 hb2<|.r 11 2<|.nil) (fun a hE=>pld ?_)
  exact J15 _ (by omega) _ (decide (x1_≥x0_.f3)) _ _ hE .of hS H
 replace hE:=hE.bfn 9 c9
 refine plc hE (.r 4 9 .nil) (fun a hE=>pld ?_)
 exact J15 _ (by omega) _ true _ _ hE .of hS H
end Go.Proofs.YtpohepinmjmbkaaGreat.QD
